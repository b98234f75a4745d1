/-
  Part of the proof that FnProtection returns true at every input.
-/
import Derived.Test.YtfmhphgpijjejaaGreatWe
import Derived.Test.YtfmhphgpijjejaaGreatHa
set_option linter.defProp false
set_option linter.unusedSimpArgs false
set_option linter.unusedVariables false
open Option renaming bind_some -> A0, isSome_iff_exists -> G1, isSome_some -> K0, map_some -> O7, map_map -> P1
open List renaming getElem?_eq_getElem -> A1, getElem?_eq_some_iff -> A2, mem_of_getElem? -> A3, length_append -> A7, range -> A9, append_assoc -> B3, length_cons -> B4, getElem?_of_mem -> B5, pairwise_iff_getElem -> B6, length_pos_iff -> B8, length_nil -> B9, getElem?_map -> C0, length_singleton -> C1, any_eq_true -> C2, length_take -> C5, mem_append -> C6, length_pos_of_mem -> C7, mem_singleton -> C8, mem_cons -> C9, length_eq_zero_iff -> D6, append_nil -> D7, map_cons -> D8, mem_map -> D9, getElem?_take -> E0, mem_cons_self -> E8, countP_append -> E9, mem_cons_of_mem -> F3, pairwise_append -> F4, getElem?_append_right -> F7, getElem?_append_left -> F8, getElem_mem -> F9, pairwise_cons -> G0, any_eq_false -> G2, take_add_one -> G3, map_append -> G4, take_of_length_le -> G6, filter_append -> G8, length_map -> G9, sum_cons -> H1, zipIdx_cons -> H2, getElem_map -> H3, find?_cons -> H4, range_succ -> H5, mem_range -> H7, mem_filter -> I0, nodup_cons -> I1, sum_append -> I3, getElem?_cons_zero -> I5, length_filter_le -> I7, take_append_drop -> I8, cons_append -> I9, length_drop -> J0, take_append_of_le_length -> J3, getElem?_range -> J5, filter_eq_self -> J6, map_nil -> J7, sum_nil -> J8, drop_zero -> J9, getElem?_drop -> K3, length_range -> K5, countP_congr -> K7, Pairwise -> K8, filter_cons -> K9, not_mem_nil -> L0, getElem?_cons_succ -> L3, mem_flatMap -> L4, filter_cons_of_pos -> L5, all_eq_not_any_not -> L6, length_eq_one_iff -> L7, zipIdx_nil -> L8, nil_append -> L9, foldl_cons -> M0, length_set -> M1, getElem?_eq_none -> M2, singleton_append -> M3, eq_nil_or_concat -> M4, concat_eq_append -> M5, find?_nil -> M6, mem_append_left -> M7, replicate -> M9, getElem_of_mem -> N5, filterMap_cons -> N6, drop_succ_cons -> N7, mem_filterMap -> N9, ext_getElem? -> O2, take_length -> O4, countP_map -> O9, nodup_nil -> P2, take_zero -> P4
open Go.IntKind renaming wrap -> A5, bits -> B1
open Int renaming toNat_natCast -> A6, toNat -> B2, eq_ofNat_of_zero_le -> D3, fdiv -> G5, fdiv_eq_ediv_of_nonneg -> H8, le_refl -> K6, mul_nonneg -> N2, mul_le_mul -> N3, natCast_nonneg -> O0, tmod_lt_of_pos -> O1, le_of_lt -> O3, tmod_nonneg -> P0, tmod -> P5, one_mul -> P9
open Bool renaming and_eq_true -> A8, not_true -> B0, true_and -> B7, eq_iff_iff -> C3, false_eq_true -> C4, not_eq_true' -> D4, or_eq_false_iff -> D5, not_false -> F6, false_or -> G7, and_true -> H9, not_eq_false' -> I4, eq_false_iff -> K4, false_and -> M8, and_self -> N8, or_eq_true -> O6, and_false -> P3, not_not -> P7
open Nat renaming zero_add -> D0, le_refl -> F0, testBit_two_pow_mul_add -> F5, pow_le_pow_right -> H0, lt_trichotomy -> H6, testBit_and -> I2, or_lt_two_pow -> I6, mod_eq_of_lt -> J1, and_two_pow_sub_one_eq_mod -> J2, and_le_left -> J4, lt_of_le_of_lt -> K1, add_sub_cancel -> K2, zero_le -> N1, eq_of_testBit_eq -> N4, zero_testBit -> O5, two_pow_pos -> O8, add_assoc -> P6, le_trans -> P8
namespace Vs
open Go
def oe(xs:(List ByteArray)):Nat:=xs.length+(xs.map fun x=>x.size).sum
def sn(xs:(List aH)):Nat:=xs.length
def bJ(x:af):Nat:=oe x.N+sn x.F
def acn(xs:(List Int)):Nat:=xs.length
def lp(x:aj):Nat:=acn x.F
def fK(x:ae):Nat:=lp x.N+lp x.F
def bG(xs:(List ae)):Nat:=xs.length+(xs.map fun x=>fK x).sum
end Vs

namespace Vs
open Go
def wi(x a b:Int):Bool:=decide (a<=x)&&decide (x<=b)
theorem bQ{x a b:Int}:wi x a b=true↔a<=x/\x<=b:=by simp[wi]
def qV{x a b:Int}:wi x a b=false↔¬(a<=x/\x<=b):=by rw[<-bQ];simp
theorem dR(x a b:Int):M_h x a b=some (wi x a b):=by
 grind [M_h,wi]
theorem iW(x a b:Int):M_g x a b=some (wi x a b):=by
 grind [M_g,wi]
def tT(c:UInt8):Bool:=decide (97<=c.toNat)&&decide (c.toNat<=122)
def zu(c:UInt8):Bool:=decide (48<=c.toNat)&&decide (c.toNat<=57)
def gO(i:Nat)(c:UInt8):Bool:=!tT c&&(!zu c||i==0)
def qP(s:ByteArray):Bool:=!fh gO s.data.toList&&wi s.size 1 8
theorem re(s:ByteArray)(i:Nat):wA s (i:Int)=s.data.toList[i]?:=by
 unfold wA;rw[u7 (by omega),A6];by_cases h:i<s.size
 ·have h2:i<s.data.toList.length:=by simpa using h
  rw[getElem?_pos s i h,A1 h2];rfl
 simp_all
def fX(s:ByteArray):s.size=s.data.toList.length:=by simp_all
theorem BR(c:UInt8):tT c=(decide (97<=(c.toNat:Int))&&decide ((c.toNat:Int)<=122)):=by
 unfold tT
 grind
theorem Qz(c:UInt8):zu c=(decide (48<=(c.toNat:Int))&&decide ((c.toNat:Int)<=57)):=by
 unfold zu
 grind
theorem LB(s:ByteArray)(hl:s.size<=1048576):Lt s=some (qP s):=by
 unfold Lt qP;rw[fX] at*
 rw[et (f:=IJ s) s.data.toList gO (.inr false) (.inl ()) (fun i c hc _=>by
  have hlt:=(A2.1 hc).1;have h1:decide ((i:Int)<s.size)=true:=g7 (by rw[fX];omega);simp only[IJ,h1,cond_true,re,hc,A0,gO,BR,Qz];rw[az (by omega) (by omega)];have hi:((i:Int)==0)=(i==0):=by rw[C3];simp
  rw[hi];cases decide (97<=(c.toNat:Int))<;>cases decide ((c.toNat:Int)<=122)<;>cases decide (48<=(c.toNat:Int))<;>cases decide ((c.toNat:Int)<=57)<;>cases(i==0)<;>rfl) (by simp[IJ]) (by omega)]
 rw[<-fX];cases fh gO s.data.toList<;>simp[dR]
theorem Ls(c:UInt8):Ml (c.toNat:Int)=some (tT c||zu c):=by
 grind [BR,Qz,Ml,decide]
def fstc(c:UInt8):(cond (decide ((c.toNat:Int)<97)) (some true) (some (decide (122<(c.toNat:Int)))):Option Bool)=some (!tT c):=by
 rw[BR];by_cases h1:(c.toNat:Int)<97
 ·simp_all
 ·have h2:97<=(c.toNat:Int):=by omega
  simp only[h1,decide_false,cond_false,h2,decide_true,B7];by_cases h3:122<(c.toNat:Int)
  ·simp_all
  simp_all
theorem Ob(s:ByteArray)(hl:s.size<=1048576):Mf s=some (qP s):=by
 unfold Mf qP;simp only[iW,A0];rcases bt (wi s.size 1 8) with hw|hw
 ·simp only[hw,B0,cond_false,H9];have hs:0<s.data.toList.length:=by rw[<-fX];have:=(bQ.1 hw).1;omega
  have h0:s.data.toList[0]?=some s.data.toList[0]:=A1 hs;have g0:wA s 0=some s.data.toList[0]:=by rw[<-h0];exact re s 0
  simp only[g0,A0];have key:=et (f:=M_a s) s.data.toList (fun _ c=>!(tT c||zu c)) (.inr false) (.inl ()) (fun i c hc _=>by
   have hlt:=(A2.1 hc).1;have h1:decide ((i:Int)<s.size)=true:=g7 (by rw[fX];omega);rw[fX] at hl;simp only[M_a,h1,cond_true,re,hc,A0,Ls];rw[az (by omega) (by omega)];cases tT c<;>cases zu c<;>rfl) (by simp[M_a]) (by rw[fX] at hl;omega)
  rw[fstc];simp only[A0,key];rcases bt (tT s.data.toList[0]) with hL|hL
  ·simp only[hL,B0,cond_false];have e:fh (fun _ c=>!(tT c||zu c)) s.data.toList=fh gO s.data.toList:=by
    refine Ci fun i c hc _=>?_;unfold gO;by_cases hi:i=0
    ·subst hi;rw[h0] at hc;cases hc;rw[hL];rfl
    ·have:(i==0)=false:=by simpa using hi
     rw[this];cases tT c<;>cases zu c<;>rfl
   rw[e];cases fh gO s.data.toList<;>rfl
  ·have:fh gO s.data.toList=true:=gh.2 ⟨0,_,h0,by unfold gO;rw[hL];simp⟩;simp only[hL,this,F6,cond_true,B0]
 ·simp[hw]
def agx(v:ByteArray)(xs:List ByteArray):Option (Nat×ByteArray):=cD (fun _ x=>x.toList==v.toList) xs
def XY(v:ByteArray)(xs:List ByteArray):Int:=match agx v xs with|some q=>(q.1:Int)|none=>-1
theorem Nv(xs:List ByteArray)(v:ByteArray)(hl:xs.length<=1048576):Ot xs v=some (XY v xs):=by
 unfold Ot XY;rw[cO (f:=IL xs v) xs (fun _ x=>x.toList==v.toList) (fun i _=>(i:Int)) () (fun i x hx _=>by
  have hlt:=(A2.1 hx).1;have h1:decide ((i:Int)<xs.length)=true:=by simp[hlt]
  simp only[IL,h1,cond_true,aV,hx,A0]
  grind [az]) (by simp[IL]) (by omega)]
 grind [agx,cD]
theorem vD(xs:List ByteArray)(v:ByteArray)(hl:xs.length<=1048576):OX xs v=some (xs.any fun x=>x.toList==v.toList):=by
 unfold OX Tj;rw[cO (f:=IZ xs v) xs (fun _ x=>x.toList==v.toList) (fun i _=>(i:Int)) () (fun i x hx _=>by
  have hlt:=(A2.1 hx).1;have h1:decide ((i:Int)<xs.length)=true:=by simp[hlt]
  simp only[IZ,h1,cond_true,aV,hx,A0];rw[az (by omega) (by omega),show(v.toList==x.toList)=(x.toList==v.toList) from Bool.beq_comm ..];cases x.toList==v.toList<;>rfl) (by simp[IZ]) (by omega)]
 cases e:cD (fun _ x=>x.toList==v.toList) xs with
 | none =>
   have:=dE.1 e;have h:(xs.any fun x=>x.toList==v.toList)=false:=by
    rw[<-mZ (fun x:ByteArray=>x.toList==v.toList),cC];exact this
   rw[h];rfl
 | some q =>
   obtain⟨i,x⟩:=q;obtain⟨h1,h2,_⟩:=cA.1 e;have h:(xs.any fun x=>x.toList==v.toList)=true:=C2.2 ⟨x,A3 h1,h2⟩;rw[h];simp
def dp(x y:Int):Int:=if x<y then -1 else if y<x then 1 else 0
theorem xF(x y:Int):lE x y=some (dp x y):=by
 grind [lE,Jv,dp]
def Bl(f g:aH):Int:=if f.A≠g.A then dp f.A g.A else if f.B≠g.B then dp f.B g.B else if f.N≠g.N then dp f.N g.N else dp f.F g.F
theorem cE{x y:Int}:dp x y=0↔x=y:=by
 grind [dp]
theorem pp(f g:aH):Qy f g=some (Bl f g):=by
 unfold Qy;simp only[xF,A0,bnd];unfold oh;have key:=cO (f:=M_l [dp f.A g.A,dp f.B g.B,dp f.N g.N,dp f.F g.F]) [dp f.A g.A,dp f.B g.B,dp f.N g.N,dp f.F g.F] (fun _ x=>x !=0) (fun _ x=>x) () (fun i x hx _=>by
  have hlt:=(A2.1 hx).1;have h1:decide ((i:Int)<([dp f.A g.A,dp f.B g.B,dp f.N g.N,dp f.F g.F].length:Nat))=true:=g7 (by omega);simp only[B4,B9] at hlt;simp only[M_l,h1,cond_true,aV,hx,A0]
  grind [az]) (by simp[M_l]) (by simp)
 rw[key];unfold Bl cD;simp only[H2,L8,H4,M6];by_cases h1:f.A=g.A
 ·rw[cE.2 h1];by_cases h2:f.B=g.B
  ·rw[cE.2 h2];by_cases h3:f.N=g.N
   ·rw[cE.2 h3]
    grind
   ·have:(dp f.N g.N !=0)=true:=bne_iff_ne.2 fun e=>h3 (cE.1 e);simp[h1,h2,h3,this]
  ·have:(dp f.B g.B !=0)=true:=bne_iff_ne.2 fun e=>h2 (cE.1 e);simp[h1,h2,this]
 ·have:(dp f.A g.A !=0)=true:=bne_iff_ne.2 fun e=>h1 (cE.1 e);simp[h1,this]
end Vs

namespace Vs
open Go
theorem FC{α:Type}(xs:List α)(i:Nat)(h:i<=xs.length):slT xs (i:Int)=some (xs.take i):=by
 simp_all [if_pos,slT]
def Le{n:af}(h:bJ n<=1048576):n.N.length<=1048576/\n.F.length<=1048576/\∀x∈n.N,x.size<=1048576:=by
 unfold bJ oe sn at h;refine⟨by omega,by omega,fun x hx=>?_⟩;obtain⟨i,hi,rfl⟩:=N5 hx;have:n.N[i].size<=(n.N.map fun x:ByteArray=>x.size).sum:=Bw (fun x:ByteArray=>x.size) (xs:=n.N) (i:=i) (x:=n.N[i]) (by simp[hi]);omega
def jQ(n:af)(i:Nat)(x:ByteArray):Bool:=!qP x||(n.N.take i).any fun y=>y.toList==x.toList
def BZ(m:Nat)(f:aH):Bool:=decide (f.A<0)||decide (f.B<=f.A)||decide ((m:Int)<=f.B)||!wi f.N 1 5000||!wi f.F 0 9
def iO(n:af)(i:Nat)(f:aH):Bool:=BZ n.N.length f||(decide (0<i)&&match n.F[i-1]? with|some g=>decide (0<Bl g f)|none=>false)
def bA(n:af):Bool:=!fh (jQ n) n.N&&!fh (iO n) n.F&&wi n.N.length 2 8&&decide (n.F.length<=14)
def fZ(n:af)(hz:bJ n<=1048576):De n=some (bA n):=by
 obtain⟨h1,h2,h3⟩:=Le hz;unfold De bA;rw[et (f:=GI n) n.N (jQ n) (.inr false) (.inl ()) (fun i x hx _=>by
  have hlt:=(A2.1 hx).1;have e1:decide ((i:Int)<n.N.length)=true:=by simp[hlt]
  simp only[GI,e1,cond_true,aV,hx,A0,LB x (h3 x (A3 hx)),FC n.N i (Nat.le_of_lt hlt),vD (n.N.take i) x (by simp;omega),jQ];rw[az (by omega) (by omega)];rcases bt (qP x) with e|e<;>rcases bt ((n.N.take i).any (fun y=>y.toList==x.toList)) with e'|e'<;>simp only[e,e']<;>rfl) (by simp[GI]) (by omega)]
 rcases bt (fh (jQ n) n.N) with hN|hN
 ·simp[hN]
 ·simp only[hN,C4,if_false,A0,F6,B7];rw[et (f:=JZ n) n.F (iO n) (.inr false) (.inl ()) (fun i x hx _=>by
   have hlt:=(A2.1 hx).1;have e1:decide ((i:Int)<n.F.length)=true:=by simp[hlt]
   simp only[JZ,e1,cond_true,aV,hx,A0,dR];rw[az (n:=(i:Int)+1) (by omega) (by omega)];unfold iO BZ;cases decide (x.A<0)
   ·cases decide (x.B<=x.A)
    ·cases decide ((n.N.length:Int)<=x.B)
     ·cases wi x.N 1 5000
      ·rfl
      ·cases wi x.F 0 9
       ·rfl
       ·by_cases hi:0<i
        ·have hi':decide ((0:Int)<(i:Int))=true:=by simp[hi]
         have hp:n.F[i-1]?=some n.F[i-1]:=A1 (by omega);have hw:A5 .i64 ((i:Int)-1)=((i-1:Nat):Int):=by rw[az (by omega) (by omega)];omega
         simp only[hi',cond_true,cond_false,B0,hw,aV,hp,A0,pp,hi,decide_true,B7,G7];cases decide (0<Bl n.F[i-1] x)<;>rfl
        ·have hi':decide ((0:Int)<(i:Int))=false:=by simp;omega
         simp[hi',hi]
     ·rfl
    ·rfl
   ·rfl) (by simp[JZ]) (by omega)]
  rcases bt (fh (iO n) n.F) with hF|hF
  ·simp[hF]
  ·simp only[hF,C4,if_false,A0,F6,B7,dR];have e:decide ((n.F.length:Int)<=14)=decide (n.F.length<=14):=decide_eq_decide.2 (by omega);rw[e];cases wi n.N.length 2 8<;>rfl
theorem Qe(n:af)(i:Nat)(x:ByteArray)(hx:n.N[i]?=some x):
 (XY x n.N !=(i:Int))=(n.N.take i).any fun y=>y.toList==x.toList:=by
 unfold XY;cases e:agx x n.N with
 | none =>
   have:=dE.1 e i x hx;simp at this
 | some q =>
   obtain⟨j,y⟩:=q;obtain⟨h1,h2,h3⟩:=cA.1 e;simp only;by_cases hj:j=i
   ·subst hj;have:((n.N.take j).any fun y=>y.toList==x.toList)=false:=by
     rw[G2];intro z hz;obtain⟨k,hk,rfl⟩:=N5 hz;simp only[C5] at hk;have:=h3 k (n.N.take j)[k] (by omega) (by rw[List.getElem_take];exact A1 (by omega));rw[this];simp
    rw[this];simp
   ·have hji:j<i:=by
     rcases H6 j i with h|h|h
     ·exact h
     ·exact(hj h).elim
     ·have:=h3 i x h hx;simp at this
    have:((n.N.take i).any fun y=>y.toList==x.toList)=true:=C2.2 ⟨y,by
     have:(n.N.take i)[j]?=some y:=by rw[E0,u7 hji];exact h1
     exact A3 this,h2⟩
    rw[this];simp;omega
theorem Hg(f:aH)(m:Nat)(hm:m<=8)(hm2:2<=m):LA f (m:Int)=some (!BZ m f):=by
 unfold LA BZ;simp only[iW,A0];rw[az (n:=(m:Int)-1) (by omega) (by omega)];rcases bt (wi f.A 0 ((m:Int)-1)) with h1|h1
 ·have h2:=bQ.1 h1;rw[az (n:=f.A+1) (by omega) (by omega)];rcases bt (wi f.B (f.A+1) ((m:Int)-1)) with h3|h3
  ·have h4:=bQ.1 h3;have a1:decide (f.A<0)=false:=by simp;omega
   have a2:decide (f.B<=f.A)=false:=by simp;omega
   have a3:decide ((m:Int)<=f.B)=false:=by simp;omega
   simp only[h1,h3,a1,a2,a3,cond_true,G7]
   grind [wi]
  ·have h4:=qV.1 h3
   grind
 ·have h2:=qV.1 h1;simp only[h1,cond_false];by_cases a1:f.A<0
  ·simp[a1]
  ·by_cases a2:f.B<=f.A
   ·simp[a2]
   grind
structure zP(m:Int)(f:aH):Prop where
 a0:0<=f.A
 ab:f.A<f.B
 bm:f.B<m
 l1:1<=f.N
 l2:f.N<=5000
 r0:0<=f.F
 r9:f.F<=9
def qa{m:Nat}{f:aH}(h:BZ m f=false):zP m f:=by
 unfold BZ at h;simp only[D5,decide_eq_false_iff_not,I4,bQ] at h;obtain⟨⟨⟨⟨h1,h2⟩,h3⟩,h4,h5⟩,h6,h7⟩:=h;exact⟨by omega,by omega,by omega,h4,h5,h6,h7⟩
def QV(f g:aH)(m:Nat)(hm:m<=8)(hf:zP m f)(hg:zP m g):∃r,zS f g=some r/\decide (0<r)=decide (0<Bl f g):=by
 obtain⟨a1,a2,a3,a4,a5,a6,a7⟩:=hf;obtain⟨b1,b2,b3,b4,b5,b6,b7⟩:=hg;have sgn:∀x y:Int,decide (0<x-y)=decide (0<dp x y):=by
  intro x y;unfold dp;by_cases h:x<y
  ·rw[u7 h];exact decide_eq_decide.2 (by omega)
  ·rw[u6 h];by_cases h2:y<x
   ·rw[u7 h2];exact decide_eq_decide.2 (by omega)
   ·rw[u6 h2];exact decide_eq_decide.2 (by omega)
 unfold zS Bl;rw[az (n:=f.A-g.A) (by omega) (by omega),az (n:=f.B-g.B) (by omega) (by omega),az (n:=f.N-g.N) (by omega) (by omega),az (n:=f.F-g.F) (by omega) (by omega)];by_cases h1:f.A=g.A
 ·have e1:(f.A !=g.A)=false:=by rw[h1];simp
  by_cases h2:f.B=g.B
  ·have e2:(f.B !=g.B)=false:=by rw[h2];simp
   by_cases h3:f.N=g.N
   ·have e3:(f.N !=g.N)=false:=by rw[h3];simp
    exact⟨f.F-g.F,by simp only[e1,e2,e3,cond_false],by simp only[h1,h2,h3,ne_eq,not_true,if_false];exact sgn _ _⟩
   ·have e3:(f.N !=g.N)=true:=bne_iff_ne.2 h3;exact⟨f.N-g.N,by simp only[e1,e2,e3,cond_false,cond_true],by simp only[h1,h2,h3,ne_eq,not_true,not_false_eq_true,if_false,if_true];exact sgn _ _⟩
  ·have e2:(f.B !=g.B)=true:=bne_iff_ne.2 h2;exact⟨f.B-g.B,by simp only[e1,e2,cond_false,cond_true],by simp only[h1,h2,ne_eq,not_true,not_false_eq_true,if_false,if_true];exact sgn _ _⟩
 ·have e1:(f.A !=g.A)=true:=bne_iff_ne.2 h1;exact⟨f.A-g.A,by simp only[e1,cond_true],by simp only[h1,ne_eq,not_false_eq_true,if_true];exact sgn _ _⟩
theorem sS(n:af)(hz:bJ n<=1048576):CO n=some (bA n):=by
 obtain⟨z1,z2,z3⟩:=Le hz;unfold CO bA;simp only[iW,A0];rcases bt (wi n.N.length 2 8) with hw|hw
 ·have hw2:=bQ.1 hw;have e:decide (14<(n.F.length:Int))=!decide (n.F.length<=14):=by
   rw[<-decide_not];exact decide_eq_decide.2 (by omega)
  simp only[hw,e,B0,cond_false,A0,H9];rcases bt (decide (n.F.length<=14)) with h14|h14
  ·simp only[h14,B0,cond_false,H9];rw[et (f:=M_s n) n.N (jQ n) (.inr false) (.inl ()) (fun i x hx _=>by
    have hlt:=(A2.1 hx).1;have e1:decide ((i:Int)<n.N.length)=true:=by simp[hlt]
    simp only[M_s,e1,cond_true,aV,hx,A0,Ob x (z3 x (A3 hx)),Nv n.N x z1,Qe n i x hx,jQ];rw[az (by omega) (by omega)];rcases bt (qP x) with e|e<;>rcases bt ((n.N.take i).any (fun y=>y.toList==x.toList)) with e'|e'<;>simp only[e,e']<;>rfl) (by simp[M_s]) (by omega)]
   rcases bt (fh (jQ n) n.N) with hN|hN
   ·simp[hN]
   ·simp only[hN,C4,if_false,A0,F6,B7];rw[et (f:=Kj n) n.F (iO n) (.inr false) (.inl ()) (fun i x hx hprev=>by
     have hlt:=(A2.1 hx).1;have e1:decide ((i:Int)<n.F.length)=true:=by simp[hlt]
     simp only[Kj,e1,cond_true,aV,hx,A0,Hg x n.N.length (by omega) (by omega),P7];rw[az (n:=(i:Int)+1) (by omega) (by omega)];unfold iO;rcases bt (BZ n.N.length x) with h1|h1
     ·simp[h1]
     ·simp only[h1,cond_false,G7];by_cases hi:0<i
      ·have hi':decide ((0:Int)<(i:Int))=true:=by simp[hi]
       have hp:n.F[i-1]?=some n.F[i-1]:=A1 (by omega);have hw:A5 .i64 ((i:Int)-1)=((i-1:Nat):Int):=by rw[az (by omega) (by omega)];omega
       have hb:=hprev (i-1) n.F[i-1] (by omega) hp;unfold iO at hb;simp only[D5] at hb;obtain⟨r,r1,r2⟩:=QV n.F[i-1] x n.N.length (by omega) (qa hb.1) (qa h1);simp only[hi',cond_true,hw,aV,hp,A0,r1,r2,hi,decide_true,B7];cases decide (0<Bl n.F[i-1] x)<;>rfl
      ·have hi':decide ((0:Int)<(i:Int))=false:=by simp;omega
       simp[hi',hi]) (by simp[Kj]) (by omega)]
    cases fh (iO n) n.F<;>rfl
  ·simp[h14]
 ·simp[hw]
end Vs

namespace Vs
open Go
theorem jy{n:af}(h:bA n=true):2<=n.N.length/\n.N.length<=8/\n.F.length<=14:=by
 unfold bA at h;simp only[A8,decide_eq_true_eq,bQ] at h;omega
def vj{n:af}(h:bA n=true){i:Nat}{f:aH}(hf:n.F[i]?=some f):zP n.N.length f:=by
 unfold bA at h;simp only[A8,D4] at h;have:=cC.1 h.1.1.2 i f hf;unfold iO at this;simp only[D5] at this;exact qa this.1
def eo(r:Int):Nat->List aH->List Int
 |_,[]=>[]
 |i,f::fs=>if f.F=r then(i:Int)::eo r (i+1) fs else eo r (i+1) fs
def kU(r:Int)(i:Nat)(f:aH)(fs:List aH):eo r i (f::fs)=if f.F=r then(i:Int)::eo r (i+1) fs else eo r (i+1) fs:=rfl
theorem nf(r:Int):∀(fs:List aH)(i:Nat),(eo r i fs).length<=fs.length
 |[],i=>by simp[eo]
 | f :: fs, i => by
   have:=nf r fs (i+1);rw[kU];split<;>simp<;>omega
theorem rK(r:Int):∀(fs:List aH)(i:Nat)(x:Int),x∈eo r i fs↔∃j f,fs[j]?=some f/\f.F=r/\x=((i+j:Nat):Int)
 |[],i,x=>by simp[eo]
 | f :: fs, i, x => by
   have ih:=rK r fs (i+1) x;have step:(∃j g,(f::fs)[j]?=some g/\g.F=r/\x=((i+j:Nat):Int))↔(f.F=r/\x=(i:Int))\/∃j g,fs[j]?=some g/\g.F=r/\x=((i+1+j:Nat):Int):=by
    constructor
    ·rintro⟨j,g,h1,h2,h3⟩;cases j with
     |zero=>simp at h1;subst h1;exact .inl ⟨h2,h3⟩
     |succ j=>exact .inr ⟨j,g,by simpa using h1,h2,by rw[h3];congr 1;omega⟩
    ·rintro(⟨h1,h2⟩|⟨j,g,h1,h2,h3⟩)
     ·exact⟨0,f,rfl,h1,h2⟩
     ·exact⟨j+1,g,by simpa using h1,h2,by rw[h3];congr 1;omega⟩
   rw[step,<-ih];rw[kU];split
   ·rename_i h;simp[h]
   ·rename_i h;simp[h]
theorem uG(r:Int):∀(fs:List aH)(i:Nat)(acc:List Int),bU (fun i(f:aH)(a:List Int)=>(.inl (if f.F=r then a++[(i:Int)] else a):List Int⊕List Int)) (fun a=>a) i fs acc=acc++eo r i fs
 |[],i,acc=>by simp[bU,eo]
 | f :: fs, i, acc => by
   simp only[bU];rw[uG r fs (i+1)];rw[kU];split<;>simp
def jc:List Int:=[1,2,3,4,5,6,7,8,9]
def dy(n:af):List (List Int):=((jc.map fun r=>eo r 0 n.F).filter fun l=>decide (0<l.length))++(eo 0 0 n.F).map fun i=>[i]
def zJ(n:af)(h:n.F.length<=14):(dy n).length<=23:=by
 have:=nf 0 n.F 0;have h2:=I7 (fun l:List Int=>decide (0<l.length)) (jc.map fun r=>eo r 0 n.F);have h3:(jc.map fun r=>eo r 0 n.F).length=9:=rfl;unfold dy;simp only[A7,G9];omega
def zk{f:Int×List Int->Option ((Int×List Int)⊕List Int)}(fs:List aH)(r:Int)(hl:fs.length<=1048576)
 (h1:∀(i:Nat) x(a:List Int),fs[i]?=some x->a.length<=i->f ((i:Int),a)=some (.inl (((i+1:Nat):Int),if x.F=r then a++[(i:Int)] else a)))
 (h2:∀a,f ((fs.length:Int),a)=some (.inr a)):aZ f N0 (0,[])=some (eo r 0 fs):=by
 have:=dl (f:=f) fs (fun i(a:List Int)=>((i:Int),a)) (fun i x a=>.inl (if x.F=r then a++[(i:Int)] else a)) (fun a=>a) (fun i a=>a.length<=i) (fun i a x hx hI=>by
  refine .inl ⟨_,rfl,?_,h1 i x a hx hI⟩;split<;>first|omega|(simp only[A7,B4,B9];omega)) (fun a _=>h2 a) [] (by simp) (by omega)
 rw[show aZ f N0 (0,[])=_ from this,uG];rfl
def KZ{f:Int×List (List Int)->Option ((Int×List (List Int))⊕List (List Int))}(fs:List aH)(G:List (List Int))(hl:fs.length<=1048576)(hG:G.length<=100)
 (h1:∀(i:Nat) x(a:List (List Int)),fs[i]?=some x->a.length<=100+i->f ((i:Int),a)=some (.inl (((i+1:Nat):Int),if x.F=0 then a++[[(i:Int)]] else a)))
 (h2:∀a,f ((fs.length:Int),a)=some (.inr a)):aZ f N0 (0,G)=some (G++(eo 0 0 fs).map fun i=>[i]):=by
 have:=dl (f:=f) fs (fun i(a:List (List Int))=>((i:Int),a)) (fun i x a=>.inl (if x.F=0 then a++[[(i:Int)]] else a)) (fun a=>a) (fun i a=>a.length<=100+i) (fun i a x hx hI=>by
  refine .inl ⟨_,rfl,?_,h1 i x a hx hI⟩;split<;>first|omega|(simp only[A7,B4,B9];omega)) (fun a _=>h2 a) G (by omega) (by omega)
 rw[show aZ f N0 (0,G)=_ from this];have gen:∀(fs:List aH)(i:Nat)(acc:List (List Int)),bU (fun i(f:aH)(a:List (List Int))=>(.inl (if f.F=0 then a++[[(i:Int)]] else a):List (List Int)⊕List (List Int))) (fun a=>a) i fs acc=acc++(eo 0 i fs).map fun i=>[i]:=by
  intro fs;induction fs with
  |nil=>intro i acc;simp[bU,eo]
  | cons f fs ih =>
    intro i acc;simp only[bU];rw[ih (i+1)];rw[kU];split<;>simp
 rw[gen]
def Ka{f:Int×List (List Int)->Option ((Int×List (List Int))⊕List (List Int))}(fs:List aH)
 (h1:∀(r:Int)(a:List (List Int)),1<=r->r<=9->a.length<=10->f (r,a)=some (.inl (r+1,if 0<(eo r 0 fs).length then a++[eo r 0 fs] else a)))
 (h2:∀a,f (10,a)=some (.inr a)):aZ f N0 (1,[])=some ((jc.map fun r=>eo r 0 fs).filter fun l=>decide (0<l.length)):=by
 have:=dl (f:=f) jc (fun i(a:List (List Int))=>((i:Int)+1,a)) (fun i r a=>.inl (if 0<(eo r 0 fs).length then a++[eo r 0 fs] else a)) (fun a=>a) (fun i a=>a.length<=i) (fun i a r hr hI=>by
  have hi:i<9:=by have:=(A2.1 hr).1;simpa[jc] using this
  have e:(i:Int)+1=r:=by
   rcases i with _|_|_|_|_|_|_|_|_|i<;>first|(simp[jc] at hr;omega)|omega
  refine .inl ⟨_,rfl,?_,?_⟩
  ·split<;>first|omega|(simp only[A7,B4,B9];omega)
  ·rw[e,h1 r a (by omega) (by omega) (by omega)];have:((i+1:Nat):Int)+1=r+1:=by omega
   rw[this]) (fun a _=>by have:=h2 a;simpa[jc] using this) [] (by simp) (by simp[jc])
 rw[show aZ f N0 (1,[])=_ from this];have gen:∀(rs:List Int)(i:Nat)(acc:List (List Int)),bU (fun(_:Nat)(r:Int)(a:List (List Int))=>(.inl (if 0<(eo r 0 fs).length then a++[eo r 0 fs] else a):List (List Int)⊕List (List Int))) (fun a=>a) i rs acc=
  acc++(rs.map fun r=>eo r 0 fs).filter fun l=>decide (0<l.length):=by
  intro rs;induction rs with
  |nil=>intro i acc;simp[bU]
  | cons r rs ih =>
    intro i acc;simp only[bU];rw[ih (i+1),D8,K9];by_cases h:0<(eo r 0 fs).length
    ·simp[h]
    ·simp[h]
 rw[gen];rfl
def Rd(n:af)(h:n.F.length<=14):Sn n=some (dy n):=by
 unfold Sn;rw[Ka (f:=HV n) n.F (fun r a hr1 hr9 ha=>by
  have e1:decide (r<=9)=true:=by simp[hr9]
  simp only[HV,e1,cond_true];rw[zk (f:=JN n (r,a)) n.F r (by omega) (fun i x b hx hb=>by
   have hlt:=(A2.1 hx).1;have e1:decide ((i:Int)<n.F.length)=true:=by simp[hlt]
   simp only[JN,e1,cond_true,aV,hx,A0,bnd];rw[aW (by omega),az (by omega) (by omega)];by_cases e:x.F=r
   ·simp[e]
   ·simp[e,qK]) (fun a=>by simp[JN])]
  simp only[A0,bnd];rw[aW (by omega),az (by omega) (by omega)];by_cases e:0<(eo r 0 n.F).length
  ·have e':decide ((0:Int)<((eo r 0 n.F).length:Int))=true:=by simpa using e
   simp only[e',cond_true,if_pos e,A0]
  ·have e':decide ((0:Int)<((eo r 0 n.F).length:Int))=false:=by simpa using e
   simp only[e',cond_false,if_neg e]) (fun a=>by simp[HV])]
 simp only[A0];have hl:=I7 (fun l:List Int=>decide (0<l.length)) (jc.map fun r=>eo r 0 n.F);have hl9:(jc.map fun r=>eo r 0 n.F).length=9:=rfl;rw[KZ (f:=GP n) n.F _ (by omega) (by omega) (fun i x a hx ha=>by
  have hlt:=(A2.1 hx).1;have e1:decide ((i:Int)<n.F.length)=true:=by simp[hlt]
  simp only[GP,e1,cond_true,aV,hx,A0,bnd];rw[aW (by omega),az (by omega) (by omega)];by_cases e:x.F=0
  ·simp[e]
  ·simp[e,qK]) (fun a=>by simp[GP])]
 rfl
def JE(n:af)(h:n.F.length<=14)(i:Nat)(f:aH)(hf:n.F[i]?=some f)(hr:f.F≠0):Bf n (i:Int)=some (eo f.F 0 n.F):=by
 unfold Bf;have e:(f.F==0)=false:=by simpa using hr
 simp only[aV,hf,A0,e,cond_false];rw[zk (f:=M_i n (i:Int)) n.F f.F (by omega) (fun j x b hx hb=>by
  have hlt:=(A2.1 hx).1;have e1:decide ((j:Int)<n.F.length)=true:=by simp[hlt]
  simp only[M_i,e1,cond_true,aV,hx,hf,A0,bnd];rw[aW (by omega),az (by omega) (by omega)];by_cases e:x.F=f.F
  ·simp[e]
  ·simp[e,qK]) (fun a=>by simp[M_i])]
 rfl
end Vs

namespace Vs
open Go
def yq{r:Int}{fs:List aH}(h:fs.length<=14):∀x∈eo r 0 fs,0<=x/\x<14:=by
 intro x hx;obtain⟨j,f,hj,_,rfl⟩:=(rK r fs 0 x).1 hx;have:=(A2.1 hj).1;omega
def Dc{n:af}(h:n.F.length<=14):∀g∈dy n,g.length<=14/\∀x∈g,0<=x/\x<14:=by
 intro g hg;unfold dy at hg;rw[C6] at hg;rcases hg with hg|hg
 ·obtain⟨r,_,rfl⟩:=D9.1 (I0.1 hg).1;exact⟨P8 (nf ..) h,yq h⟩
 ·obtain⟨x,hx,rfl⟩:=D9.1 hg;exact⟨by simp,fun y hy=>by rw[C8.1 hy];exact yq h x hx⟩
def QM{n:af}(h:bA n=true):∀f∈n.F,f.A<n.N.length/\f.B<n.N.length:=by
 intro f hf;obtain⟨i,hi⟩:=B5 hf;obtain⟨h1,h2,h3⟩:=vj h hi;omega
def iG(n:af)(e:Int):Int:=match n.F[e.toNat]? with|some f=>f.F|none=>0
def mf(n:af)(e:Int):List Int:=if iG n e=0 then [e] else eo (iG n e) 0 n.F
def nj(n:af)(x y:Int):Prop:=x=y\/(iG n x≠0/\iG n x=iG n y)
def iJ(n:af)(e:Int):Prop:=0<=e/\e<(n.F.length:Int)
def vB{n:af}{e:Int}(h:iJ n e):∃f,n.F[e.toNat]?=some f/\iG n e=f.F:=by
 have hlt:e.toNat<n.F.length:=by have:=h.1;have:=h.2;omega
 refine⟨_,A1 hlt,?_⟩;unfold iG;rw[A1 hlt]
def qN{n:af}{r x:Int}:x∈eo r 0 n.F↔iJ n x/\iG n x=r:=by
 rw[rK];constructor
 ·rintro⟨j,f,h1,h2,rfl⟩;have:=(A2.1 h1).1;refine⟨⟨by omega,by omega⟩,?_⟩;unfold iG;rw[show((0+j:Nat):Int).toNat=j by omega,h1];exact h2
 ·rintro⟨h,hr⟩;obtain⟨f,h1,h2⟩:=vB h;exact⟨x.toNat,f,h1,by rw[<-h2];exact hr,by have:=h.1;omega⟩
theorem nw{n:af}{x y:Int}(hy:iJ n y):y∈mf n x↔nj n x y:=by
 unfold mf nj;by_cases h:iG n x=0
 ·rw[u7 h,C8];exact⟨fun e=>.inl e.symm,fun e=>e.elim Eq.symm fun q=>(q.1 h).elim⟩
 ·rw[u6 h,qN];constructor
  ·exact fun q=>.inr ⟨h,q.2.symm⟩
  ·rintro(rfl|q)
   ·exact⟨hy,rfl⟩
   ·exact⟨hy,q.2.symm⟩
def my{n:af}{g:List Int}(hg:g∈dy n){x y:Int}(hx:x∈g)(hfx:iJ n x)(hfy:iJ n y):y∈g↔nj n x y:=by
 unfold dy at hg;rw[C6] at hg;rcases hg with hg|hg
 ·obtain⟨h1,_⟩:=I0.1 hg;obtain⟨r,hr,rfl⟩:=D9.1 h1;have hr0:r≠0:=by unfold jc at hr;simp at hr;omega
  rw[qN] at hx⊢;unfold nj;constructor
  ·exact fun q=>.inr ⟨by rw[hx.2];exact hr0,by rw[hx.2,q.2]⟩
  ·rintro(rfl|q)
   ·exact hx
   ·exact⟨hfy,by rw[<-q.2,hx.2]⟩
 ·obtain⟨z,hz,rfl⟩:=D9.1 hg;rw[C8] at hx⊢;subst hx;have h0:=(qN.1 hz).2;unfold nj;exact⟨fun e=>.inl e.symm,fun e=>e.elim Eq.symm fun q=>(q.1 h0).elim⟩
def OV{n:af}(h:bA n=true){x:Int}(hx:iJ n x):∃g∈dy n,x∈g:=by
 obtain⟨f,h1,h2⟩:=vB hx;have hf:=vj h h1;obtain⟨_,_,_,_,_,_,_⟩:=hf;unfold dy;by_cases h0:iG n x=0
 ·exact⟨[x],List.mem_append_right _ (D9.2 ⟨x,qN.2 ⟨hx,h0⟩,rfl⟩),by simp⟩
 ·have hm:x∈eo (iG n x) 0 n.F:=qN.2 ⟨hx,rfl⟩;refine⟨_,M7 _ (I0.2 ⟨D9.2 ⟨iG n x,?_,rfl⟩,by simpa using C7 hm⟩),hm⟩;unfold jc;rw[h2] at h0⊢;simp only[C9,L0,or_false];omega
def mF(n:af)(e:Int):Int:=match cD (fun _(g:List Int)=>decide (e∈g)) (dy n) with|some q=>(q.1:Int)|none=>-1
def Ar{n:af}(h:bA n=true){x y:Int}(hx:iJ n x)(hy:iJ n y):mF n x=mF n y↔nj n x y:=by
 obtain⟨g,hg,hm⟩:=OV h hx;constructor
 ·intro e;unfold mF at e;cases hf:cD (fun _(g:List Int)=>decide (x∈g)) (dy n) with
  | none =>
    obtain⟨i,hi⟩:=B5 hg;have:=dE.1 hf i g hi;simp[hm] at this
  | some q =>
    obtain⟨i,gx⟩:=q;obtain⟨k1,k2,_⟩:=cA.1 hf;rw[hf] at e;cases hf2:cD (fun _(g:List Int)=>decide (y∈g)) (dy n) with
    |none=>rw[hf2] at e;simp only at e;omega
    | some q2 =>
      obtain⟨j,gy⟩:=q2;obtain⟨m1,m2,_⟩:=cA.1 hf2;rw[hf2] at e;have hij:i=j:=by simp only at e;omega
      subst hij;rw[k1] at m1;cases m1;exact(my (A3 k1) (by simpa using k2) hx hy).1 (by simpa using m2)
 ·intro e;have e':nj n y x:=e.elim (fun q=>.inl q.symm) fun q=>.inr ⟨by rw[<-q.2];exact q.1,q.2.symm⟩;have key:∀g∈dy n,(x∈g↔y∈g):=fun g hg=>⟨fun q=>(my hg q hx hy).2 e,fun q=>(my hg q hy hx).2 e'⟩;have:cD (fun _(g:List Int)=>decide (y∈g)) (dy n)=cD (fun _(g:List Int)=>decide (x∈g)) (dy n):=by
   cases hf:cD (fun _(g:List Int)=>decide (x∈g)) (dy n) with
   | none =>
     rw[dE] at hf⊢;intro i z hz;have:=hf i z hz;simp only[decide_eq_false_iff_not] at this⊢;exact fun q=>this ((key z (A3 hz)).2 q)
   | some q =>
     obtain⟨i,gx⟩:=q;rw[cA] at hf⊢;obtain⟨k1,k2,k3⟩:=hf;simp only[decide_eq_true_eq,decide_eq_false_iff_not] at k2 k3⊢;exact⟨k1,(key gx (A3 k1)).1 k2,fun j z hj hz q=>k3 j z hj hz ((key z (A3 hz)).2 q)⟩
  unfold mF;rw[this]
def apP(n:af)(a b:List Int):Bool:=!a.any fun x=>b.any fun y=>decide (y∈mf n x)
def Kd{n:af}(h:bA n=true){a b:List Int}(ha:∀x∈a,iJ n x)(hb:∀x∈b,iJ n x):(!(a.map (mF n)).any fun x=>decide (x∈b.map (mF n)))=apP n a b:=by
 unfold apP;congr 1;rw[C3];simp only[C2,D9,decide_eq_true_eq];constructor
 ·rintro⟨_,⟨x,hx,rfl⟩,y,hy,e⟩;exact⟨x,hx,y,hy,(nw (hb y hy)).2 ((Ar h (ha x hx) (hb y hy)).1 e.symm)⟩
 ·rintro⟨x,hx,y,hy,e⟩;exact⟨_,⟨x,hx,rfl⟩,y,hy,((Ar h (ha x hx) (hb y hy)).2 ((nw (hb y hy)).1 e)).symm⟩
end Vs

namespace Vs
open Go
def jO(f:aH)(v:Int):Int:=if v=f.A then f.B else if v=f.B then f.A else -1
def cG(n:af)(e v:Int):Int:=match n.F[e.toNat]? with|some f=>jO f v|none=>-1
end Vs

namespace Vs
open Go
theorem nt(l:List Int)(x:Int)(hl:l.length<=1048576):qx l x=some (l.any fun y=>y==x):=by
 unfold qx;rw[io (f:=HZ l x) l (fun y=>y==x) (.inr true) (.inl ()) (fun i y hy=>by
  have hlt:=(A2.1 hy).1;have h1:decide ((i:Int)<l.length)=true:=by simp[hlt]
  simp only[HZ,h1,cond_true,aV,hy,A0];rw[az (by omega) (by omega)];cases y==x<;>rfl) (by simp[HZ]) (by omega)]
 cases l.any fun y=>y==x<;>rfl
def rr{n:af}{e:Int}(h:wi e 0 ((n.F.length:Int)-1)=true):∃f,bC n.F e=some f/\n.F[e.toNat]?=some f:=by
 rw[bQ] at h;have hlt:e.toNat<n.F.length:=by omega
 refine⟨n.F[e.toNat],?_,A1 hlt⟩;have h3:=aV n.F e.toNat;rw[Int.toNat_of_nonneg h.1] at h3;rw[h3];exact A1 hlt
theorem kX(n:af)(e v:Int)(h:wi e 0 ((n.F.length:Int)-1)=true):wG n e v=some (cG n e v):=by
 obtain⟨f,h1,h2⟩:=rr h;unfold wG cG jO;rw[h1,h2];simp only[A0];by_cases a:v=f.A
 ·rw[show(v==f.A)=true from by simpa using a,g9,u7 a]
 ·rw[show(v==f.A)=false from by simpa using a,g8,u6 a];by_cases b:v=f.B
  ·rw[show(v==f.B)=true from by simpa using b,g9,u7 b]
  ·rw[show(v==f.B)=false from by simpa using b,g8,u6 b]
end Vs

namespace Vs
open Go
theorem vV(xs:List Int)(v:Int)(hl:xs.length<=1048576):BI xs v=some (decide (v∈xs)):=by
 unfold BI Xc;rw[cO (f:=Jn xs v) xs (fun _ x=>v==x) (fun i _=>(i:Int)) () (fun i x hx _=>by
  have hlt:=(A2.1 hx).1;have h1:decide ((i:Int)<xs.length)=true:=by simp[hlt]
  simp only[Jn,h1,cond_true,aV,hx,A0];rw[az (by omega) (by omega)];cases v==x<;>rfl) (by simp[Jn]) (by omega)]
 cases e:cD (fun _ x=>v==x) xs with
 | none =>
   have:=dE.1 e;have h:¬v∈xs:=fun hm=>by
    obtain⟨i,hi⟩:=B5 hm;have:=this i v hi;simp at this
   rw[u9 h];rfl
 | some q =>
   obtain⟨i,x⟩:=q;obtain⟨h1,h2,_⟩:=cA.1 e;have h:v∈xs:=by
    have:=eq_of_beq h2;rw[this];exact A3 h1
   rw[g7 h];simp
theorem qp(f:aH)(v:Int):CG f v=some (jO f v):=by
 unfold CG jO;by_cases a:v=f.A
 ·rw[show(v==f.A)=true from by simpa using a,g9,u7 a]
 ·rw[show(v==f.A)=false from by simpa using a,g8,u6 a];by_cases b:v=f.B
  ·rw[show(v==f.B)=true from by simpa using b,g9,u7 b]
  ·rw[show(v==f.B)=false from by simpa using b,g8,u6 b]
theorem pO(l:List Int)(e:Int):decide (e∈l)=l.any fun x=>x==e:=by
 rw[C3,decide_eq_true_iff,C2];constructor
 ·intro h;exact⟨e,h,by simp⟩
 ·rintro⟨x,hx,he⟩;rw[<-eq_of_beq he];exact hx
end Vs

namespace Vs
open Go
theorem oD{α A B C:Type}(s1:Nat->α->A->A⊕B)(s2:Nat->α->A->A⊕C)(f1:A->B)(f2:A->C)(R:B->C->Prop)(h:∀i x a,(∃a',s1 i x a=.inl a'/\s2 i x a=.inl a')\/∃b c,s1 i x a=.inr b/\s2 i x a=.inr c/\R b c)(hf:∀a,R (f1 a) (f2 a)):
 ∀(xs:List α)(i:Nat)(a:A),R (bU s1 f1 i xs a) (bU s2 f2 i xs a)
 |[],_,a=>hf a
 | x :: xs, i, a => by
   simp only[bU];rcases h i x a with⟨a',h1,h2⟩|⟨b,c,h1,h2,h3⟩
   ·rw[h1,h2];exact oD s1 s2 f1 f2 R h hf xs (i+1) a'
   simp_all
def rq(n:af)(e:Int)(a:Int×List Int):Bool:=!wi e 0 ((n.F.length:Int)-1)||decide (cG n e a.1<0)||decide (cG n e a.1∈a.2)
def oA(n:af)(_:Nat)(e:Int)(a:Int×List Int):(Int×List Int)⊕Option (List Int):=if rq n e a then .inr none else .inl (cG n e a.1,a.2++[cG n e a.1])
def gN(n:af)(r:aj):Option (List Int):=if !wi r.N 0 ((n.N.length:Int)-1)||decide (r.F.length=0) then none else bU (oA n) (fun a=>some a.2) 0 r.F (r.N,[r.N])
def Ut(n:af)(_:Nat)(e:Int)(a:Int×List Int):(Int×List Int)⊕((List Int)⊕(List Int×Bool)):=if rq n e a then .inr (.inr ([],false)) else .inl (cG n e a.1,a.2++[cG n e a.1])
def LO(n:af)(_:Nat)(e:Int)(a:Int×List Int):(Int×List Int)⊕((List Int)⊕(List Int×Bool)):=if rq n e a then .inr (.inr (a.2,false)) else .inl (cG n e a.1,a.2++[cG n e a.1])
theorem abo(l:List Int):((l.length:Int)==0)=decide (l.length=0):=by
 grind
theorem uV(n:af)(r:aj)(hN:n.N.length<=1048576)(hF:n.F.length<=1048576)(hr:r.F.length<=1048576):Ix n r=some (match gN n r with|some l=>(l,true)|none=>([],false)):=by
 unfold Ix gN;simp only[dR,A0,abo];rw[az (n:=(n.N.length:Int)-1) (by omega) (by omega)];have hc:(cond (!wi r.N 0 ((n.N.length:Int)-1)) (some true) (some (decide (r.F.length=0))):Option Bool)=some (!wi r.N 0 ((n.N.length:Int)-1)||decide (r.F.length=0)):=by
  cases wi r.N 0 ((n.N.length:Int)-1)<;>rfl
 rw[hc];simp only[A0];rcases bt (!wi r.N 0 ((n.N.length:Int)-1)||decide (r.F.length=0)) with e|e
 ·rw[e];rfl
 rw[e];simp only[cond_false,bnd,C4,if_false];have key:=dl (f:=GZ n r) r.F (fun i(a:Int×List Int)=>(a.1,(i:Int),a.2)) (Ut n) (fun a=>.inl a.2) (fun i a=>a.2.length=i+1) (fun i a x hx hI=>by
  have hlt:=(A2.1 hx).1;have h1:decide ((i:Int)<r.F.length)=true:=by simp[hlt]
  simp only[GZ,h1,cond_true,aV,hx,A0,dR];rw[az (n:=(n.F.length:Int)-1) (by omega) (by omega),az (n:=(i:Int)+1) (by omega) (by omega)];unfold Ut rq;rcases bt (wi x 0 ((n.F.length:Int)-1)) with e1|e1
  ·obtain⟨f,f1,f2⟩:=rr e1;have ho:cG n x a.1=jO f a.1:=by unfold cG;rw[f2]
   simp only[e1,B0,cond_false,f1,A0,qp,<-ho,vV a.2 (cG n x a.1) (by omega),G7];by_cases h3:cG n x a.1<0
   ·simp_all
   ·by_cases h4:cG n x a.1∈a.2
    ·simp_all
    ·refine .inl ⟨(cG n x a.1,a.2++[cG n x a.1]),by simp[h3,h4],by simp[hI],?_⟩;simp only[decide_eq_false h3,decide_eq_false h4,cond_false,A0,bnd]
     grind [aW]
  simp_all) (fun a _=>by simp[GZ]) (r.N,[r.N]) rfl (by omega)
 have e0:((0:Nat):Int)=0:=rfl;simp only[e0] at key;rw[key];have:=oD (oA n) (Ut n) (fun a=>some a.2) (fun a=>(.inl a.2:(List Int)⊕(List Int×Bool))) (fun b c=>match b with|some l=>c=.inl l|none=>c=.inr ([],false)) (fun i x a=>by
  unfold oA Ut;cases rq n x a
  ·exact .inl ⟨_,rfl,rfl⟩
  ·exact .inr ⟨_,_,rfl,rfl,rfl⟩) (fun a=>rfl) r.F 0 (r.N,[r.N])
 grind
def yV(n:af)(r:aj)(hN:n.N.length<=1048576)(hF:n.F.length<=1048576)(hr:r.F.length<=1048576):∃o,HW n r=some (o,(gN n r).isSome)/\∀l,gN n r=some l->o=l:=by
 unfold HW gN;simp only[iW,A0,abo,bnd];rw[az (n:=(n.N.length:Int)-1) (by omega) (by omega)];have hc:(cond (!wi r.N 0 ((n.N.length:Int)-1)) (some true) (some (decide (r.F.length=0))):Option Bool)=some (!wi r.N 0 ((n.N.length:Int)-1)||decide (r.F.length=0)):=by
  cases wi r.N 0 ((n.N.length:Int)-1)<;>rfl
 rw[hc];simp only[A0];rcases bt (!wi r.N 0 ((n.N.length:Int)-1)||decide (r.F.length=0)) with e|e
 ·rw[e];exact⟨[r.N],rfl,fun l h=>by simp at h⟩
 rw[e];simp only[cond_false,C4,if_false];have key:=dl (f:=Hr n r) r.F (fun i(a:Int×List Int)=>((i:Int),a.2)) (LO n) (fun a=>.inl a.2) (fun i a=>a.2.length=i+1/\a.2[i]?=some a.1) (fun i a x hx hI=>by
  have hlt:=(A2.1 hx).1;have h1:decide ((i:Int)<r.F.length)=true:=by simp[hlt]
  simp only[Hr,h1,cond_true,aV,hx,A0,iW];have hl1:A5 .i64 ((a.2.length:Int)-1)=(i:Int):=by rw[az (by omega) (by omega)];omega
  rw[az (n:=(n.F.length:Int)-1) (by omega) (by omega),az (n:=(i:Int)+1) (by omega) (by omega),hl1];unfold LO rq;rcases bt (wi x 0 ((n.F.length:Int)-1)) with e1|e1
  ·simp only[e1,B0,cond_false,A0,G7,A6,hI.2];rw[aW (by omega)];simp only[A0,kX n x a.1 e1,nt a.2 (cG n x a.1) (by omega)];have hm:(a.2.any fun y=>y==cG n x a.1)=decide (cG n x a.1∈a.2):=by
    rw[C3];simp
   rw[hm];by_cases h3:cG n x a.1<0
   ·exact .inr ⟨_,by simp[h3];rfl,by simp[h3]⟩
   ·by_cases h4:cG n x a.1∈a.2
    ·exact .inr ⟨_,by simp[h4];rfl,by simp[h3,h4]⟩
    ·refine .inl ⟨(cG n x a.1,a.2++[cG n x a.1]),by simp[h3,h4],⟨by simp[hI.1],by rw[<-hI.1];simp⟩,?_⟩;simp only[decide_eq_false h3,decide_eq_false h4,cond_false,A0];rw[aW (by omega)];rfl
  ·exact .inr ⟨_,by simp[e1];rfl,by simp[e1]⟩) (fun a _=>by simp[Hr]) (r.N,[r.N]) ⟨rfl,rfl⟩ (by omega)
 have e0:((0:Nat):Int)=0:=rfl;simp only[e0] at key;rw[key];have:=oD (oA n) (LO n) (fun a=>some a.2) (fun a=>(.inl a.2:(List Int)⊕(List Int×Bool))) (fun b c=>match b with|some l=>c=.inl l|none=>∃o,c=.inr (o,false)) (fun i x a=>by
  unfold oA LO;cases rq n x a
  ·exact .inl ⟨_,rfl,rfl⟩
  ·exact .inr ⟨_,_,rfl,rfl,_,rfl⟩) (fun a=>rfl) r.F 0 (r.N,[r.N])
 revert this
 generalize bU (LO n) (fun a=>(.inl a.2:(List Int)⊕(List Int×Bool))) 0 r.F (r.N,[r.N])=c;cases bU (oA n) (fun a=>some a.2) 0 r.F (r.N,[r.N]) with
 |none=>rintro⟨o,h⟩;rw[h];exact⟨o,rfl,fun l h=>by cases h⟩
 |some l=>intro h;rw[h];exact⟨l,rfl,fun l' h=>by cases h;rfl⟩
def Ku(n:af)(r:aj):Bool:=bA n&&(gN n r).isSome
theorem NB(n:af)(r:aj)(hz:bJ n<=1048576)(hr:r.F.length<=1048576):Cv n r=some (Ku n r):=by
 obtain⟨h1,h2,_⟩:=Le hz;unfold Cv Ku;rw[sS n hz];simp only[A0];rcases bt (bA n) with e|e
 ·obtain⟨o,o1,_⟩:=yV n r (by omega) (by omega) hr
  simp_all
 ·rw[e];rfl
theorem uo{n:af}(hE:∀f∈n.F,f.A<n.N.length/\f.B<n.N.length):∀(xs:List Int)(i:Nat)(a:Int×List Int)(l:List Int),bU (oA n) (fun a=>some a.2) i xs a=some l->a.2.Nodup->(∀v∈a.2,0<=v/\v<(n.N.length:Int))->a.1∈a.2->
 l.Nodup/\(∀v∈l,0<=v/\v<(n.N.length:Int))/\l.length=a.2.length+xs.length/\(∀e∈xs,0<=e/\e<(n.F.length:Int))/\xs.Nodup/\∀e∈xs,∀f,n.F[e.toNat]?=some f->¬(f.A∈a.2/\f.B∈a.2)
 |[],_,a,l,h,hd,hv,_=>by simp_all [Option.some.injEq,bU]
 | x :: xs, i, a, l, h, hd, hv, ha => by
   simp only[bU,oA] at h;rcases bt (rq n x a) with e|e
   ·rw[e] at h;cases h
   ·rw[e] at h;simp only[C4,if_false] at h;simp only[rq,D5,I4,decide_eq_false_iff_not,bQ] at e;obtain⟨⟨e1,e2⟩,e3⟩:=e;have hi:x.toNat<n.F.length:=by omega
    have hf:=hE _ (F9 hi);have hg:=A1 hi;generalize n.F[x.toNat]=f at hf hg;have ho:cG n x a.1=jO f a.1:=by unfold cG;rw[hg]
    have hend:(f.A=a.1/\f.B=cG n x a.1)\/(f.B=a.1/\f.A=cG n x a.1):=by
     rw[ho] at e2⊢;unfold jO at e2⊢;split
     ·omega
     ·omega
    have hlt:cG n x a.1<n.N.length:=by omega
    obtain⟨g1,g2,g3,g4,g5,g6⟩:=uo hE xs (i+1) _ l h (by
     grind) (fun v hv2=>by
     grind) (by simp)
    refine⟨g1,g2,by rw[g3];simp;omega,fun e he=>?_,I1.2 ⟨fun hm=>?_,g5⟩,fun e he f' hf'=>?_⟩
    ·grind
    ·grind
    grind
def Hf{n:af}{r:aj}(hE:∀f∈n.F,f.A<n.N.length/\f.B<n.N.length){l:List Int}(h:gN n r=some l):l.Nodup/\(∀v∈l,0<=v/\v<(n.N.length:Int))/\l.length=r.F.length+1/\(∀e∈r.F,0<=e/\e<(n.F.length:Int))/\r.F.Nodup:=by
 unfold gN at h;split at h
 ·cases h
 ·rename_i hc;simp only[O6,D4,decide_eq_true_eq,not_or,Bool.not_eq_false,bQ] at hc;obtain⟨g1,g2,g3,g4,g5,_⟩:=uo hE _ _ _ _ h (by simp) (fun v hv=>by grind) (by simp)
  grind
theorem nb:∀(m:Nat)(l:List Int),l.Nodup->(∀x∈l,0<=x/\x<(m:Int))->l.length<=m
 | 0, l, _, h => by
   cases l with
   |nil=>simp
   |cons x l=>have:=h x (by simp);omega
 | m + 1, l, hn, h => by
   by_cases hm:(m:Int)∈l
   ·have:=nb m (l.erase (m:Int)) (hn.erase _) (fun x hx=>by
     have h1:=(hn.mem_erase_iff).1 hx;have:=h x h1.2;have h3:=h1.1;omega)
    rw[List.length_erase_of_mem hm] at this;omega
   ·have:=nb m l hn (fun x hx=>by
     have:=h x hx;have:x≠(m:Int):=fun e=>hm (e▸hx);omega)
    omega
end Vs

namespace Vs
open Go
def gz(l:List Int)(p:Nat):Int:=(l[p]?).getD 0
theorem uN{l:List Int}{p:Nat}(h:p<l.length):l[p]?=some (gz l p):=by
 unfold gz;rw[A1 h];rfl
def NX{l:List Int}{p q:Nat}{x:Int}(h:p<l.length):gz (l.set p x) q=if q=p then x else gz l q:=by
 unfold gz;rw[List.getElem?_set];by_cases e:p=q
 ·rw[u7 e,u7 h,u7 e.symm];rfl
 ·rw[u6 e,u6 (Ne.symm e)]
def Yd(xs:List Int)(h:xs.length<=1048576):∃l,sM xs=some l/\l.Perm xs/\l.Pairwise (·<=·):=agq xs (by omega)
end Vs

namespace Vs
open Go
def Vw(a bP:List Int):List Int:=a.filter fun x=>decide (x∈bP)
theorem sJ(p:Int->Bool):∀(xs:List Int)(i:Nat)(l:List Int),bU (fun(_:Nat)(x:Int)(l:List Int)=>(.inl (if p x then l++[x] else l):List Int⊕List Int)) (fun l=>l) i xs l=l++xs.filter p
 |[],_,l=>by simp[bU]
 | x :: xs, i, l => by
   simp only[bU];rw[sJ p xs (i+1)];by_cases h:p x=true
   ·simp[h]
   ·simp[h]
def aff(a bP:List Int)(ha:a.length<=1048576)(hg:bP.length<=1048576):aZ (Bb a bP) N0 (0,[])=some (Vw a bP):=by
 have key:=dl (f:=Bb a bP) a (fun i(l:List Int)=>((i:Int),l)) (fun _ x l=>.inl (if decide (x∈bP) then l++[x] else l)) (fun l=>l) (fun i l=>l.length<=i) (fun i l x hx hI=>by
  have hlt:=(A2.1 hx).1;have h1:decide ((i:Int)<a.length)=true:=by simp[hlt]
  refine .inl ⟨_,rfl,by grind,?_⟩;simp only[Bb,h1,cond_true,aV,hx,A0,vV bP x hg,bnd];rw[az (n:=(i:Int)+1) (by omega) (by omega)];by_cases h:x∈bP
  ·rw[g7 h,g9,aW (by omega),u7 rfl];rfl
  simp_all) (fun l _=>by simp[Bb]) [] (F0 0) (by omega)
 have e0:((0:Nat):Int)=0:=rfl;simp only[e0] at key;rw[key,sJ];rfl
def ddp(ys:List Int):Nat->List Int
 |0=>[]
 |j+1=>if 0<j/\ys[j]?=ys[j-1]? then ddp ys j else ddp ys j++(ys[j]?).toList
theorem rR(ys:List Int):∀k,(∀i,1<=i->i<k->ys[i]?≠ys[i-1]?)->ddp ys k=ys.take k
 |0,_=>by simp[ddp]
 | k + 1, h => by
   unfold ddp;rw[u6 (fun e=>h k (by omega) (by omega) e.2),rR ys k (fun i h1 h2=>h i h1 (by omega)),G3]
def Gk{l:List Int}{k:Nat}(y:Int)(h:k<l.length):(l.set k y).take (k+1)=l.take k++[y]:=by
 rw[G3,List.getElem?_set_self h,List.take_set_of_le (F0 k)];rfl
theorem rN{ys:List Int}(hs:ys.Pairwise (·<=·)):∀j,j<=ys.length->(ddp ys j).Pairwise (·<·)/\(∀x∈ddp ys j,∀y,ys[j-1]?=some y->x<=y)/\∀x,x∈ddp ys j↔x∈ys.take j
 |0,_=>by simp[ddp]
 | j + 1, h => by
   obtain⟨h1,h2,h3⟩:=rN hs j (by omega);have hy:ys[j]?=some (ys[j]'(by omega)):=A1 (by omega);generalize ys[j]'(by omega)=y at hy;unfold ddp;rw[G3,hy];by_cases c:0<j/\some y=ys[j-1]?
   ·rw[u7 c]
    grind [Nat.add_sub_cancel,Option.some.injEq,List.mem_take_iff_getElem,List.getElem?_eq_some_iff,Option.toList_some,List.mem_singleton]
   ·rw[u6 c];have hlt:∀x∈ddp ys j,x<y:=fun x hx=>by
     by_cases hj:0<j
     ·have hz:ys[j-1]?=some (ys[j-1]'(by omega)):=A1 (by omega);have:=h2 x hx _ hz;have h5:ys[j-1]'(by omega)<=ys[j]'(by omega):=B6.1 hs (j-1) j (by omega) (by omega) (by omega);have h6:ys[j]'(by omega)=y:=(A2.1 hy).2;have h7:ys[j-1]'(by omega)≠y:=fun e=>c ⟨hj,by rw[hz,e]⟩;omega
     ·have:j=0:=by omega
      subst this;simp[ddp] at hx
    grind
def Lg(ys:List Int)(hl:ys.length<=1048576)(k0:Nat)(h0:1<=k0)(hk:k0<ys.length)(hd:ddp ys (k0+1)=ys.take k0):
 ∃(k:Nat)(l:List Int),aZ (Bi 0 ys.length (k0:Int)) N0 ((k0:Int),1,ys)=some ((k:Int),l)/\l.length=ys.length/\k<=ys.length/\l.take k=ddp ys ys.length:=by
 obtain⟨o,o1,o2⟩:=bq (f:=Bi 0 ys.length (k0:Int)) (fun s=>∃(k k2:Nat)(l:List Int),s=((k:Int),(k2:Int),l)/\1<=k2/\k0+k2<=ys.length/\l.length=ys.length/\k+1<=k0+k2/\(∀p,k0+k2<=p+1->l[p]?=ys[p]?)/\l.take k=ddp ys (k0+k2))
  (fun s=>ys.length-s.2.1.toNat) (fun o=>∃(k:Nat)(l:List Int),o=((k:Int),l)/\l.length=ys.length/\k<=ys.length/\l.take k=ddp ys ys.length) (fun s hI=>by
  obtain⟨k,k2,l,rfl,i1,i2,i3,i4,i5,i6⟩:=hI;by_cases hc:k0+k2<ys.length
  ·left;have e1:decide ((k2:Int)<((ys.length-k0:Nat):Int))=true:=g7 (by omega);have ew:A5 .i64 ((k2:Int)-1)=((k2-1:Nat):Int):=by rw[az (by omega) (by omega)];omega
   have g1:l[0+k0+k2]?=some (ys[k0+k2]'hc):=by rw[D0,i5 _ (by omega)];exact A1 hc
   have g2:l[0+k0+(k2-1)]?=some (ys[k0+k2-1]'(by omega)):=by
    rw[show 0+k0+(k2-1)=k0+k2-1 by omega,i5 _ (by omega)];exact A1 (by omega)
   have g3:l[0+k]?=some (l[k]'(by omega)):=by rw[D0];exact A1 (by omega)
   have hddp:ddp ys (k0+k2+1)=if ys[k0+k2]'hc=ys[k0+k2-1]'(by omega) then ddp ys (k0+k2) else ddp ys (k0+k2)++[ys[k0+k2]'hc]:=by
    rw[ddp,A1 hc,A1 (show k0+k2-1<ys.length by omega)];by_cases e:ys[k0+k2]'hc=ys[k0+k2-1]'(by omega)
    ·rw[u7 ⟨by omega,by rw[e]⟩,u7 e]
    ·rw[u6 (fun q=>e (Option.some.inj q.2)),u6 e];rfl
   simp only[Bi,A6,e1,cond_true,ew,g1,g2,g3];rw[aW (by omega),aW (by omega),aW (by omega)];simp only[A0,bnd];rw[az (n:=(k:Int)+1) (by omega) (by omega),az (n:=(k2:Int)+1) (by omega) (by omega)];by_cases e:ys[k0+k2]'hc=ys[k0+k2-1]'(by omega)
   ·rw[u7 e] at hddp;rw[show(ys[k0+k2]'hc !=ys[k0+k2-1]'(by omega))=false by simpa using e,g8];exact⟨_,rfl,⟨k,k2+1,l,by simp,by omega,by omega,i3,by omega,fun p hp=>i5 p (by omega),by rw[show k0+(k2+1)=k0+k2+1 by omega,hddp];exact i6⟩,by simp only[];omega⟩
   ·rw[u6 e] at hddp;rw[show(ys[k0+k2]'hc !=ys[k0+k2-1]'(by omega))=true by simpa using e,g9];refine⟨_,rfl,⟨k+1,k2+1,l.set k (ys[k0+k2]'hc),by simp,by omega,by omega,by simpa using i3,by omega,fun p hp=>?_,?_⟩,by simp only[];omega⟩
    ·rw[List.getElem?_set_ne (by omega)];exact i5 p (by omega)
    ·rw[show k0+(k2+1)=k0+k2+1 by omega,hddp,Gk _ (by omega),i6]
  ·right;have e1:decide ((k2:Int)<((ys.length-k0:Nat):Int))=false:=u9 (by omega);refine⟨_,by simp only[Bi,A6,e1,cond_false],k,l,rfl,i3,by omega,?_⟩;rw[i6,show k0+k2=ys.length by omega]) N0 ((k0:Int),((1:Nat):Int),ys) ⟨k0,1,ys,rfl,by omega,by omega,rfl,by omega,fun p _=>rfl,hd.symm⟩ (cI (by simp;omega))
 obtain⟨k,l,rfl,q1,q2,q3⟩:=o2;exact⟨k,l,o1,q1,q2,q3⟩
def JO(ys:List Int)(hl:ys.length<=1048576):∃k l,LW 0 ys.length ys=some (0,k,l)/\cY l 0 k=ddp ys ys.length:=by
 unfold LW;by_cases h:(ys.length:Int)<2
 ·rw[g7 h,g9];refine⟨_,_,rfl,?_⟩;rw[cV,rR ys _ (fun i h1 h2=>by omega),O4]
 rw[u9 h,g8];obtain⟨o,o1,o2⟩:=bq (f:=Ja 0 ys.length ys) (fun s=>∃i:Nat,s=i/\1<=i/\i<=ys.length/\ddp ys i=ys.take i) (fun s=>ys.length-s.toNat)
  (fun o=>(o=.inl ()/\ddp ys ys.length=ys)\/∃k l,o=.inr (0,k,l)/\cY l 0 k=ddp ys ys.length) (fun s hI=>by
  obtain⟨i,rfl,h1,h2,h3⟩:=hI;by_cases hi:i<ys.length
  ·have e1:decide ((i:Int)<(ys.length:Int))=true:=g7 (by omega);have ew:A5 .i64 ((i:Int)-1)=((i-1:Nat):Int):=by rw[az (by omega) (by omega)];omega
   have g1:ys[0+i]?=some (ys[i]'hi):=by rw[D0];exact A1 hi
   have g2:ys[0+(i-1)]?=some (ys[i-1]'(by omega)):=by rw[D0];exact A1 (by omega)
   simp only[Ja,e1,cond_true,A6,g1,ew,g2];rw[aW (by omega),aW (by omega)];simp only[A0];by_cases e:ys[i]'hi=ys[i-1]'(by omega)
   ·right;have hd:ddp ys (i+1)=ys.take i:=by
     rw[ddp,u7 ⟨by omega,by rw[A1 hi,A1 (show i-1<ys.length by omega),e]⟩,h3]
    obtain⟨k,l,k1,k2,k3,k4⟩:=Lg ys hl i h1 hi hd;rw[show(ys[i]'hi==ys[i-1]'(by omega))=true by simpa using e,g9];simp only[A6,and_true,true_and];rw[aW (by omega)];simp only[A0,k1,bnd,A6,and_true,true_and];rw[aW (by omega)];simp only[A0];refine⟨_,rfl,.inr ⟨k,_,rfl,?_⟩⟩;rw[<-k4,eY,J9];unfold dg;rw[u7 (by simp;omega),D0];rw[B3,J3 (by simp;omega),List.take_take,Nat.min_self]
   ·left;rw[show(ys[i]'hi==ys[i-1]'(by omega))=false by simpa using e,g8,az (by omega) (by omega)];refine⟨_,rfl,⟨i+1,rfl,by omega,by omega,?_⟩,by omega⟩;rw[ddp,u6 (fun q=>e (by
     have:=q.2;rw[A1 hi,A1 (show i-1<ys.length by omega)] at this;exact Option.some.inj this)),h3,G3]
  ·right;have e1:decide ((i:Int)<(ys.length:Int))=false:=u9 (by omega);refine⟨_,by simp only[Ja,e1,cond_false],.inl ⟨rfl,?_⟩⟩;rw[show ys.length=i by omega,h3,show i=ys.length by omega,O4]) N0 ((1:Nat):Int) ⟨1,rfl,by omega,by omega,by
    rw[rR ys 1 (fun i h1 h2=>by omega)]⟩ (cI (by simp;omega))
 have e1:((1:Nat):Int)=1:=rfl;rw[e1] at o1;rw[o1];rcases o2 with⟨rfl,q⟩|⟨k,l,rfl,q⟩
 ·exact⟨_,_,rfl,by rw[cV,q]⟩
 ·exact⟨k,l,rfl,q⟩
def zU(a bP:List Int)(ha:a.length<=12)(hg:bP.length<=1048576):∃l,Km a bP=some l/\l.Pairwise (·<·)/\∀x,x∈l↔x∈a/\x∈bP:=by
 unfold Km;have hc:(Vw a bP).length<=a.length:=I7 ..;rw[aff a bP (by omega) hg];simp only[A0];obtain⟨l,l1,l2,l3⟩:=Yd (Vw a bP) (by omega);have hln:=l2.length_eq;obtain⟨k,l',k1,k2⟩:=JO l (by omega);rw[l1];simp only[A0];rw[<-hln,k1];simp only[A0,bnd,k2];obtain⟨s1,_,s3⟩:=rN l3 l.length (F0 _);refine⟨_,rfl,s1,fun x=>?_⟩
 grind [List.take_length,Vw]
def lD(a bP:List Int):Bool:=!a.any fun x=>decide (x∈bP)
theorem Ff{a bP l:List Int}(h:∀x,x∈l↔x∈a/\x∈bP):((l.length:Int)==0)=lD a bP:=by
 rw[C3];simp only[beq_iff_eq,lD,D4,G2,decide_eq_true_eq];constructor
 ·grind
 ·intro hn;cases l with
  |nil=>rfl
  |cons x l=>exact(hn x ((h x).1 (by simp)).1 ((h x).1 (by simp)).2).elim
theorem afo{a bP l:List Int}(h:∀x,x∈l↔x∈a/\x∈bP):decide ((0:Int)<(l.length:Int))=!lD a bP:=by
 rw[<-Ff h,C3]
 grind
end Vs

namespace Vs
open Go
def gA(b:aD):Bool:=wi b.N 0 23&&wi b.F 1 (24-b.N)
theorem PW(b:aD):Jh b=some (gA b):=by
 unfold Jh gA;simp only[iW,A0];rcases bt (wi b.N 0 23) with e|e
 ·have:=bQ.1 e;rw[e,g9,az (by omega) (by omega),B7]
 ·rw[e];rfl
theorem rE(b:aD):Jg b=some (gA b):=by
 unfold Jg gA;simp only[dR,A0];by_cases h1:0<=b.N
 ·rw[g7 h1,g9];rcases bt (wi b.F 1 24) with e|e
  ·have:=bQ.1 e;rw[e,g9,az (by omega) (by omega)];congr 1;rw[C3];simp only[decide_eq_true_eq,A8,bQ];omega
  ·rw[e,g8];congr 1;symm;rw[K4];intro h;simp only[A8,bQ] at h;have:=qV.1 e;omega
 ·rw[u9 h1,g8];congr 1;symm;rw[K4];intro h;simp only[A8,bQ] at h;omega
def fD(b:aD):Prop:=(0<=b.N/\b.N<=24)/\0<=b.F/\b.F<=24
def Dj{b:aD}(h:gA b=true):fD b:=by
 unfold gA at h;simp only[A8,bQ] at h;unfold fD;omega
def fJ(b:aD):Int:=A5 .i64 ((A5 .i64 ((A5 .i64 (1*2^(min (B2 b.F) (B1 .i64))))-1))*2^(min (B2 b.N) (B1 .i64)))
theorem mP{b:aD}(h:fD b):yr b=some (fJ b):=by
 unfold yr;rw[aW h.2.1];simp only[A0];rw[aW h.1.1];rfl
theorem yu{b:aD}(h:fD b):GW b=some (fJ b):=by
 unfold GW;have h1:=h.1;have h2:=h.2;rw[lf (n:=b.F) (by omega) (by omega),lf (n:=b.N) (by omega) (by omega),aW h2.1];simp only[A0];rw[aW h1.1];rfl
def YI{b:aD}(h:b.F=0):fJ b=0:=by
 unfold fJ;have:A5 .i64 (1*2^(min (B2 b.F) (B1 .i64)))=1:=by rw[h];rfl
 rw[this];have:A5 .i64 (1-1:Int)=0:=rfl;rw[this,Int.zero_mul];rfl
def and0(y:Int):bits .and .i64 0 y=0:=by
 show A5 .i64 ((BitVec.ofInt 64 0 &&& BitVec.ofInt 64 y).toNat:Int)=0;have:BitVec.ofInt 64 0=0#64:=rfl;rw[this,BitVec.zero_and];rfl
def sE(x y:Int):bits .and .i64 x y=bits .and .i64 y x:=by
 show A5 .i64 ((BitVec.ofInt 64 x &&& BitVec.ofInt 64 y).toNat:Int)=A5 .i64 ((BitVec.ofInt 64 y &&& BitVec.ofInt 64 x).toNat:Int);rw[BitVec.and_comm]
theorem MJ(r:aj)(g:List Int)(hr:r.F.length<=1048576)(hg:g.length<=1048576):OE r g=some (!lD r.F g):=by
 unfold OE;rw[io (f:=Hz r g) r.F (fun x=>decide (x∈g)) (.inr true) (.inl ()) (fun i y hy=>by
  have hlt:=(A2.1 hy).1;have h1:decide ((i:Int)<r.F.length)=true:=by simp[hlt]
  simp only[Hz,h1,cond_true,aV,hy,A0,nt g y hg,<-pO];rw[az (by omega) (by omega)];cases decide (y∈g)<;>rfl) (by simp[Hz]) (by omega)]
 unfold lD;rw[P7];cases(r.F.any fun x=>decide (x∈g))<;>rfl
def eA(a:aj)(x:aD)(b:aj)(y:aD):Bool:=(bits .and .i64 (fJ x) (fJ y) !=0)&&!lD a.F b.F
def Hi(a b:List Int):lD a b=lD b a:=by
 unfold lD;congr 1;rw[C3];simp only[C2,decide_eq_true_eq];exact⟨fun⟨x,h1,h2⟩=>⟨x,h2,h1⟩,fun⟨x,h1,h2⟩=>⟨x,h2,h1⟩⟩
def il(a:aj)(x:aD)(b:aj)(y:aD):eA a x b y=eA b y a x:=by
 unfold eA;rw[sE,Hi]
theorem lq(a:aj)(x:aD)(b:aj)(y:aD)(ha:a.F.length<=12)(hb:b.F.length<=1048576)(hx:fD x)(hy:fD y):xB a x b y=some (eA a x b y):=by
 unfold xB VF eA;obtain⟨l,l1,_,l3⟩:=zU a.F b.F ha hb;simp only[mP hx,mP hy,A0,l1,afo l3];cases bits .and .i64 (fJ x) (fJ y) !=0<;>rfl
theorem jB(a:aj)(x:aD)(b:aj)(y:aD)(ha:a.F.length<=1048576)(hb:b.F.length<=1048576)(hx:fD x)(hy:fD y):yT a x b y=some (eA a x b y):=by
 unfold yT eA;simp only[MJ a b.F ha hb,yu hx,yu hy,A0];have h1:=hx.2.1;have h2:=hy.2.1;rcases bt (lD a.F b.F) with e|e
 ·rw[e];simp
 ·rw[e];simp only[F6,cond_true,H9];by_cases c1:0<x.F
  ·rw[g7 c1,g9];by_cases c2:0<y.F
   ·rw[g7 c2,g9]
   ·rw[u9 c2,g8,YI (b:=y) (by omega),sE,and0];rfl
  ·rw[u9 c1,g8,YI (b:=x) (by omega),and0];rfl
def BD(xs:List (List Int))(f:List Int->Option Bool)(p:List Int->Bool)(hf:∀x∈xs,f x=some (p x))(hl:xs.length<=1048576):PA xs f=some (match cD (fun _ x=>p x) xs with|some q=>(q.1:Int)|none=>-1):=by
 unfold PA;rw[cO (f:=IC xs f) xs (fun _ x=>p x) (fun i _=>(i:Int)) () (fun i x hx _=>by
  have hlt:=(A2.1 hx).1;have h1:decide ((i:Int)<xs.length)=true:=by simp[hlt]
  simp only[IC,h1,cond_true,aV,hx,A0,hf x (A3 hx)];rw[az (by omega) (by omega)];cases p x<;>rfl) (by simp[IC]) (by omega)]
 cases cD (fun _ x=>p x) xs<;>rfl
theorem IR(n:af)(e:Int)(h:n.F.length<=14):Sp n e=some (mF n e):=by
 unfold Sp mF;have hg:=Dc h;have hK:=zJ n h;rw[Rd n h];simp only[A0];rw[BD (dy n) (fun x0=>Gw x0 e) (fun g=>decide (e∈g)) (fun x hx=>by
  unfold Gw;rw[vV x e (by have:=(hg x hx).1;omega)];rfl) (by omega)]
 rfl
theorem uv(n:af)(l:List Int)(h:n.F.length<=14)(hl:l.length<=1048576):GX n l=some (l.map (mF n)):=by
 unfold GX;have:=dl (f:=Jo n l) l (fun i(a:List Int)=>((i:Int),a)) (fun _ x a=>.inl (a++[mF n x])) (fun a=>a) (fun i a=>a.length<=i) (fun i a x hx hI=>by
  have hlt:=(A2.1 hx).1;have h1:decide ((i:Int)<l.length)=true:=by simp[hlt]
  refine .inl ⟨_,rfl,by simp;omega,?_⟩;simp only[Jo,h1,cond_true,aV,hx,A0,IR n x h,bnd];rw[aW (by omega),az (by omega) (by omega)];rfl) (fun a _=>by simp[Jo]) [] (F0 0) (by omega)
 have e0:((0:Nat):Int)=0:=rfl;simp only[e0] at this;rw[this];have gen:∀(xs:List Int)(i:Nat)(a:List Int),bU (fun(_:Nat) x(a:List Int)=>(.inl (a++[mF n x]):List Int⊕List Int)) (fun a=>a) i xs a=a++xs.map (mF n):=by
  intro xs;induction xs with
  |nil=>intro i a;simp[bU]
  |cons x xs ih=>intro i a;simp only[bU];rw[ih];simp
 rw[gen];rfl
theorem wZ(n:af)(a b:List Int)(h:bA n=true)(ha:a.length<=12)(hb:b.length<=1048576)(fa:∀x∈a,iJ n x)(fb:∀x∈b,iJ n x):Dg n a b=some (apP n a b):=by
 have hn:=(jy h).2.2;unfold Dg;obtain⟨l,l1,_,l3⟩:=zU (a.map (mF n)) (b.map (mF n)) (by simpa using ha) (by simpa using hb);simp only[uv n a hn (by omega),uv n b hn hb,A0,l1,Ff l3];rw[<-Kd h fa fb];rfl
theorem BL(n:af)(e:Int)(h:n.F.length<=14)(he:iJ n e):Bf n e=some (mf n e):=by
 obtain⟨f,f1,f2⟩:=vB he;have e0:e=(e.toNat:Int):=by have:=he.1;omega
 unfold mf;rw[f2];by_cases h0:f.F=0
 ·rw[u7 h0];unfold Bf;have hg:bC n.F e=some f:=by rw[e0,aV];exact f1
  simp only[hg,A0,bnd];rw[show(f.F==0)=true by simpa using h0,g9]
 ·rw[u6 h0];have:=JE n h e.toNat f f1 h0;rw[<-e0] at this;exact this
theorem oc(n:af)(a b:aj)(h:n.F.length<=14)(ha:a.F.length<=1048576)(hb:b.F.length<=1048576)(fa:∀x∈a.F,iJ n x):yk n a b=some (apP n a.F b.F):=by
 unfold yk;rw[io (f:=Kn n a b) a.F (fun x=>b.F.any fun y=>decide (y∈mf n x)) (.inr false) (.inl ()) (fun i x hx=>by
  have hlt:=(A2.1 hx).1;have h1:decide ((i:Int)<a.F.length)=true:=by simp[hlt]
  have hgl:(mf n x).length<=1048576:=by
   unfold mf;split
   ·simp
   ·have:=nf (iG n x) n.F 0;omega
  simp only[Kn,h1,cond_true,aV,hx,A0,BL n x h (fa x (A3 hx))];rw[io (f:=M_t b (mf n x)) b.F (fun y=>decide (y∈mf n x)) (.inr false) (.inl ()) (fun j y hy=>by
   have hlt:=(A2.1 hy).1;have h1:decide ((j:Int)<b.F.length)=true:=by simp[hlt]
   simp only[M_t,h1,cond_true,aV,hy,A0,nt (mf n x) y hgl,<-pO];rw[az (by omega) (by omega)];cases decide (y∈mf n x)<;>rfl) (by simp[M_t]) (by omega),az (by omega) (by omega)]
  cases(b.F.any fun y=>decide (y∈mf n x))<;>rfl) (by simp[Kn]) (by omega)]
 unfold apP;cases(a.F.any fun x=>b.F.any fun y=>decide (y∈mf n x))<;>rfl
end Vs

namespace Vs
open Go
theorem DA{n:af}:∀(xs:List Int)(i:Nat)(a:Int×List Int)(l:List Int),bU (oA n) (fun a=>some a.2) i xs a=some l->∃t,l=a.2++t
 |[],_,a,l,h=>by simp_all [Option.some.injEq,bU]
 | x :: xs, i, a, l, h => by
   simp only[bU,oA] at h;rcases bt (rq n x a) with e|e
   ·rw[e] at h;cases h
   ·rw[e] at h;simp only[C4,if_false] at h;obtain⟨t,ht⟩:=DA xs (i+1) _ l h;exact⟨cG n x a.1::t,by rw[ht];simp⟩
def zT{n:af}{r:aj}{l:List Int}(h:gN n r=some l):l[0]?=some r.N:=by
 grind [DA,gN]
def nC(n:af)(r:aj):Int:=match gN n r with|some l=>gz l (l.length-1)|none=>0
structure ph(n:af)(r:aj):Prop where
 len:r.F.length<=12
 fib:∀x∈r.F,iJ n x
 nod:r.F.Nodup
theorem jM{n:af}(h:bA n=true){r:aj}{l:List Int}(hl:gN n r=some l):ph n r/\l.length=r.F.length+1:=by
 obtain⟨g1,g2,g3,g4,g5⟩:=Hf (QM h) hl;have:=nb n.N.length l g1 g2;have:=jy h;exact⟨⟨by omega,g4,g5⟩,g3⟩
theorem EL{n:af}{r:aj}{l:List Int}(h:bA n=true)(hr:r.F.length<=1048576)(hl:gN n r=some l):HT n r=some (nC n r):=by
 have hb:=jy h;obtain⟨o,o1,o2⟩:=yV n r (by omega) (by omega) hr;obtain rfl:=o2 l hl;obtain⟨hi,hlen⟩:=jM h hl;have:=hi.len;unfold HT WK nC
 grind [az,aW,Int.toNat_natCast,uN]
def eQ(n:af)(s:ae):Bool:=
 (wi s.Id 1 999&&wi s.W 0 2&&(gN n s.N).isSome&&gA s.P)&&
 (if s.W=0 then decide (s.F.N=0)&&decide (s.F.F.length=0)&&(s.L.N==0&&s.L.F==0)
  else(gN n s.F).isSome&&gA s.L&&decide (s.F.N=s.N.N)&&decide (nC n s.F=nC n s.N)&&apP n s.N.F s.F.F)
structure du(n:af)(s:ae):Prop where
 wr:ph n s.N
 sr:ph n s.F
 wb:fD s.P
 sb:fD s.L
theorem iM{n:af}{s:ae}(h:bA n=true)(hs:eQ n s=true):du n s:=by
 unfold eQ at hs;simp only[A8] at hs;obtain⟨⟨⟨_,h3⟩,h4⟩,h5⟩:=hs;obtain⟨l,hl⟩:=G1.1 h3;by_cases c:s.W=0
 ·rw[u7 c] at h5;simp only[A8,decide_eq_true_eq,beq_iff_eq] at h5;obtain⟨⟨k1,k2⟩,k3,k4⟩:=h5;have k2:s.F.F=[]:=D6.1 k2;exact⟨(jM h hl).1,⟨by rw[k2];simp,by rw[k2];simp,by rw[k2];simp⟩,Dj h4,by unfold fD;omega⟩
 ·rw[u6 c] at h5;simp only[A8] at h5;obtain⟨⟨⟨⟨k1,k2⟩,_⟩,_⟩,_⟩:=h5;obtain⟨l2,hl2⟩:=G1.1 k1;exact⟨(jM h hl).1,(jM h hl2).1,Dj h4,Dj k2⟩
theorem c4(a b c d:Bool):(cond (!a) (some true) (cond (!b) (some true) (cond (!c) (some true) (some (!d)))):Option Bool)=some (!(a&&b&&c&&d)):=by
 grind
def c3z(s:ae):(cond (s.F.N==0) (cond ((s.F.F.length:Int)==0) (some (s.L.N==0&&s.L.F==0)) (some false)) (some false):Option Bool)=
 some (decide (s.F.N=0)&&decide (s.F.F.length=0)&&(s.L.N==0&&s.L.F==0)):=by
 grind [abo]
theorem deqI(a b:Int):(a==b)=decide (a=b):=rfl
theorem vw(n:af)(s:ae)(h:bA n=true)(hz:bJ n<=1048576)(hw:s.N.F.length<=1048576)(hs:s.F.F.length<=1048576):Qb n s=some (eQ n s):=by
 unfold Qb eQ;have hr:∀r:aj,r.F.length<=1048576->Cv n r=some (gN n r).isSome:=fun r hr=>by
  simp_all [NB,B7,Ku]
 simp only[iW,PW,hr s.N hw,hr s.F hs,A0,c4];rcases bt (wi s.Id 1 999&&wi s.W 0 2&&(gN n s.N).isSome&&gA s.P) with e|e
 ·rw[e];simp only[B0,cond_false,B7];simp only[A8] at e;obtain⟨l,hl⟩:=G1.1 e.1.2;by_cases c:s.W=0
  ·rw[u7 c,show(s.W==0)=true by simpa using c,g9,c3z];rfl
  ·rw[u6 c,show(s.W==0)=false by simpa using c,g8];cases hl2:gN n s.F with
   |none=>rfl
   | some l2 =>
     simp only[K0,cond_true,B7,EL h hs hl2,EL h hw hl,A0,oc n s.N s.F (jy h).2.2 hw hs (jM h hl).1.fib,deqI]
     grind
 ·rw[e];rfl
theorem yS(n:af)(s:ae)(h:bA n=true)(hw:s.N.F.length<=1048576)(hs:s.F.F.length<=1048576):Ll n s=some (eQ n s):=by
 have hb:=jy h;unfold Ll eQ;simp only[dR,rE,uV n s.N (by omega) (by omega) hw,uV n s.F (by omega) (by omega) hs,A0];cases hl:gN n s.N with
 | none =>
   simp_all
 | some l =>
   simp only[c4,K0];rcases bt (wi s.Id 1 999&&wi s.W 0 2&&true&&gA s.P) with e|e
   ·rw[e];simp only[B0,cond_false,B7];by_cases c:s.W=0
    ·rw[u7 c,show(s.W==0)=true by simpa using c,g9,c3z];rfl
    ·rw[u6 c,show(s.W==0)=false by simpa using c,g8];cases hl2:gN n s.F with
     |none=>rfl
     | some l2 =>
       obtain⟨i1,n1⟩:=jM h hl;obtain⟨i2,n2⟩:=jM h hl2;have q1:=i1.len;have q2:=i2.len;have e1:A5 .i64 ((l.length:Int)-1)=((l.length-1:Nat):Int):=by rw[az (by omega) (by omega)];omega
       have e2:A5 .i64 ((l2.length:Int)-1)=((l2.length-1:Nat):Int):=by rw[az (by omega) (by omega)];omega
       have d1:grd (0<=0/\0<(l.length:Int))=some ():=aW (by omega);have d2:grd (0<=0/\0<(l2.length:Int))=some ():=aW (by omega);have d3:grd (0<=((l.length-1:Nat):Int)/\((l.length-1:Nat):Int)<(l.length:Int))=some ():=aW (by omega);have d4:grd (0<=((l2.length-1:Nat):Int)/\((l2.length-1:Nat):Int)<(l2.length:Int))=some ():=aW (by omega);have g1:l[B2 0]?=some s.N.N:=zT hl;have g2:l2[B2 0]?=some s.F.N:=zT hl2;have g3:l[l.length-1]?=some (nC n s.N):=by unfold nC;rw[hl];exact uN (by omega)
       have g4:l2[l2.length-1]?=some (nC n s.F):=by unfold nC;rw[hl2];exact uN (by omega)
       simp only[K0,cond_true,B7,e1,e2,d1,d2,d3,d4,g1,g2,A6,g3,g4,A0,wZ n s.N.F s.F.F h i1.len (by omega) i1.fib i2.fib,deqI]
       grind
   ·rw[e];rfl
def dZ(n:af)(a b:ae):Bool:=
 !(eA a.N a.P b.N b.P||eA a.N a.P b.F b.L||eA a.F a.L b.N b.P)&&
 ((a.W==2&&b.W==2&&apP n a.N.F b.N.F)||!eA a.F a.L b.F b.L)
def mM(n:af)(a b:ae)(h:bA n=true)(ha:du n a)(hb:du n b):JQ n a b=some (dZ n a b):=by
 have a1:=ha.wr.len;have a2:=ha.sr.len;have b1:=hb.wr.len;have b2:=hb.sr.len;unfold JQ dZ;simp only[lq a.N a.P b.N b.P a1 (by omega) ha.wb hb.wb,lq a.N a.P b.F b.L a1 (by omega) ha.wb hb.sb,lq a.F a.L b.N b.P a2 (by omega) ha.sb hb.wb,
  lq a.F a.L b.F b.L a2 (by omega) ha.sb hb.sb,wZ n a.N.F b.N.F h a1 (by omega) ha.wr.fib hb.wr.fib,A0]
 grind
theorem jV(n:af)(a b:ae)(h:bA n=true)(ha:du n a)(hb:du n b):IU n a b=some (dZ n a b):=by
 have a1:=ha.wr.len;have a2:=ha.sr.len;have b1:=hb.wr.len;have b2:=hb.sr.len;unfold IU dZ;simp only[jB a.N a.P b.N b.P (by omega) (by omega) ha.wb hb.wb,jB a.N a.P b.F b.L (by omega) (by omega) ha.wb hb.sb,jB a.F a.L b.N b.P (by omega) (by omega) ha.sb hb.wb,
  jB a.F a.L b.F b.L (by omega) (by omega) ha.sb hb.sb,oc n a.N b.N (jy h).2.2 (by omega) (by omega) ha.wr.fib,A0]
 grind
def uf{list:List ae}(h:bG list<=1048576){s:ae}(hs:s∈list):s.N.F.length<=1048576/\s.F.F.length<=1048576:=by
 obtain⟨i,hi⟩:=B5 hs;have h2:s.N.F.length+s.F.F.length<=(list.map fun x=>fK x).sum:=Bw (fun x=>fK x) hi
 grind [bG]
def DL{list:List ae}(h:bG list<=1048576):list.length<=1048576:=by grind [bG]
def ip(n:af)(list:List ae)(i:Nat)(s:ae):Bool:=
 !eQ n s||(decide (0<i)&&match list[i-1]? with|some g=>decide (s.Id<=g.Id)|none=>false)||(list.take i).any fun o=>!dZ n o s
def fC(n:af)(list:List ae):Bool:=bA n&&decide (list.length<=8)&&!fh (ip n list) list
def Pf(xs:List ae)(f:ae->Option Bool)(p:ae->Bool)(hf:∀x∈xs,f x=some (p x))(hl:xs.length<=1048576):tn xs f=some (xs.any p):=by
 unfold tn Bo;rw[cO (f:=wS xs f) xs (fun _ x=>p x) (fun i _=>(i:Int)) () (fun i x hx _=>by
  have hlt:=(A2.1 hx).1;have h1:decide ((i:Int)<xs.length)=true:=by simp[hlt]
  simp only[wS,h1,cond_true,aV,hx,hf x (A3 hx),A0];rw[az (by omega) (by omega)];cases p x<;>rfl) (by simp[wS]) (by omega)]
 rw[<-mZ];cases e:cD (fun _ x=>p x) xs with
 | none =>
   have h:fh (fun _ x=>p x) xs=false:=cC.2 (dE.1 e);rw[h];rfl
 | some q =>
   obtain⟨i,x⟩:=q;obtain⟨h1,h2,_⟩:=cA.1 e;have h:fh (fun _ x=>p x) xs=true:=gh.2 ⟨i,x,h1,h2⟩;rw[h];simp
def ul{n:af}(h:bA n=true){list:List ae}{i:Nat}(hprev:∀j y,j<i->list[j]?=some y->ip n list j y=false):∀o∈list.take i,du n o:=by
 grind [List.getElem?_of_mem,Bool.or_eq_false_iff,Bool.not_eq_false',iM,ip]
theorem cP(n:af)(list:List ae)(hz:bJ n<=1048576)(hl:bG list<=1048576):wR n list=some (fC n list):=by
 have hll:=DL hl;unfold wR fC;rw[fZ n hz];simp only[A0];rcases bt (bA n) with hn|hn
 ·rw[hn];simp only[B0,cond_false,A0,B7];by_cases h8:list.length<=8
  ·have e8:decide ((8:Int)<(list.length:Int))=false:=u9 (by omega);rw[e8,g8,g7 h8,B7];rw[et (f:=GR n list) list (ip n list) (.inr false) (.inl ()) (fun i x hx hprev=>by
    have hlt:=(A2.1 hx).1;have h1:decide ((i:Int)<list.length)=true:=by simp[hlt]
    obtain⟨w1,w2⟩:=uf hl (A3 hx);simp only[GR,h1,cond_true,aV,hx,A0,yS n x hn w1 w2,FC list i (by omega)];unfold ip;rcases bt (eQ n x) with e|e
    ·have hin:=iM hn e;have hcf:tn (list.take i) (fun x0=>Cf x0 n x)=some ((list.take i).any fun o=>!dZ n o x):=Pf _ _ _ (fun o ho=>by
      unfold Cf;rw[mM n o x hn (ul hn hprev o ho) hin];rfl) (by simp;omega)
     rw[e];simp only[B0,cond_false,G7,hcf,A0];rw[az (n:=(i:Int)+1) (by omega) (by omega)];by_cases h0:0<i
     ·have e0:decide ((0:Int)<(i:Int))=true:=g7 (by omega);have ew:A5 .i64 ((i:Int)-1)=((i-1:Nat):Int):=by rw[az (by omega) (by omega)];omega
      have hg:list[i-1]?=some (list[i-1]'(by omega)):=A1 (by omega);rw[e0,g9,ew,aV,hg,g7 h0];simp only[A0,B7];cases decide (x.Id<=(list[i-1]'(by omega)).Id)<;>cases((list.take i).any fun o=>!dZ n o x)<;>rfl
     ·have e0:decide ((0:Int)<(i:Int))=false:=u9 (by omega);rw[e0,g8,u9 h0];simp only[M8,G7];cases((list.take i).any fun o=>!dZ n o x)<;>rfl
    ·rw[e];rfl) (by simp[GR]) (by omega)]
   grind
  grind
 ·rw[hn];rfl
def Jl(n:af)(list:List ae)(hz:bJ n<=1048576)(hl:bG list<=1048576):Nb n list=some (fC n list):=by
 have hll:=DL hl;unfold Nb fC;rw[sS n hz];simp only[A0];rcases bt (bA n) with hn|hn
 ·rw[hn];simp only[B0,cond_false,A0,B7];by_cases h8:list.length<=8
  ·have e8:decide ((8:Int)<(list.length:Int))=false:=u9 (by omega);rw[e8,g8,g7 h8,B7];rw[et (f:=GL n list) list (ip n list) (.inr false) (.inl ()) (fun i x hx hprev=>by
    have hlt:=(A2.1 hx).1;have h1:decide ((i:Int)<list.length)=true:=by simp[hlt]
    obtain⟨w1,w2⟩:=uf hl (A3 hx);simp only[GL,h1,cond_true,aV,hx,A0,vw n x hn hz w1 w2];rw[az (n:=(i:Int)+1) (by omega) (by omega)];unfold ip;rcases bt (eQ n x) with e|e
    ·have hin:=iM hn e;have hcf:aZ (BK n list (i:Int)) N0 0=some (if(list.take i).any (fun o=>!dZ n o x) then .inr false else .inl ()):=by
      refine io (f:=BK n list (i:Int)) (list.take i) (fun o=>!dZ n o x) (.inr false) (.inl ()) (fun k o ho=>?_) ?_ (by simp;omega)
      ·have hin2:=ul hn hprev o (A3 ho);rw[E0] at ho;split at ho
       ·rename_i hki;have h1:decide ((k:Int)<(i:Int))=true:=g7 (by omega);simp only[BK,h1,cond_true,aV,ho,hx,A0,jV n o x hn hin2 hin];rw[az (by omega) (by omega)];cases dZ n o x<;>rfl
       ·cases ho
      ·have h1:decide ((((list.take i).length:Nat):Int)<(i:Int))=false:=u9 (by simp;omega);simp only[BK,h1,cond_false]
     rw[e];simp only[B0,cond_false,G7,hcf,A0];by_cases h0:0<i
     ·have e0:decide ((0:Int)<(i:Int))=true:=g7 (by omega);have ew:A5 .i64 ((i:Int)-1)=((i-1:Nat):Int):=by rw[az (by omega) (by omega)];omega
      have hg:list[i-1]?=some (list[i-1]'(by omega)):=A1 (by omega);rw[e0,g9,ew,aV,hg,g7 h0];simp only[A0,B7];cases decide (x.Id<=(list[i-1]'(by omega)).Id)<;>cases((list.take i).any fun o=>!dZ n o x)<;>rfl
     ·have e0:decide ((0:Int)<(i:Int))=false:=u9 (by omega);rw[e0,g8,u9 h0];simp only[A0,cond_false,M8,G7];cases((list.take i).any fun o=>!dZ n o x)<;>rfl
    ·rw[e];rfl) (by simp[GL]) (by omega)]
   grind
  grind
 ·rw[hn];rfl
structure ahf(n:af)(list:List ae):Prop where
 net:bA n=true
 len:list.length<=8
 svc:∀s∈list,du n s
 ok:∀s∈list,eQ n s=true
def od{n:af}{list:List ae}(h:fC n list=true):ahf n list:=by
 unfold fC at h;simp only[A8,decide_eq_true_eq,D4] at h;obtain⟨⟨h1,h2⟩,h3⟩:=h;have key:∀s∈list,eQ n s=true:=fun s hs=>by
  grind [List.getElem?_of_mem,cC,Bool.or_eq_false_iff,Bool.not_eq_false',ip]
 exact⟨h1,h2,fun s hs=>iM h1 (key s hs),key⟩
end Vs

namespace Vs
open Go
def Tl{l:List Int}(h:∀(i:Nat)(a b:Int),l[i]?=some a->l[i+1]?=some b->a<b):l.Pairwise (·<·):=by
 rw[B6];intro i j hi hj hij;obtain⟨d,rfl⟩:∃d,j=i+1+d:=⟨j-i-1,by omega⟩;induction d with
 |zero=>exact h i _ _ (A1 hi) (A1 hj)
 | succ d ih =>
   have h1:=ih (by omega) (by omega);have h2:=h (i+1+d) _ _ (A1 (by omega)) (A1 (by omega));have h3:l[i+1+(d+1)]'hj=l[i+1+d+1]'(by omega):=rfl;omega
def Cc{l:List Int}(h:l.Pairwise (·<·)):l.Nodup:=h.imp fun h=>by omega
end Vs





namespace Vs
open Go
def orF(ok:Int->Bool)(m:Int)(k:Nat)(fs:List Int)(out:List Int):List Int:=dY (fun(_:Nat) x(o:List Int)=>if ok x then o.set x.toNat (bits .or .i64 (gz o x.toNat) m) else o) k fs out
theorem wd(ok:Int->Bool)(m:Int):∀(fs:List Int)(k:Nat)(out:List Int),(orF ok m k fs out).length=out.length
 |[],_,_=>rfl
 | x :: fs, k, out => by
   have:=wd ok m fs (k+1) (if ok x then out.set x.toNat (bits .or .i64 (gz out x.toNat) m) else out);have h2:(if ok x then out.set x.toNat (bits .or .i64 (gz out x.toNat) m) else out).length=out.length:=by split<;>simp
   exact this.trans h2
theorem BQ(ok:Int->Bool)(m:Int)(f:Nat):∀(fs:List Int)(k:Nat)(out:List Int),fs.Nodup->(∀x∈fs,0<=x/\x<(out.length:Int))->gz (orF ok m k fs out) f=if decide ((f:Int)∈fs)&&ok f then bits .or .i64 (gz out f) m else gz out f
 |[],_,out,_,_=>by simp[orF,dY]
 | x :: fs, k, out, hn, hx => by
   obtain⟨h1,h2⟩:=I1.1 hn;have hx0:=hx x (by simp);have hlen:(if ok x then out.set x.toNat (bits .or .i64 (gz out x.toNat) m) else out).length=out.length:=by split<;>simp
   have ih:=BQ ok m f fs (k+1) (if ok x then out.set x.toNat (bits .or .i64 (gz out x.toNat) m) else out) h2 (fun y hy=>by rw[hlen];exact hx y (F3 _ hy));have e:orF ok m k (x::fs) out=orF ok m (k+1) fs (if ok x then out.set x.toNat (bits .or .i64 (gz out x.toNat) m) else out):=rfl;rw[e,ih];by_cases c:(f:Int)=x
   ·subst c;have hnm:¬(f:Int)∈fs:=h1;simp only[hnm,decide_false,M8,C4,if_false,C9,true_or,decide_true,B7,A6];split
    ·rw[NX (by omega),u7 rfl]
    ·rfl
   ·have hne:f≠x.toNat:=by omega
    have e2:gz (if ok x then out.set x.toNat (bits .or .i64 (gz out x.toNat) m) else out) f=gz out f:=by
     split
     ·rw[NX (by omega),u6 hne]
     ·rfl
    rw[e2];have e3:decide ((f:Int)∈x::fs)=decide ((f:Int)∈fs):=by
     rw[C3];simp[c]
    rw[e3]
def Ei{f:Int×List Int->Option ((Int×List Int)⊕List Int)}(ok:Int->Bool)(m:Int)(fs:List Int)(F:Nat)(hl:fs.length<=1048576)(hx:∀x∈fs,0<=x/\x<(F:Int))
 (h1:∀(i:Nat) x(o:List Int),fs[i]?=some x->o.length=F->0<=x->x<(F:Int)->o[x.toNat]?=some (gz o x.toNat)->f ((i:Int),o)=some (.inl (((i+1:Nat):Int),if ok x then o.set x.toNat (bits .or .i64 (gz o x.toNat) m) else o)))
 (h2:∀o,f ((fs.length:Int),o)=some (.inr o)) (out:List Int) (ho:out.length=F):aZ f N0 (0,out)=some (orF ok m 0 fs out):=by
 exact ij (f:=f) fs (fun i(o:List Int)=>((i:Int),o)) (fun _ x o=>if ok x then o.set x.toNat (bits .or .i64 (gz o x.toNat) m) else o) (fun o=>o) (fun _ o=>o.length=F) (fun i o x hi hI=>by
  obtain⟨q1,q2⟩:=hx x (A3 hi);refine⟨by split<;>simp[hI],h1 i x o hi hI q1 q2 (uN (by omega))⟩) (fun o _=>h2 o) out ho (by omega)
theorem qr{α A:Type}(g:Nat->α->A->A):∀(xs:List α)(i:Nat)(a:A)(x:α),dY g i (xs++[x]) a=g (i+xs.length) x (dY g i xs a)
 |[],i,a,x=>by simp[dY]
 | y :: ys, i, a, x => by
   simp only[I9,dY,qr g ys (i+1),B4];congr 1;omega
def FD{a b:List Int}(hl:a.length=b.length)(h:∀i,i<a.length->gz a i=gz b i):a=b:=by
 apply O2;intro i;by_cases hi:i<a.length
 ·rw[uN hi,uN (by omega),h i hi]
 ·rw[M2 (by omega),M2 (by omega)]
theorem RS(F i:Nat):gz (M9 F 0) i=0:=by
 unfold gz;rw[List.getElem?_replicate];split<;>rfl
theorem OU(F:Nat)(g:Nat->Int){i:Nat}(h:i<F):gz ((A9 F).map g) i=g i:=by
 unfold gz;rw[C0,J5 h];rfl
def smF(sel:ae->aj×aD)(list:List ae)(f:Nat):Int:=dY (fun(_:Nat) s(a:Int)=>if decide ((f:Int)∈(sel s).1.F) then bits .or .i64 a (fJ (sel s).2) else a) 0 list 0
def rm(s:ae):aj×aD:=(s.N,s.P)
def fw(s:ae):aj×aD:=(s.F,s.L)
def smP(n:af)(list:List ae):List Int×List Int×Bool:=if fC n list then((A9 n.F.length).map (smF rm list),(A9 n.F.length).map (smF fw list),true) else([],[],false)
theorem gD(n:af)(list:List ae)(hz:bJ n<=1048576)(hl:bG list<=1048576):JD n list=some (smP n list):=by
 unfold JD smP;rw[cP n list hz hl];simp only[A0];rcases bt (fC n list) with e|e
 ·have hs:=od e;have h8:=hs.len;have hn:=(jy hs.net).2.2;rw[e,u7 rfl];simp only[B0,cond_false];unfold Bp;rw[aW (by omega)];simp only[A0,bnd,A6];obtain⟨o,o1,o2⟩:=bq (f:=GT list) (fun s=>∃(i:Nat)(a b:List Int),s=((i:Int),a,b)/\i<=list.length/\a.length=n.F.length/\b.length=n.F.length/\∀f,f<n.F.length->gz a f=smF rm (list.take i) f/\gz b f=smF fw (list.take i) f) (fun s=>list.length-s.1.toNat)
   (fun o=>o=((A9 n.F.length).map (smF rm list),(A9 n.F.length).map (smF fw list))) (fun s hI=>by
   obtain⟨i,a,b,rfl,i1,i2,i3,i4⟩:=hI;by_cases hi:i<list.length
   ·left;have hx:list[i]?=some (list[i]'hi):=A1 hi;generalize list[i]'hi=x at hx;have hin:=hs.svc x (A3 hx);have w1:=hin.wr.len;have w2:=hin.sr.len;have e1:decide ((i:Int)<(list.length:Int))=true:=g7 (by omega);have l2:aZ (M_y x) N0 (0,a)=some (orF (fun _=>true) (fJ x.P) 0 x.N.F a):=by
     refine Ei (f:=M_y x) (fun _=>true) (fJ x.P) x.N.F n.F.length (by omega) (fun y hy=>hin.wr.fib y hy) (fun k y o hy hol h0 h1 hg2=>?_) (fun o=>by simp[M_y]) a i2;have hlt:=(A2.1 hy).1;have e1:decide ((k:Int)<x.N.F.length)=true:=by simp[hlt]
     simp only[M_y,e1,cond_true,aV,hy,A0,hg2,mP hin.wb,bnd,if_true];rw[aW (by omega),az (n:=(k:Int)+1) (by omega) (by omega)];rfl
    have l3:aZ (M_p x) N0 (0,b)=some (orF (fun _=>true) (fJ x.L) 0 x.F.F b):=by
     refine Ei (f:=M_p x) (fun _=>true) (fJ x.L) x.F.F n.F.length (by omega) (fun y hy=>hin.sr.fib y hy) (fun k y o hy hol h0 h1 hg2=>?_) (fun o=>by simp[M_p]) b i3;have hlt:=(A2.1 hy).1;have e1:decide ((k:Int)<x.F.F.length)=true:=by simp[hlt]
     simp only[M_p,e1,cond_true,aV,hy,A0,hg2,mP hin.sb,bnd,if_true];rw[aW (by omega),az (n:=(k:Int)+1) (by omega) (by omega)];rfl
    simp only[GT,e1,cond_true,aV,hx,A0,l2,l3];rw[az (by omega) (by omega)];refine⟨_,rfl,⟨i+1,_,_,rfl,by omega,by rw[wd];exact i2,by rw[wd];exact i3,fun f hf=>?_⟩,by simp only[];omega⟩;have htl:(list.take i).length=i:=by rw[C5];omega
    have hsm:∀sel:ae->aj×aD,smF sel (list.take (i+1)) f=if decide ((f:Int)∈(sel x).1.F) then bits .or .i64 (smF sel (list.take i) f) (fJ (sel x).2) else smF sel (list.take i) f:=fun sel=>by
     unfold smF;rw[G3,hx];simp only[Option.toList_some];rw[qr]
    rw[hsm,hsm,BQ _ _ f _ _ _ hin.wr.nod (fun y hy=>by rw[i2];exact hin.wr.fib y hy),BQ _ _ f _ _ _ hin.sr.nod (fun y hy=>by rw[i3];exact hin.sr.fib y hy),(i4 f hf).1,(i4 f hf).2];simp only[H9];exact⟨rfl,rfl⟩
   ·right;have e1:decide ((i:Int)<(list.length:Int))=false:=u9 (by omega);refine⟨(a,b),by simp only[GT,e1,cond_false],?_⟩;have hti:list.take i=list:=G6 (by omega);rw[hti] at i4;refine Prod.ext (FD (by simp[i2]) fun f hf=>?_) (FD (by simp[i3]) fun f hf=>?_)
    ·simp only at hf⊢;rw[OU _ _ (by omega),(i4 f (by omega)).1]
    ·simp only at hf⊢;rw[OU _ _ (by omega),(i4 f (by omega)).2]) N0 (((0:Nat):Int),M9 n.F.length 0,M9 n.F.length 0) ⟨0,_,_,rfl,by omega,by simp,by simp,fun f hf=>⟨by rw[RS];rfl,by rw[RS];rfl⟩⟩ (cI (by simp;omega))
  have e0:((0:Nat):Int)=0:=rfl;rw[e0] at o1;rw[o1,o2];rfl
 ·rw[e];rfl
end Vs

namespace Vs
open Go
def cU{n:af}(h:bA n=true):2<=n.N.length/\n.N.length<=8/\n.F.length<=14:=by
 unfold bA at h;simp only[A8,decide_eq_true_eq,bQ] at h;omega
def rF{n:af}(h:bA n=true){i:Nat}{f:aH}(hf:n.F[i]?=some f):zP n.N.length f:=by
 unfold bA at h;simp only[A8,D4] at h;have:=cC.1 h.1.1.2 i f hf;unfold iO at this;simp only[D5] at this;exact qa this.1
end Vs

namespace Vs
open Go
def tL(n:af)(y:Int):Int:=match n.F[y.toNat]? with|some f=>f.N|none=>0
def dq(n:af)(r:aj):Int:=dY (fun _ y s=>A5 .i64 (s+tL n y)) 0 r.F 0
def RtB(n:af)(r:aj):Prop:=r.F.length<=20/\(∀e∈r.F,0<=e/\e<n.F.length)/\0<=r.N/\r.N<8
def eL{n:af}{r:aj}(h:RtB n r):py n r=some (dq n r):=by
 have h1:=h.1;unfold py dq;have:=ij (f:=M_e n r) r.F (fun i(s:Int)=>(s,(i:Int))) (fun _ y s=>A5 .i64 (s+tL n y)) id (fun _ _=>True) (fun i s y hy _=>by
  have hlt:=(A2.1 hy).1;have e1:decide ((i:Int)<r.F.length)=true:=by simp[hlt]
  obtain⟨g1,g2⟩:=h.2.1 y (A3 hy);have hf:bC n.F y=n.F[y.toNat]?:=by unfold bC;rw[u7 g1]
  have hs:n.F[y.toNat]?=some (n.F[y.toNat]'(by omega)):=A1 _;refine⟨trivial,?_⟩;simp only[M_e,e1,cond_true,aV,hy,A0,hf,tL];rw[hs];simp only[A0];rw[az (n:=(i:Int)+1) (by omega) (by omega)];rfl) (fun s _=>by simp[M_e]) 0 trivial (by omega)
 have e0:((0:Nat):Int)=0:=rfl;simp only[e0] at this;rw[this];rfl
def mp{n:af}{r:aj}(h:RtB n r):Gq n r=some (dq n r):=eL h
def wW{n:af}(hn:bA n=true){r:aj}(h:RtB n r):0<=dq n r/\dq n r<=100000:=by
 have gen:∀(ys:List Int)(i:Nat)(s:Int),(∀e∈ys,0<=e/\e<n.F.length)->i+ys.length<=20->0<=s->s<=5000*i->0<=dY (fun _ y s=>A5 .i64 (s+tL n y)) i ys s/\dY (fun _ y s=>A5 .i64 (s+tL n y)) i ys s<=5000*(i+ys.length:Nat):=by
  intro ys;induction ys with
  |nil=>simp_all [dY]
  | cons y ys ih =>
    intro i s hy hi h1 h2;simp only[B4] at hi;obtain⟨g1,g2⟩:=hy y (by simp);have hs:n.F[y.toNat]?=some (n.F[y.toNat]'(by omega)):=A1 _;obtain⟨_,_,_,f4,f5,_⟩:=rF hn hs;have hf:tL n y=(n.F[y.toNat]'(by omega)).N:=by unfold tL;rw[hs]
    have hw:A5 .i64 (s+tL n y)=s+tL n y:=az (by omega) (by omega);simp only[dY];rw[hw];have:=ih (i+1) (s+tL n y) (fun e he=>hy e (by simp[he])) (by omega) (by omega) (by omega)
    grind
 have h1:=h.1;have:=gen r.F 0 0 h.2.1 (by omega) (by omega) (by omega);unfold dq;omega
theorem ajf(a b c d:Int):oh [a,b,c,d]=some (if a≠0 then a else if b≠0 then b else if c≠0 then c else d):=by
 unfold oh;have key:=cO (f:=M_l [a,b,c,d]) [a,b,c,d] (fun _ x=>x !=0) (fun _ x=>x) () (fun i x hx _=>by
  have hlt:=(A2.1 hx).1;have h1:decide ((i:Int)<([a,b,c,d].length:Nat))=true:=g7 (by omega);simp only[B4,B9] at hlt;simp only[M_l,h1,cond_true,aV,hx,A0]
  grind [az]) (by simp[M_l]) (by simp)
 rw[key];unfold cD;simp only[H2,L8,H4,M6];by_cases h1:a=0
 ·by_cases h2:b=0
  ·by_cases h3:c=0
   ·grind
   grind
  grind
 grind
def sq(b:List Int)(i:Nat)(x:Int):Int:=match b[i]? with|some y=>dp x y|none=>1
def iQ(a b:List Int):Int:=match cD (fun i x=>b[i]? !=some x) a with
 |some q=>sq b q.1 q.2
 |none=>if a.length<b.length then -1 else 0
theorem CV(a b:List Int)(hl:a.length<=1048576):NA a b=some (iQ a b):=by
 unfold NA;rw[cO (f:=IG a b) a (fun i x=>b[i]? !=some x) (fun i x=>sq b i x) () (fun i x hx _=>by
  have hlt:=(A2.1 hx).1;have h3:decide ((i:Int)<a.length)=true:=by simp[hlt]
  simp only[IG,h3,cond_true,aV,hx,A0,sq];by_cases hb:b.length<=i
  ·simp_all
  ·have h4:decide ((b.length:Int)<=(i:Int))=false:=by simp;omega
   have h5:b[i]?=some (b[i]'(by omega)):=A1 _;simp only[h4,cond_false,h5,A0,xF];rw[az (by omega) (by omega)];by_cases e:x=b[i]'(by omega)
   ·grind [cE]
   ·have e1:(dp x (b[i]'(by omega)) !=0)=true:=bne_iff_ne.2 fun e'=>e (cE.1 e')
    grind) (by simp[IG]) (by omega)]
 unfold iQ
 grind
def ff(n:af)(a b:aj):Int:=if dq n a≠dq n b then dp (dq n a) (dq n b) else if a.F.length≠b.F.length then dp a.F.length b.F.length else
 if iQ a.F b.F≠0 then iQ a.F b.F else dp a.N b.N
def gw{n:af}{a b:aj}(ha:RtB n a)(hb:RtB n b):xo n a b=some (ff n a b):=by
 have h1:=ha.1;unfold xo;rw[mp ha,A0,mp hb,A0];simp only[xF,A0,CV a.F b.F (by omega),bnd,ajf]
 simp_all [ne_eq,cE,Int.natCast_inj,ff]
theorem xx(x:Int):zF x=some (dp x 0):=by
 grind [zF,dp]
def nO(x y:Int):dp (x-y) 0=dp x y:=by
 unfold dp;omega
def EB(x y:Int):(x-y !=0)=decide (x≠y):=by
 grind
def zo{n:af}(hn:bA n=true){a b:aj}(ha:RtB n a)(hb:RtB n b):Iz n a b=some (ff n a b):=by
 obtain⟨b1,b2,b3⟩:=cU hn;have hla:=wW hn ha;have hlb:=wW hn hb;have h1:=ha.1;have h2:=hb.1;obtain⟨s1,s2⟩:=ha.2.2;obtain⟨s3,s4⟩:=hb.2.2;unfold Iz ff;rw[eL ha,A0,eL hb,A0];simp only[xx,A0];rw[az (n:=dq n a-dq n b) (by omega) (by omega),az (n:=(a.F.length:Int)-(b.F.length:Int)) (by omega) (by omega),az (n:=a.N-b.N) (by omega) (by omega),EB,EB,nO,nO,nO];by_cases e1:dq n a=dq n b
 ·rw[u6 (by simpa using e1),u9 (by simpa using e1),g8];by_cases e2:a.F.length=b.F.length
  ·rw[u6 (by simpa using e2),u9 (by simp[e2]),g8];rw[cO (f:=IW a b) a.F (fun i x=>b.F[i]? !=some x) (fun i x=>sq b.F i x) () (fun i x hx _=>by
    have hlt:=(A2.1 hx).1;have h3:decide ((i:Int)<a.F.length)=true:=by simp[hlt]
    have h5:b.F[i]?=some (b.F[i]'(by omega)):=A1 _;obtain⟨x1,x2⟩:=ha.2.1 x (A3 hx);obtain⟨y1,y2⟩:=hb.2.1 _ (A3 h5);simp only[IW,h3,cond_true,aV,hx,A0,sq,h5,xx];rw[az (n:=(i:Int)+1) (by omega) (by omega),az (n:=x-b.F[i]'(by omega)) (by omega) (by omega),nO];by_cases e:x=b.F[i]'(by omega)
    ·have e3:(x !=b.F[i]'(by omega))=false:=by rw[<-e];simp
     have e4:(some (b.F[i]'(by omega)) !=some x)=false:=by rw[<-e];simp
     rw[e3,e4];rfl
    ·have e3:(x !=b.F[i]'(by omega))=true:=bne_iff_ne.2 e;have e4:(some (b.F[i]'(by omega)) !=some x)=true:=bne_iff_ne.2 fun e'=>e (Option.some.inj e').symm;rw[e3,e4];rfl) (by simp[IW]) (by omega)]
   unfold iQ;cases hf:cD (fun i x=>b.F[i]? !=some x) a.F with
   | none =>
     simp only[A0];rw[u6 (show¬a.F.length<b.F.length by omega),u6 (by simp)]
   | some q =>
     obtain⟨g1,g2,_⟩:=cA.1 (show cD (fun i x=>b.F[i]? !=some x) a.F=some (q.1,q.2) from hf);have hlt:=(A2.1 g1).1;have h5:b.F[q.1]?=some (b.F[q.1]'(by omega)):=A1 _;have hz:sq b.F q.1 q.2≠0:=by
      unfold sq;rw[h5] at g2⊢;exact fun e=>bne_iff_ne.1 g2 (by rw[cE.1 e])
     simp only[A0];rw[u7 hz]
  ·rw[u7 (by simpa using e2),g7 (by simp;omega),g9]
 ·rw[u7 (by simpa using e1),g7 (by simpa using e1),g9]
theorem nu(x y:Int):dp y x=- dp x y:=by
 unfold dp;omega
def Ms{a b:List Int}(h:a.length=b.length):iQ b a=- iQ a b:=by
 have key:∀{a b:List Int}{i:Nat}{x:Int},a.length=b.length->cD (fun i x=>b[i]? !=some x) a=some (i,x)->∃y,cD (fun i x=>a[i]? !=some x) b=some (i,y)/\a[i]?=some x/\b[i]?=some y:=by
  intro a b i x h hf;obtain⟨g1,g2,g3⟩:=cA.1 hf;have hlt:=(A2.1 g1).1;have h5:b[i]?=some (b[i]'(by omega)):=A1 _;refine⟨b[i]'(by omega),cA.2 ⟨h5,?_,fun j y hj hy=>?_⟩,g1,h5⟩
  ·grind
  ·grind
 unfold iQ;cases hf:cD (fun i x=>b[i]? !=some x) a with
 | some q =>
   grind [nu,cD,sq]
 | none =>
   grind
theorem jl(n:af)(a b:aj):ff n b a=- ff n a b:=by
 unfold ff;by_cases e1:dq n a=dq n b
 ·rw[u6 (show¬dq n b≠dq n a from fun h=>h e1.symm),u6 (show¬dq n a≠dq n b from fun h=>h e1)];by_cases e2:a.F.length=b.F.length
  ·rw[u6 (show¬b.F.length≠a.F.length from fun h=>h e2.symm),u6 (show¬a.F.length≠b.F.length from fun h=>h e2),Ms e2];by_cases e3:iQ a.F b.F=0
   ·rw[u6 (show¬ -iQ a.F b.F≠0 by omega),u6 (show¬iQ a.F b.F≠0 from fun h=>h e3)];exact nu _ _
   omega
  ·rw[u7 (show b.F.length≠a.F.length from fun e=>e2 e.symm),u7 e2];exact nu _ _
 ·rw[u7 (show dq n b≠dq n a from fun e=>e1 e.symm),u7 e1];exact nu _ _
theorem ue{n:af}{a b:aj}(h:ff n a b=0):a=b:=by
 unfold ff at h;by_cases e1:dq n a=dq n b
 ·rw[u6 (by simp[e1])] at h;by_cases e2:a.F.length=b.F.length
  ·rw[u6 (by simp[e2])] at h;by_cases e3:iQ a.F b.F=0
   ·rw[u6 (by simp[e3])] at h;have hs:=cE.1 h;have hf:a.F=b.F:=by
     unfold iQ at e3;cases hf:cD (fun i x=>b.F[i]? !=some x) a.F with
     | none =>
       have:=dE.1 hf;apply O2
       grind
     | some q =>
       rw[hf] at e3;obtain⟨g1,g2,_⟩:=cA.1 (show cD (fun i x=>b.F[i]? !=some x) a.F=some (q.1,q.2) from hf);have hlt:=(A2.1 g1).1
       simp_all [A1,bne_iff_ne,cE,sq]
    cases a;cases b;simp only at hs hf;rw[hs,hf]
   omega
  ·rw[u7 e2] at h
   grind [cE]
 simp_all [if_pos,cE,absurd]
end Vs

namespace Vs
open Go
theorem kM{α:Type}(xs:List α)(k:Nat)(h:k<=xs.length):cY xs 0 k=xs.take k:=by rw[eY,J9]
theorem AA{α:Type}(xs:List α)(k:Nat)(h:k<=xs.length):cY xs k (xs.length-k)=xs.drop k:=by
 rw[eY,G6 (by simp)]
structure Qu(n:af)(s:Int)(p q:List Int):Prop where
 len:q.length=p.length+1
 nd:q.Nodup
 rg:∀x∈q,0<=x/\x<(n.N.length:Int)
 pr:∀e∈p,0<=e/\e<(n.F.length:Int)
 st:0<=s/\s<8
def Qu.le{n:af}{s:Int}{p q:List Int}(h:Qu n s p q):q.length<=n.N.length:=nb _ q h.nd h.rg
def Qu.rt{n:af}(hn:bA n=true){s:Int}{p q:List Int}(h:Qu n s p q):RtB n ⟨s,p⟩:=by
 obtain⟨b1,b2,b3⟩:=cU hn;have h1:=h.le;have h2:=h.len;exact⟨by show p.length<=20;omega,h.pr,h.st⟩
def F2:List aA:=[⟨3000,10⟩,⟨900,20⟩]
def eN{S B:Type}{f:S->Option (S⊕B)}(st:Nat->S)(k:Nat)(r:B)(h1:∀j,j<k->f (st j)=some (.inl (st (j+1))))(h2:f (st k)=some (.inr r))(hk:k<1000000):aZ f N0 (st 0)=some r:=by
 have:=dl (f:=f) (A9 k) (fun i(_:Unit)=>st i) (fun _ _ _=>.inl ()) (fun _=>r) (fun _ _=>True) (fun i a x hx _=>by
  have hlt:=(A2.1 hx).1;rw[K5] at hlt;exact .inl ⟨(),rfl,trivial,h1 i hlt⟩) (fun a _=>by rw[K5];exact h2) () trivial (by rw[K5];omega)
 rw[this];have gen:∀(ys:List Nat)(i:Nat),bU (fun _(_:Nat)(_:Unit)=>(.inl ():Unit⊕B)) (fun _=>r) i ys ()=r:=by
  intro ys;induction ys with
  |nil=>intro i;rfl
  |cons y ys ih=>intro i;exact ih (i+1)
 rw[gen]
def RtF(n:af)(r:aj):Prop:=r.F.length<=20/\∀e∈r.F,0<=e/\e<(n.F.length:Int)
theorem RtB.f{n:af}{r:aj}(h:RtB n r):RtF n r:=⟨h.1,h.2.1⟩
def SvL(s:ae):Prop:=s.N.F.length<=1000/\s.F.F.length<=1000
end Vs

namespace Vs
open Go
theorem Fv{α:Type}(p:Nat->α->Bool):∀(xs:List α)(k:Nat),((xs.zipIdx (k+1)).find? fun q=>p q.2 q.1)=((xs.zipIdx k).find? fun q=>p (q.2+1) q.1).map fun q=>(q.1,q.2+1)
 |[],k=>rfl
 | x :: xs, k => by
   rw[H2,H2,H4,H4];simp only;cases p (k+1) x with
   |true=>rfl
   |false=>exact Fv p xs (k+1)
def NT{α:Type}(p:Nat->α->Bool)(x:α)(xs:List α):
 cD p (x::xs)=if p 0 x then some (0,x) else(cD (fun i=>p (i+1)) xs).map fun q=>(q.1+1,q.2):=by
 unfold cD;rw[H2,H4];by_cases h:p 0 x=true
 ·simp[h]
 ·simp only[Bool.not_eq_true] at h;simp only[h,C4,if_false];rw[Fv p xs 0,P1,P1];rfl
def iy{x y:Int}:dp x y<0↔x<y:=by
 grind [dp]
def Jr(x y:Int)(a b:List Int):iQ (x::a) (y::b)=if x=y then iQ a b else dp x y:=by
 unfold iQ;rw[NT];by_cases h:x=y
 ·subst h;simp only[I5,bne_self_eq_false,C4,if_false,L3,if_true]
  grind [cD,sq]
 ·have:((some y:Option Int) !=some x)=true:=bne_iff_ne.2 fun e=>h (Option.some.inj e).symm
  simp_all [I5,if_true,if_neg,sq]
theorem DZ:∀a b c:List Int,a.length=b.length->b.length=c.length->iQ a b<0->iQ b c<0->iQ a c<0
 |[],[],[],_,_,h,_=>h
 | x :: a, y :: b, z :: c, h1, h2, h3, h4 => by
   rw[Jr] at h3 h4⊢;by_cases e1:x=y
   ·rw[u7 e1] at h3;by_cases e2:y=z
    ·rw[u7 e2] at h4;rw[u7 (e1.trans e2)];exact DZ a b c (by simpa using h1) (by simpa using h2) h3 h4
    simp_all
   ·rw[u6 e1,iy] at h3;by_cases e2:y=z
    ·rw[u6 (by omega),iy];omega
    ·rw[u6 e2,iy] at h4;rw[u6 (by omega),iy];omega
def vA{n:af}{a b:aj}(hs:a.N=b.N):ff n a b<0↔dq n a<dq n b\/(dq n a=dq n b/\(a.F.length<b.F.length\/(a.F.length=b.F.length/\iQ a.F b.F<0))):=by
 unfold ff;by_cases e1:dq n a=dq n b
 ·rw[u6 (fun h=>h e1)];by_cases e2:a.F.length=b.F.length
  ·rw[u6 (fun h=>h e2)];by_cases e3:iQ a.F b.F=0
   ·rw[u6 (fun h=>h e3),iy];omega
   omega
  ·rw[u7 e2,iy];omega
 ·rw[u7 e1,iy];omega
def RE(n:af)(a:aj):¬ff n a a<0:=by
 grind [jl]
theorem Ef{n:af}{a b c:aj}(h1:a.N=b.N)(h2:b.N=c.N)(h3:ff n a b<0)(h4:ff n b c<0):ff n a c<0:=by
 rw[vA h1] at h3;rw[vA h2] at h4;rw[vA (h1.trans h2)]
 grind [DZ]
theorem yZ{n:af}{a b:aj}(h:¬ff n a b<0):ff n b a<0\/a=b:=by
 grind [ue,jl]
def xK{n:af}{a b c:aj}(h1:a.N=b.N)(h2:b.N=c.N)(h3:¬ff n a b<0)(h4:¬ff n b c<0):¬ff n a c<0:=by
 grind [yZ,Ef,jl]
def md(n:af)(l:List aj):Prop:=l.Pairwise fun a b=>¬ff n b a<0
theorem FR{n:af}:∀(xs ys:List aj),xs.Perm ys->md n xs->md n ys->xs=ys
 |[],ys,h,_,_=>(List.nil_perm.1 h).symm
 |x::xs,[],h,_,_=>by simp_all
 | x :: xs, y :: ys, h, h1, h2 => by
   unfold md at h1 h2;rw[G0] at h1 h2;have e:x=y:=by
    have m1:x∈y::ys:=h.mem_iff.1 E8;have m2:y∈x::xs:=h.mem_iff.2 E8;rw[C9] at m1 m2;rcases m1 with e|m1
    ·exact e
    ·rcases m2 with e|m2
     ·exact e.symm
     ·have a1:=h2.1 x m1;have a2:=h1.1 y m2;have:=jl n x y;exact ue (n:=n) (by omega)
   subst e;rw[FR xs ys (List.Perm.cons_inv h) h1.2 h2.2]
def aac(s:Int)(L:List aj):Prop:=∀r∈L,r.N=s
theorem UW{n:af}{s:Int}{L:List aj}{r:aj}{k:Nat}(hs:aac s L)(hr:r.N=s)(hk:k<=L.length)(h:md n L)(h1:∀j y,k<=j->L[j]?=some y->ff n r y<0)
 (h2:∀y,0<k->L[k-1]?=some y->¬ff n r y<0):md n (L.take k++[r]++L.drop k):=by
 have hkL:L.take k++L.drop k=L:=I8 k L;have hpw:md n (L.take k++L.drop k):=by rw[hkL];exact h
 unfold md at hpw⊢;rw[F4] at hpw;obtain⟨p1,p2,p3⟩:=hpw;have before:∀y∈L.take k,¬ff n r y<0:=fun y hy=>by
  obtain⟨j,hj⟩:=B5 hy;rw[E0] at hj;split at hj
  ·rename_i hjk;have hz:L[k-1]?=some (L[k-1]'(by omega)):=A1 _;have q:=h2 _ (by omega) hz;by_cases e:j=k-1
   ·simp_all
   ·have hyz:¬ff n (L[k-1]'(by omega)) y<0:=by
     have:=B6.1 h j (k-1) (by omega) (by omega) (by omega);rw[(A2.1 hj).2] at this;exact this
    exact xK (hr.trans (hs _ (F9 _)).symm) ((hs _ (F9 _)).trans (hs _ (List.mem_of_mem_take hy)).symm) q hyz
  ·cases hj
 have after:∀y∈L.drop k,ff n r y<0:=fun y hy=>by
  obtain⟨j,hj⟩:=B5 hy
  grind
 grind [List.append_assoc,List.singleton_append,List.pairwise_cons,jl]
def HA{f:Int->Option (Int⊕Int)}{L:List aj}(hl:L.length<=1000)(g:aj->Int)
 (h1:∀(i:Nat)(y:aj),L[i]?=some y->f ((i+1:Nat):Int)=some (if decide (g y<0) then .inl (i:Int) else .inr ((i+1:Nat):Int))) (h2:f 0=some (.inr 0)):
 ∃k:Nat,aZ f N0 (L.length:Int)=some (k:Int)/\k<=L.length/\(∀j y,k<=j->L[j]?=some y->g y<0)/\∀y,0<k->L[k-1]?=some y->¬g y<0:=by
 obtain⟨b,b1,b2⟩:=bq (f:=f) (fun s=>∃i:Nat,s=(i:Int)/\i<=L.length/\∀j y,i<=j->L[j]?=some y->g y<0) (fun s=>s.toNat) (fun b=>∃k:Nat,b=(k:Int)/\k<=L.length/\(∀j y,k<=j->L[j]?=some y->g y<0)/\∀y,0<k->L[k-1]?=some y->¬g y<0) (fun s⟨i,e,hi,hj⟩=>by
  subst e;cases i with
  |zero=>grind
  | succ i =>
    have hat:=A1 (show i<L.length by omega);have hs:=h1 i _ hat;rw[hs];by_cases c:g L[i]<0
    ·rw[u7 (by simpa using c)];refine .inl ⟨_,rfl,⟨i,rfl,by omega,fun j y hij hy=>?_⟩,by simp⟩
     grind
    grind) N0 (L.length:Int) ⟨L.length,rfl,F0 _,fun j y hj hy=>by simp_all⟩ (cI (by omega))
 simp_all
def aba{n:af}(hn:bA n=true){d:Int}{L:List aj}{r:aj}(hr:RtB n r)(hL:∀r∈L,RtB n r)(hl:L.length<=500)(hsm:aac r.N L)(hsr:md n L):
 ∃L',PF r n.N n.F d L=some (n.N,n.F,d,L',L)/\L'.Perm (r::L)/\md n L':=by
 obtain⟨k,k1,k2,k3,k4⟩:=HA (f:=JM r n.N n.F L) (L:=L) (by omega) (ff n r) (fun i y hy=>by
  have hlt:=(A2.1 hy).1;have e1:decide (0<((i+1:Nat):Int))=true:=by simp only[decide_eq_true_eq];omega
  have e2:A5 .i64 (((i+1:Nat):Int)-1)=(i:Int):=by rw[az (by omega) (by omega)];omega
  unfold JM;rw[e1,g9,e2,aW ⟨by omega,by omega⟩,A0,A6,hy,A0,zo hn hr (hL y (A3 hy)),A0]
  grind) (by simp[JM])
 unfold PF;rw[k1,A0,aW ⟨trivial,by omega,trivial,by simpa using k2⟩];simp only[A0,bnd,A6];rw[aW (by grind [kM]),A0,aW (by grind [kM]),A0,aW ⟨by omega,trivial,k2,trivial⟩,A0,aW (by grind [kM,AA]),A0,kM _ _ k2,AA _ _ k2]
 grind [UW,List.perm_middle,List.take_append_drop,List.append_assoc]
end Vs

namespace Vs
open Go
def dJ(q:List Int):Int:=(q[q.length-1]?).getD 0
def fE(n:af)(D:List Int->List Int->List aj)(v:Int)(p q:List Int)(i:Nat):List aj:=
 if 0<=cG n (i:Int) v/\cG n (i:Int) v∉q then D (p++[(i:Int)]) (q++[cG n (i:Int) v]) else []
def flS(n:af)(D:List Int->List Int->List aj)(v:Int)(p q:List Int)(k:Nat):List aj:=(A9 k).flatMap (fE n D v p q)
def fF(n:af)(s d:Int)(D:List Int->List Int->List aj)(p q:List Int):List aj:=
 if dJ q=d then [⟨s,p⟩] else flS n D (dJ q) p q n.F.length
def ki(n:af)(s d:Int):Nat->List Int->List Int->List aj
 |0,p,q=>fF n s d (fun _ _=>[]) p q
 |k+1,p,q=>fF n s d (ki n s d k) p q
structure jE(n:af)(s:Int)(p q:List Int):Prop where
 S:Qu n s p q
 V:∀ext,bU (oA n) (fun a=>some a.2) 0 (p++ext) (s,[s])=bU (oA n) (fun a=>some a.2) p.length ext (dJ q,q)
theorem qF(q:List Int)(w:Int):dJ (q++[w])=w:=by unfold dJ;simp
def Nq{q:List Int}(h:0<q.length):q[q.length-1]?=some (dJ q):=by
 grind [List.getElem?_eq_getElem,dJ]
def Nz{n:af}(hn:bA n=true){i:Nat}(hi:i<n.F.length){v:Int}(h0:0<=cG n (i:Int) v):cG n (i:Int) v<(n.N.length:Int):=by
 have hwi:wi (i:Int) 0 ((n.F.length:Int)-1)=true:=bQ.2 (by omega);obtain⟨f,f1,f2⟩:=rr hwi;obtain⟨fa,fb,fc,_⟩:=rF hn f2;unfold cG at h0⊢;rw[f2] at h0⊢;simp only[jO] at h0⊢;omega
def jE.ext{n:af}(hn:bA n=true){s:Int}{p q:List Int}(h:jE n s p q){i:Nat}(hi:i<n.F.length)(h1:0<=cG n (i:Int) (dJ q))(h2:cG n (i:Int) (dJ q)∉q):
 jE n s (p++[(i:Int)]) (q++[cG n (i:Int) (dJ q)]):=by
 have hp:=h.S;have hlt:=Nz hn hi h1;refine⟨⟨by have:=hp.len;simp;omega,?_,fun x hx=>?_,fun x hx=>?_,hp.st⟩,fun ext=>?_⟩
 ·rw[List.nodup_append];refine⟨hp.nd,by simp,fun x hx y hy e=>?_⟩
  simp_all
 ·rcases C6.1 hx with h|h
  ·exact hp.rg x h
  simp_all
 ·rcases C6.1 hx with h|h
  ·exact hp.pr x h
  simp_all
 ·rw[B3,h.V,M3,qF,A7,C1]
  grind [bQ,decide_eq_false,bU,rq,dJ,wi,cG,oA]
structure RtV(n:af)(s:Int)(r:aj):Prop where
 st:r.N=s
 b:RtB n r
 v:(gN n r).isSome=true
def Eh{n:af}(hn:bA n=true){s d:Int}(hsd:s≠d)(hs:0<=s/\s<(n.N.length:Int)){D:List Int->List Int->List aj}{p q:List Int}(hD:∀p1 q1,jE n s p1 q1->q1.length=q.length+1->∀r∈D p1 q1,RtV n s r)(h:jE n s p q):∀r∈fF n s d D p q,RtV n s r:=by
 intro r hr;unfold fF at hr;split at hr
 ·rename_i e;rw[C8] at hr;subst hr;refine⟨rfl,h.S.rt hn,?_⟩;have hp:p.length≠0:=fun e0=>by
   have e1:p=[]:=D6.1 e0;subst e1;have h1:=h.V [];have h2:=h.S.len;obtain⟨x,hx⟩:∃x,q=[x]:=by
    match q,h2 with
    |[x],_=>exact⟨x,rfl⟩
   subst hx;simp only[D7,bU,Option.some.injEq,List.cons.injEq,and_true] at h1;apply hsd;rw[h1,<-e];rfl
  unfold gN;have e1:wi s 0 ((n.N.length:Int)-1)=true:=bQ.2 (by omega);have h3:=h.V [];rw[D7] at h3;simp only[e1,decide_eq_false hp];rw[h3];rfl
 ·unfold flS at hr;rw[L4] at hr;obtain⟨i,hi,hr⟩:=hr;rw[H7] at hi;unfold fE at hr;split at hr
  ·rename_i h1;exact hD _ _ (h.ext hn hi h1.1 h1.2) (by simp) r hr
  ·cases hr
theorem rA{n:af}(hn:bA n=true){s d:Int}(hsd:s≠d)(hs:0<=s/\s<(n.N.length:Int)):∀(k:Nat)(p q:List Int),jE n s p q->∀r∈ki n s d k p q,RtV n s r
 |0,p,q,h=>Eh hn hsd hs (fun _ _ _ _ _ hr=>by cases hr) h
 |k+1,p,q,h=>Eh hn hsd hs (fun p1 q1 h1 _=>rA hn hsd hs k p1 q1 h1) h
structure GdL(n:af)(s:Int)(L:List aj):Prop where
 srt:md n L
 rt:∀r∈L,RtV n s r
def lz(n:af)(L D L':List aj):Prop:=md n L'/\(∀r∈L',r∈L\/r∈D)/\L'.length<=201/\(if L.length+D.length<=201 then L'.Perm (L++D) else L'.length=201)
def lz.refl{n:af}{L:List aj}(h:md n L)(hl:L.length<=201):lz n L [] L:=⟨h,fun r hr=>.inl hr,hl,by simp_all⟩
def lz.trans{n:af}{L D1 L1 D2 L2:List aj}(h1:lz n L D1 L1)(hl:L1.length<=200)(h2:lz n L1 D2 L2):lz n L (D1++D2) L2:=by
 obtain⟨a1,a2,a3,a4⟩:=h1;obtain⟨b1,b2,b3,b4⟩:=h2;have c:L.length+D1.length<=201:=by
  apply Classical.byContradiction;intro h;rw[u6 h] at a4;omega
 rw[u7 c] at a4;have e:=a4.length_eq;rw[A7] at e;refine⟨b1,fun r hr=>?_,b3,?_⟩
 ·grind
 grind
def lz.full{n:af}{L D1 L1:List aj}(D2:List aj)(h1:lz n L D1 L1)(hl:¬L1.length<=200):lz n L (D1++D2) L1:=by
 obtain⟨a1,a2,a3,a4⟩:=h1;refine⟨a1,fun r hr=>(a2 r hr).imp id (M7 _),a3,?_⟩;rw[A7];split
 ·rename_i c;rw[u7 (by omega)] at a4;have e:=a4.length_eq
  grind
 ·omega
theorem GdL.put{n:af}{s:Int}{L D L':List aj}(h:GdL n s L)(hD:∀r∈D,RtV n s r)(hq:lz n L D L'):GdL n s L':=⟨hq.1,fun r hr=>(hq.2.1 r hr).elim (h.rt r) (hD r)⟩
theorem fN(n:af)(D:List Int->List Int->List aj)(v:Int)(p q:List Int)(k:Nat):flS n D v p q (k+1)=flS n D v p q k++fE n D v p q k:=by
 grind [List.range_succ,flS]
theorem sy(n:af)(D:List Int->List Int->List aj)(v:Int)(p q:List Int){k:Nat}:∀m,k<=m->∃R,flS n D v p q m=flS n D v p q k++R
 |0,h=>⟨[],by simp_all⟩
 | m + 1, h => by
   by_cases e:k=m+1
   ·simp_all
   ·obtain⟨R,hR⟩:=sy n D v p q m (show k<=m by omega)
    grind [fN,List.append_assoc]
def mq{n:af}(hn:bA n=true){s d:Int}(hsd:s≠d)(hs:0<=s/\s<(n.N.length:Int)){D:List Int->List Int->List aj}{rc:Int->List ByteArray->List aH->Int->List aj->List Int->List Int->Option (List ByteArray×List aH×Int×List aj×List Int)}
 {L:List aj} {p q:List Int} (hrc:∀(L:List aj)(p1 q1:List Int),jE n s p1 q1->q1.length=q.length+1->GdL n s L->L.length<=200->∃L',rc s n.N n.F d L p1 q1=some (n.N,n.F,d,L',q1)/\lz n L (D p1 q1) L')
 (hD:∀p1 q1,jE n s p1 q1->q1.length=q.length+1->∀r∈D p1 q1,RtV n s r) (hp:jE n s p q) (hL:GdL n s L) (hl:L.length<=200):
 ∃L',GS rc s n.N n.F d L p q=some (n.N,n.F,d,L',q)/\lz n L (fF n s d D p q) L':=by
 obtain⟨b1,b2,b3⟩:=cU hn;have h1:=hp.S.le;have h2:=hp.S.len;have hix:A5 .i64 ((q.length:Int)-1)=((q.length-1:Nat):Int):=by rw[az (by omega) (by omega)];omega
 unfold GS fF;rw[hix,aW ⟨by omega,by omega⟩,A0,A6,Nq (by omega),A0];by_cases hv:dJ q=d
 ·have e0:(dJ q==d)=true:=by simpa using hv
  rw[e0,u7 hv,g9];obtain⟨L',e1,e2,e3⟩:=aba hn (d:=d) (r:=⟨s,p⟩) (hp.S.rt hn) (fun r hr=>(hL.rt r hr).b) (by omega) (fun r hr=>(hL.rt r hr).st) hL.srt;rw[e1,A0];have hlen:=e2.length_eq;rw[B4] at hlen;refine⟨L',rfl,e3,fun r hr=>?_,by omega,?_⟩
  ·grind
  grind
 ·have e0:(dJ q==d)=false:=by simpa using hv
  rw[e0,u6 hv,g8];generalize hvq:dJ q=v at*
  obtain⟨b,o1,o2⟩:=bq (f:=KC s p q rc v) (fun t=>∃(i:Nat)(L':List aj),t=((i:Int),n.N,n.F,d,L')/\i<=n.F.length/\lz n L (flS n D v p q i) L') (fun t=>n.F.length-t.1.toNat) (fun b=>∃L',b=(n.N,n.F,d,L')/\lz n L (flS n D v p q n.F.length) L') (fun t⟨i,L',e,hi,hL'⟩=>by
   subst e;have hgd:GdL n s L':=hL.put (fun r hr=>by
    unfold flS at hr;rw[L4] at hr;obtain⟨j,hj,hr⟩:=hr;rw[H7] at hj;unfold fE at hr;split at hr
    ·rename_i c;subst hvq;exact hD _ _ (hp.ext hn (by omega) c.1 c.2) (by simp) r hr
    ·cases hr) hL'
   unfold KC;by_cases h3:i<n.F.length/\L'.length<=200
   ·left;have e1:decide ((i:Int)<(n.F.length:Int))=true:=by simp[h3.1]
    have e2:decide ((L'.length:Int)<=200)=true:=by simp only[decide_eq_true_eq];omega
    have hwi:wi (i:Int) 0 ((n.F.length:Int)-1)=true:=bQ.2 (by omega);simp only[e1,e2,cond_true,A0,kX n (i:Int) v hwi,nt q _ (show q.length<=1048576 by omega)];by_cases h4:0<=cG n (i:Int) v/\cG n (i:Int) v∉q
    ·have e3:decide (0<=cG n (i:Int) v)=true:=by simp[h4.1]
     have e4:(q.any fun y=>y==cG n (i:Int) v)=false:=by rw[<-pO];exact u9 h4.2
     have hP:jE n s (p++[(i:Int)]) (q++[cG n (i:Int) v]):=by subst hvq;exact hp.ext hn h3.1 h4.1 h4.2
     have hle:=hP.S.le;simp only[A7,C1] at hle;obtain⟨L2,c1,c2⟩:=hrc L' (p++[(i:Int)]) (q++[cG n (i:Int) v]) hP (by simp) hgd h3.2;have ep:pw p=some p:=by unfold pw;rw[aW (by omega)];rfl
     have eq:pw q=some q:=by unfold pw;rw[aW (by omega)];rfl
     simp only[e3,e4,cond_true,F6,A0,ep,eq,bnd];rw[aW (by omega),A0,aW (by omega),A0,c1,A0];have hst:fE n D v p q i=D (p++[(i:Int)]) (q++[cG n (i:Int) v]):=by unfold fE;rw[u7 h4]
     refine⟨_,rfl,⟨i+1,L2,by grind [az],by omega,by rw[fN,hst];exact hL'.trans h3.2 c2⟩,?_⟩
     grind [az]
    ·have e3:(cond (decide (0<=cG n (i:Int) v)) (some (!(q.any fun y=>y==cG n (i:Int) v))) (some false):Option Bool)=some false:=by
      by_cases h5:0<=cG n (i:Int) v
      ·have:(q.any fun y=>y==cG n (i:Int) v)=true:=by
        rw[<-pO,u0];exact Classical.byContradiction fun h6=>h4 ⟨h5,h6⟩
       simp[h5,this]
      ·simp[h5]
     rw[e3];simp only[A0,cond_false];have hst:fE n D v p q i=[]:=by unfold fE;rw[u6 h4]
     refine⟨_,rfl,⟨i+1,L',by grind [az],by omega,by grind [fN]⟩,?_⟩
     grind [az]
   ·right;have e1:(cond (decide ((i:Int)<(n.F.length:Int))) (some (decide ((L'.length:Int)<=200))) (some false):Option Bool)=some false:=by
     by_cases h5:i<n.F.length
     ·have:¬L'.length<=200:=fun h=>h3 ⟨h5,h⟩;have e6:decide ((L'.length:Int)<=200)=false:=by simp only[decide_eq_false_iff_not];omega
      simp[h5,e6]
     ·simp[h5]
    simp only[e1,A0,cond_false];refine⟨_,rfl,L',rfl,?_⟩;by_cases h5:i<n.F.length
    ·obtain⟨R,hR⟩:=sy n D v p q n.F.length hi;rw[hR];exact hL'.full R fun h=>h3 ⟨h5,h⟩
    grind) N0 (0,n.N,n.F,d,L) ⟨0,L,rfl,N1 _,lz.refl hL.srt (by omega)⟩ (cI (by simp only;omega))
  grind
theorem zh{n:af}(hn:bA n=true){s d:Int}(hsd:s≠d)(hs:0<=s/\s<(n.N.length:Int)):∀(k m:Nat),k<m->∀(L:List aj)(p q:List Int),jE n s p q->q.length+k=n.N.length->GdL n s L->L.length<=200->
 ∃L',CN m s n.N n.F d L p q=some (n.N,n.F,d,L',q)/\lz n L (ki n s d k p q) L'
 |0,0,h=>by omega
 |0,m+1,_=>fun L p q hp hq hL hl=>mq hn hsd hs (fun L1 p1 q1 hp1 e _ _=>by have:=hp1.S.le;omega) (fun _ _ _ _ _ hr=>by cases hr) hp hL hl
 | k + 1, m, hm => fun L p q hp hq hL hl => by
   obtain⟨m,rfl⟩:∃m',m=m'+1:=⟨m-1,by omega⟩;exact mq hn hsd hs (fun L1 p1 q1 hp1 e hL1 hl1=>zh hn hsd hs k m (by omega) L1 p1 q1 hp1 (by omega) hL1 hl1) (fun p1 q1 h1 _=>rA hn hsd hs k p1 q1 h1) hp hL hl
def kL(n:af)(s d:Int):List aj:=ki n s d (n.N.length-1) [] [s]
def NG{n:af}(hn:bA n=true){s:Int}(hs:0<=s/\s<(n.N.length:Int)):jE n s [] [s]:=by
 have:=cU hn;exact⟨⟨rfl,by simp,fun x hx=>by simp_all,fun e he=>(by cases he),⟨hs.1,by omega⟩⟩,fun ext=>rfl⟩
def aah{n:af}(hn:bA n=true){s d:Int}(hsd:s≠d)(hs:0<=s/\s<(n.N.length:Int)):∃L,(if(kL n s d).length<=200 then HF n s d=some (true,L)/\L.Perm (kL n s d)/\md n L else HF n s d=some (false,[])):=by
 obtain⟨b1,b2,b3⟩:=cU hn;obtain⟨k,hk⟩:∃k,n.N.length=k+2:=⟨n.N.length-2,by omega⟩;have e:UC s n.N n.F d [s]=GS (CN N0) s n.N n.F d [] [] [s]:=rfl;obtain⟨L,e1,e2,e3,e4,e5⟩:=mq hn hsd hs (D:=ki n s d k) (rc:=CN N0) (L:=[]) (p:=[]) (q:=[s]) (fun L1 p1 q1 hp1 e hL1 hl1=>zh hn hsd hs k N0 (cI (by omega)) L1 p1 q1 hp1 (by grind) hL1 hl1) (fun p1 q1 h1 _=>rA hn hsd hs k p1 q1 h1) (NG hn hs) ⟨K8.nil,fun r hr=>by cases hr⟩ (by simp);have hr:kL n s d=fF n s d (ki n s d k) [] [s]:=by unfold kL;rw[hk];rfl
 rw[<-hr] at e5;refine⟨L,?_⟩;unfold HF;simp only[bnd,B9,D0,L9] at e5⊢;rw[e,e1,A0];by_cases h:(kL n s d).length<=200
 ·rw[u7 (by omega)] at e5;have hl:=e5.length_eq;have e7:decide ((200:Int)<(L.length:Int))=false:=by simp only[decide_eq_false_iff_not];omega
  rw[u7 h];refine⟨?_,e5,e2⟩;show cond (decide ((200:Int)<(L.length:Int))) _ _=_;rw[e7,g8,aW (by simp only;omega)];rfl
 ·have hl:L.length=201:=by
   by_cases h2:(kL n s d).length<=201
   ·rw[u7 h2] at e5;have:=e5.length_eq;omega
   ·grind
  simp_all
end Vs

namespace Vs
open Go
theorem xY(a:Nat):BitVec.ofInt 64 (a:Int)=BitVec.ofNat 64 a:=by
 simp_all
def borR(a b:Nat)(ha:a<2^62)(hb:b<2^62):bits .or .i64 (a:Int) (b:Int)=((a ||| b:Nat):Int):=by
 have hab:a ||| b<2^62:=I6 ha hb;show A5 .i64 ((BitVec.ofInt 64 (a:Int) ||| BitVec.ofInt 64 (b:Int)).toNat:Int)=_
 grind [xY,BitVec.toNat_or,BitVec.toNat_ofNat,Nat.mod_eq_of_lt,az]
theorem ajj(m i:Nat)(hi:i<64)(hm:m<2^62):(bits .and .i64 (G5 (m:Int) (2^(min i (B1 .i64)))) 1==0)=!m.testBit i:=by
 have e1:min i (B1 .i64)=i:=by rw[show B1 .i64=64 from rfl];omega
 have e2:G5 (m:Int) (2^i)=((m/2^i:Nat):Int):=by
  rw[H8 _ (by exact_mod_cast N1 (2^i))];simp
 have hlt:m/2^i<2^62:=K1 (Nat.div_le_self ..) hm;rw[e1,e2];have e3:bits .and .i64 ((m/2^i:Nat):Int) 1=((m/2^i%2:Nat):Int):=by
  show A5 .i64 ((BitVec.ofInt 64 ((m/2^i:Nat):Int) &&& BitVec.ofInt 64 ((1:Nat):Int)).toNat:Int)=_
  grind [xY,BitVec.toNat_and,BitVec.toNat_ofNat,Nat.mod_eq_of_lt,az]
 grind
def PM(xs:List Int)(hl:xs.length<=1048576):GY xs=some xs:=by
 unfold GY;rw[aW (by omega)];simp only[A0];cases xs with
 |nil=>rfl
 |cons x xs=>rfl
def Ac(m:Nat)(q:List Int):Prop:=m<2^8/\∀i:Nat,m.testBit i=decide ((i:Int)∈q)
def Fp{w:Nat}(hw:w<8):A5 .i64 (1*2^(min w (B1 .i64)))=((2^w:Nat):Int):=by
 have e1:min w (B1 .i64)=w:=by rw[show B1 .i64=64 from rfl];omega
 have q:(2:Nat)^w<=2^8:=H0 (by omega) (by omega);have p1:(1*2^w:Int)=((2^w:Nat):Int):=by rw[P9];exact_mod_cast rfl
 grind [Int.ofNat_le,Int.natCast_nonneg,az]
def Ac.ext{m:Nat}{q:List Int}(h:Ac m q){w:Nat}(hw:w<8):Ac (m ||| 2^w) (q++[(w:Int)]):=by
 refine⟨I6 h.1 (Nat.pow_lt_pow_right (by omega) hw),fun i=>?_⟩;rw[Nat.testBit_or,h.2,Nat.testBit_two_pow,C3]
 grind
def ma{n:af}(hn:bA n=true){s d:Int}{D:List Int->List Int->List aj}{rc:Int->Int->List Int->Int->List aj->Int->af->Option (Int×List aj×Int×af)}{p q:List Int}{m:Nat}{out:List aj}
 (hrc:∀(p1 q1:List Int)(m1:Nat)(out:List aj),jE n s p1 q1->q1.length=q.length+1->Ac m1 q1->out.length+(D p1 q1).length<=1000000000000->rc (dJ q1) (m1:Int) p1 d out s n=some (d,out++D p1 q1,s,n))
 (hp:jE n s p q) (hm:Ac m q) (hlen:out.length+(fF n s d D p q).length<=1000000000000):
 Sc rc (dJ q) (m:Int) p d out s n=some (d,out++fF n s d D p q,s,n):=by
 obtain⟨b1,b2,b3⟩:=cU hn;have h1:=hp.S.le;have h2:=hp.S.len;unfold Sc;unfold fF at hlen⊢;by_cases hv:dJ q=d
 ·have e0:(dJ q==d)=true:=by simpa using hv
  rw[u7 hv] at hlen⊢;simp only[C1] at hlen;rw[e0,g9,PM p (by omega),A0]
  grind [aW,bnd]
 ·have e0:(dJ q==d)=false:=by simpa using hv
  rw[u6 hv] at hlen⊢;rw[e0,g8];generalize hvq:dJ q=v at*
  obtain⟨b,o1,o2⟩:=bq (f:=KG v (m:Int) p n rc) (fun t=>∃i:Nat,t=((i:Int),d,out++flS n D v p q i,s,n)/\i<=n.F.length) (fun t=>n.F.length-t.1.toNat) (fun b=>b=(d,out++flS n D v p q n.F.length,s,n)) (fun t⟨i,e,hi⟩=>by
   subst e;unfold KG;by_cases h3:i<n.F.length
   ·left;have e1:decide ((i:Int)<(n.F.length:Int))=true:=by simp[h3]
    have hat:n.F[i]?=some n.F[i]:=A1 h3;have ho:cG n (i:Int) v=jO n.F[i] v:=by unfold cG;rw[A6,hat]
    have w1:A5 .i64 ((i:Int)+1)=((i+1:Nat):Int):=by rw[az (by omega) (by omega)];rfl
    simp only[e1,cond_true,aV,hat,A0,qp,<-ho,w1];by_cases h0:0<=cG n (i:Int) v
    ·obtain⟨w,hw⟩:=D3 h0;have hlt:=Nz hn h3 h0;rw[hw] at hlt;have hw8:w<8:=by omega
     simp only[hw,A6];rw[aW (by omega)];simp only[A0,decide_eq_true (show(0:Int)<=(w:Int) by omega),cond_true,ajj m w (by omega) (by have:=hm.1;omega),hm.2 w];by_cases h4:(w:Int)∈q
     ·rw[g7 h4];simp only[B0,cond_false];have hst:fE n D v p q i=[]:=by unfold fE;rw[u6 (by rw[hw];exact fun h=>h.2 h4)]
      exact⟨_,rfl,⟨i+1,by rw[fN,hst,D7],by omega⟩,by simp only;omega⟩
     ·rw[u9 h4];simp only[F6,cond_true,bnd];have h5:0<=cG n (i:Int) v/\cG n (i:Int) v∉q:=⟨h0,by rw[hw];exact h4⟩;have hst:fE n D v p q i=D (p++[(i:Int)]) (q++[(w:Int)]):=by unfold fE;rw[u7 h5,hw]
      have hP:jE n s (p++[(i:Int)]) (q++[(w:Int)]):=by subst hvq;rw[<-hw];exact hp.ext hn h3 h5.1 h5.2
      obtain⟨R,hR⟩:=sy n D v p q n.F.length (show i+1<=n.F.length by omega);rw[hR,fN,hst,A7,A7] at hlen;have hw2:(2:Nat)^w<=2^8:=H0 (by omega) (by omega);have hm1:=hm.1;rw[aW (by omega),A0,Fp hw8,borR m (2^w) (by omega) (by omega)];have hc:=hrc (p++[(i:Int)]) (q++[(w:Int)]) (m ||| 2^w) (out++flS n D v p q i) hP (by simp) (hm.ext hw8) (by grind);rw[qF] at hc;rw[hc,A0];exact⟨_,rfl,⟨i+1,by rw[fN,hst,B3],by omega⟩,by simp only;omega⟩
    ·have e3:decide (0<=cG n (i:Int) v)=false:=u9 h0;simp only[e3,cond_false,A0];have hst:fE n D v p q i=[]:=by unfold fE;grind
     exact⟨_,rfl,⟨i+1,by rw[fN,hst,D7],by omega⟩,by simp only;omega⟩
   grind) N0 (0,d,out,s,n) ⟨0,by simp[flS],by omega⟩ (cI (by simp only;omega))
  rw[o1,o2];rfl
theorem Av{n:af}(hn:bA n=true){s d:Int}:∀(k f:Nat),k<f->∀(p q:List Int)(m:Nat)(out:List aj),jE n s p q->q.length+k=n.N.length->Ac m q->out.length+(ki n s d k p q).length<=1000000000000->
 Hx f (dJ q) (m:Int) p d out s n=some (d,out++ki n s d k p q,s,n)
 |0,0,h=>by omega
 |0,f+1,_=>fun p q m out hp hq hm hl=>ma hn (fun p1 q1 m1 out1 hp1 e _ _=>by have:=hp1.S.le;omega) hp hm hl
 | k + 1, f, hf => fun p q m out hp hq hm hl => by
   obtain⟨f,rfl⟩:∃f',f=f'+1:=⟨f-1,by omega⟩;exact ma hn (fun p1 q1 m1 out1 hp1 e hm1 hl1=>Av hn k f (by omega) p1 q1 m1 out1 hp1 (by omega) hm1 hl1) hp hm hl
def TZ{n:af}(hn:bA n=true){s d:Int}:∀(k:Nat)(p q:List Int),(ki n s d k p q).length<=14^k:=by
 obtain⟨b1,b2,b3⟩:=cU hn;have body:∀(D:List Int->List Int->List aj)(B:Nat)(p q:List Int),(∀p q,(D p q).length<=B)->(fF n s d D p q).length<=max 1 (14*B):=by
  intro D B p q hD;unfold fF;split
  ·simp;omega
  ·have gen:∀m,(flS n D (dJ q) p q m).length<=m*B:=by
    intro m;induction m with
    |zero=>simp[flS]
    | succ m ih =>
      rw[fN,A7,Nat.add_mul,Nat.one_mul]
      grind [fE,dJ]
   have h1:=gen n.F.length;have h2:n.F.length*B<=14*B:=Nat.mul_le_mul_right B b3;omega
 intro k;induction k with
 | zero =>
   intro p q;have:=body (fun _ _=>[]) 0 p q (fun _ _=>by simp);simpa[ki] using this
 | succ k ih =>
   intro p q;have:=body (ki n s d k) (14^k) p q ih
   grind [Nat.pow_pos,Nat.pow_succ,fF,ki]
def XD{n:af}(hn:bA n=true)(s d:Int):(kL n s d).length<=105413504:=by
 obtain⟨b1,b2,b3⟩:=cU hn;have h1:=TZ hn (s:=s) (d:=d) (n.N.length-1) [] [s];have h2:(14:Nat)^(n.N.length-1)<=14^7:=H0 (by omega) (by omega);unfold kL;omega
def acz{n:af}(hn:bA n=true){s d:Int}(hsd:s≠d)(hs:0<=s/\s<(n.N.length:Int)):∃ys,NR n s d=some ys/\ys.Perm (kL n s d)/\md n ys:=by
 obtain⟨b1,b2,b3⟩:=cU hn;obtain⟨k,hk⟩:∃k,n.N.length=k+2:=⟨n.N.length-2,by omega⟩;obtain⟨w,rfl⟩:=D3 hs.1;have hrl:=XD hn (w:Int) d;have hr:kL n (w:Int) d=fF n (w:Int) d (ki n (w:Int) d k) [] [(w:Int)]:=by unfold kL;rw[hk];rfl
 have hm:Ac (2^w) [(w:Int)]:=by
  have:Ac 0 []:=⟨by omega,fun i=>by simp⟩;have:=this.ext (w:=w) (by omega);simpa using this
 have hc:=ma hn (s:=(w:Int)) (d:=d) (D:=ki n (w:Int) d k) (rc:=Hx N0) (p:=[]) (q:=[(w:Int)]) (m:=2^w) (out:=[]) (fun p1 q1 m1 out1 hp1 e hm1 hl1=>Av hn k N0 (cI (by omega)) p1 q1 m1 out1 hp1 (by simp only[C1] at e;omega) hm1 hl1) (NG hn hs) hm (by rw[<-hr];simp;omega);rw[<-hr] at hc;have hok:=rA hn hsd hs (n.N.length-1) [] [(w:Int)] (NG hn hs);obtain⟨ys,y1,y2,y3⟩:=CP (cmp:=fun x0 x1=>xR x0 x1 n) (xs:=kL n (w:Int) d) (ff n) (by omega) (fun x hx y hy=>by
  show xR x y n=_;unfold xR;rw[gw (hok x hx).b (hok y hy).b];rfl) (fun x _=>RE n x) (fun x hx y hy z hz=>Ef ((hok x hx).st.trans (hok y hy).st.symm) ((hok y hy).st.trans (hok z hz).st.symm)) (fun x hx y hy z hz=>xK ((hok x hx).st.trans (hok y hy).st.symm) ((hok y hy).st.trans (hok z hz).st.symm))
 refine⟨ys,?_,y2,y3⟩;unfold NR;have e0:(((w:Int)) !=d)=true:=bne_iff_ne.2 hsd;have e1:WS (w:Int) (A5 .i64 (1*2^(min (B2 (w:Int)) (B1 .i64)))) [] d [] (w:Int) n=some (d,kL n (w:Int) d,(w:Int),n):=by
  rw[A6,Fp (show w<8 by omega)];rw[show dJ [(w:Int)]=(w:Int) from rfl,L9] at hc;exact hc
 rw[e0,g9,aW (by omega),A0,e1];simp only[A0];rw[y1];rfl
def abp(xs:List Int)(f:Int->Option Bool)(p:Int->Bool)(hf:∀x,f x=some (p x))(hl:xs.length<=1048576):PR xs f=some (xs.any p):=by
 unfold PR Xd;rw[cO (f:=Hc xs f) xs (fun _ x=>p x) (fun i _=>(i:Int)) () (fun i x hx _=>by
  have hlt:=(A2.1 hx).1;have h1:decide ((i:Int)<xs.length)=true:=by simp[hlt]
  simp only[Hc,h1,cond_true,aV,hx,hf x,A0];rw[az (by omega) (by omega)];cases p x<;>rfl) (by simp[Hc]) (by omega)]
 rw[<-mZ];cases e:cD (fun _ x=>p x) xs with
 | none =>
   have h:fh (fun _ x=>p x) xs=false:=cC.2 (dE.1 e);rw[h];rfl
 | some q =>
   obtain⟨i,x⟩:=q;obtain⟨h1,h2,_⟩:=cA.1 e;have h:fh (fun _ x=>p x) xs=true:=gh.2 ⟨i,x,h1,h2⟩;rw[h];simp
def SP{n:af}(hn:bA n=true)(hz:bJ n<=1048576){s d:Int}(hsd:s≠d)(hs:0<=s/\s<(n.N.length:Int))(hd:0<=d/\d<(n.N.length:Int)):∃L,(if(kL n s d).length<=200 then Ge n s d=some (L,true)/\L.Perm (kL n s d)/\md n L else Ge n s d=some ([],false)):=by
 obtain⟨b1,b2,b3⟩:=cU hn;obtain⟨L,l1,l2,l3⟩:=acz hn hsd hs;have hl:=l2.length_eq;refine⟨L,?_⟩;have e1:QH n [s,d]=some true:=by
  unfold QH;rw[fZ n hz,hn];simp only[A0,cond_true];rw[abp [s,d] _ (fun x=>!wi x 0 ((n.N.length:Int)-1)) (fun x=>by
   unfold NK;rw[az (by omega) (by omega),dR];rfl) (by simp)]
  have q1:wi s 0 ((n.N.length:Int)-1)=true:=bQ.2 (by omega);have q2:wi d 0 ((n.N.length:Int)-1)=true:=bQ.2 (by omega);simp[q1,q2]
 have e2:(s==d)=false:=by simpa using hsd
 unfold Ge;simp only[bnd,e1,A0,B0,cond_false,e2,l1];by_cases h:(kL n s d).length<=200
 ·rw[u7 h];have e3:decide ((200:Int)<(L.length:Int))=false:=by simp only[decide_eq_false_iff_not];omega
  rw[e3];exact⟨rfl,l2,l3⟩
 ·rw[u6 h];have e3:decide ((200:Int)<(L.length:Int))=true:=by simp only[decide_eq_true_eq];omega
  rw[e3];rfl
end Vs

namespace Vs
open Go
def yR{n:af}{s d:Int}{D:List Int->List Int->List aj}(hD:∀p q r,r∈D p q->∃t,r.F=p++t)(p q:List Int):∀r∈fF n s d D p q,∃t,r.F=p++t:=by
 intro r hr;unfold fF at hr;split at hr
 ·simp_all
 grind [flS,fE]
theorem Fd{n:af}{s d:Int}:∀(k:Nat)(p q:List Int),∀r∈ki n s d k p q,∃t,r.F=p++t
 |0,p,q=>yR (fun _ _ _ hr=>by cases hr) p q
 |k+1,p,q=>yR (fun p q r hr=>Fd k p q r hr) p q
def FT{n:af}{s d:Int}{D:List Int->List Int->List aj}(hD:∀p q r,r∈D p q->∃t,r.F=p++t)(hN:∀p q,(D p q).Nodup)(p q:List Int):(fF n s d D p q).Nodup:=by
 unfold fF;split
 ·simp
 ·have gen:∀m,(flS n D (dJ q) p q m).Nodup/\∀r∈flS n D (dJ q) p q m,∃(j:Nat)(t:List Int),j<m/\r.F=(p++[(j:Int)])++t:=by
   intro m;induction m with
   |zero=>simp_all [flS]
   | succ m ih =>
     obtain⟨i1,i2⟩:=ih;have hs:∀r∈fE n D (dJ q) p q m,∃t,r.F=(p++[(m:Int)])++t:=fun r hr=>by
      grind [fE]
     rw[fN];refine⟨?_,fun r hr=>?_⟩
     ·grind [List.nodup_append,List.append_assoc,List.append_cancel_left,List.singleton_append,List.cons.injEq,fE]
     grind
  exact(gen _).1
theorem SL{n:af}{s d:Int}:∀(k:Nat)(p q:List Int),(ki n s d k p q).Nodup
 |0,p,q=>FT (fun _ _ _ hr=>by cases hr) (fun _ _=>P2) p q
 |k+1,p,q=>FT (fun p q r hr=>Fd k p q r hr) (fun p q=>SL k p q) p q
def jv(l:List aA)(i:Nat)(x:aA):Bool:=!wi x.N 1 20000||!wi x.F 1 1000||(decide (0<i)&&match l[i-1]? with|some g=>decide (g.N<=x.N)||decide (x.F<=g.F)|none=>false)
def iI(l:List aA):Bool:=!fh (jv l) l&&wi (l.length:Int) 1 6
theorem KS(l:List aA)(hl:l.length<=1048576):Gs l=some (iI l):=by
 unfold Gs iI;rw[et (f:=Gy l) l (jv l) (.inr false) (.inl ()) (fun i x hx hprev=>by
  have hlt:=(A2.1 hx).1;have h1:decide ((i:Int)<l.length)=true:=by simp[hlt]
  simp only[Gy,h1,cond_true,aV,hx,A0,dR];rw[az (n:=(i:Int)+1) (by omega) (by omega)];unfold jv;by_cases h0:0<i
  ·have e0:decide ((0:Int)<(i:Int))=true:=g7 (by omega);have ew:A5 .i64 ((i:Int)-1)=((i-1:Nat):Int):=by rw[az (by omega) (by omega)];omega
   have hg:l[i-1]?=some (l[i-1]'(by omega)):=A1 (by omega);rw[e0,ew,aV,hg,g7 h0];simp only[cond_true,A0,B7];cases wi x.N 1 20000<;>cases wi x.F 1 1000<;>cases decide ((l[i-1]'(by omega)).N<=x.N)<;>cases decide (x.F<=(l[i-1]'(by omega)).F)<;>rfl
  ·have e0:decide ((0:Int)<(i:Int))=false:=u9 (by omega);rw[e0,u9 h0];cases wi x.N 1 20000<;>cases wi x.F 1 1000<;>rfl) (by simp[Gy]) (by omega)]
 simp only[dR,A0];cases fh (jv l) l<;>rfl
theorem aet(l:List aA)(hl:l.length<=1048576):NY l=some (iI l):=by
 unfold NY iI;rw[et (f:=Gc l) (l.take 7) (jv l) (.inr false) (.inl ()) (fun i x hx hprev=>by
  have hlt7:=(A2.1 hx).1;rw[C5] at hlt7;have hlt:i<l.length:=by omega
  rw[E0,u7 (by omega)] at hx;have h1:decide ((i:Int)<l.length)=true:=by simp[hlt]
  have h2:decide ((i:Int)<=6)=true:=by simp;omega
  simp only[Gc,h1,h2,cond_true,aV,hx,A0,iW];rw[az (n:=(i:Int)+1) (by omega) (by omega)];unfold jv;by_cases h0:0<i
  ·have e0:decide ((0:Int)<(i:Int))=true:=g7 (by omega);have ew:A5 .i64 ((i:Int)-1)=((i-1:Nat):Int):=by rw[az (by omega) (by omega)];omega
   have hg:l[i-1]?=some (l[i-1]'(by omega)):=A1 (by omega);rw[e0,ew,aV,hg,g7 h0];simp only[cond_true,A0,B7];cases wi x.N 1 20000<;>cases wi x.F 1 1000<;>cases decide ((l[i-1]'(by omega)).N<=x.N)<;>cases decide (x.F<=(l[i-1]'(by omega)).F)<;>rfl
  ·have e0:decide ((0:Int)<(i:Int))=false:=u9 (by omega);rw[e0,u9 h0];cases wi x.N 1 20000<;>cases wi x.F 1 1000<;>rfl) (by
  rw[C5];have:(cond (decide (((min 7 l.length:Nat):Int)<(l.length:Int))) (some (decide (((min 7 l.length:Nat):Int)<=6))) (some false):Option Bool)=some false:=by
   by_cases h:l.length<=7
   ·have:decide (((min 7 l.length:Nat):Int)<(l.length:Int))=false:=by simp only[decide_eq_false_iff_not];omega
    rw[this];rfl
   ·have:decide (((min 7 l.length:Nat):Int)<=6)=false:=by simp only[decide_eq_false_iff_not];omega
    rw[this];cases decide (((min 7 l.length:Nat):Int)<(l.length:Int))<;>rfl
  simp only[Gc,this,A0,cond_false]) (by rw[C5];omega)]
 simp only[iW,A0];by_cases h:l.length<=7
 ·rw[G6 h];cases fh (jv l) l<;>rfl
 ·have:wi (l.length:Int) 1 6=false:=by
   cases e:wi (l.length:Int) 1 6 with
   |false=>rfl
   |true=>have:=bQ.1 e;omega
  rw[this,P3];cases fh (jv l) (l.take 7)<;>rfl
def vM{l:List aA}(h:iI l=true):1<=l.length/\l.length<=6/\∀x∈l,(1<=x.N/\x.N<=20000)/\1<=x.F/\x.F<=1000:=by
 unfold iI at h;simp only[A8,D4,bQ] at h
 grind [List.getElem?_of_mem,cC,Bool.or_eq_false_iff,Bool.not_eq_false',bQ,jv]
def fj(l:List aA)(len:Int):Nat->Option Nat
 |0=>none
 | k + 1 => match l[k]? with
   |some f=>if len<=f.N then some k else fj l len k
   |none=>fj l len k
def pD(f:aA)(rate:Int):Int:=Int.tdiv (rate+f.F-1) f.F
def fB(l:List aA)(len rate:Int):Int:=match fj l len l.length with
 | some k => match l[k]? with
   |some f=>if 24<pD f rate then 0 else pD f rate
   |none=>0
 |none=>0
def Kc:Option Nat->Int
 |some k=>(k:Int)
 |none=>-1
theorem nE(l:List aA)(len:Int):∀(m k:Nat),fj l len m=some k->k<m/\∃f,l[k]?=some f/\len<=f.N
 |0,k,h=>by cases h
 | m + 1, k, h => by
   unfold fj at h;cases e:l[m]? with
   | none =>
     rw[e] at h;have:=nE l len m k h
     grind
   | some f =>
     rw[e] at h;simp only at h;split at h
     ·simp_all
     ·have:=nE l len m k h
      grind
def Xq(l:List aA)(len:Int)(hl:l.length<=1048576):Lu l len=some (Kc (fj l len l.length)):=by
 unfold Lu;obtain⟨b,b1,b2⟩:=bq (f:=QI l len) (fun s=>∃i:Nat,s=(Kc (fj l len i),(i:Int))/\i<=l.length) (fun s=>l.length-s.2.toNat) (fun b=>b=Kc (fj l len l.length)) (fun s⟨i,e,hi⟩=>by
  subst e;unfold QI;by_cases h:i<l.length
  ·left;have hf:l[i]?=some l[i]:=A1 h;have e1:decide ((i:Int)<(l.length:Int))=true:=by simp[h]
   simp only[e1,cond_true,aV,hf,A0];rw[az (by omega) (by omega)];by_cases c:len<=l[i].N
   ·rw[g7 c];exact⟨_,rfl,⟨i+1,by simp_all [if_pos,fj,Kc],by omega⟩,by simp only;omega⟩
   ·rw[u9 c];exact⟨_,rfl,⟨i+1,by simp_all [if_neg,fj],by omega⟩,by simp only;omega⟩
  grind) N0 (-1,0) ⟨0,rfl,by omega⟩ (cI (by simp only;omega))
 rw[b1,b2];rfl
def RY(l:List aA)(len:Int)(h:iI l=true)(hl:0<=len):Mx l len=some (match fj l len l.length with|some k=>((k:Int),true)|none=>(0,false)):=by
 obtain⟨f1,f2,f3⟩:=vM h;unfold Mx;rw[KS l (by omega),h];simp only[A0,B0,cond_false,dR];by_cases h2:len<=20000
 ·rw[show wi len 0 20000=true from bQ.2 (by omega)];simp only[B0,cond_false];obtain⟨b,b1,b2⟩:=bq (f:=Pd l len) (fun s=>∃i:Nat,s=(i:Int)-1/\i<=l.length/\fj l len i=fj l len l.length) (fun s=>(s+1).toNat) (fun b=>b=match fj l len l.length with|some k=>.inr ((k:Int),true)|none=>.inl ()) (fun s⟨i,e,hi,hb⟩=>by
   subst e;unfold Pd;cases i with
   | zero =>
     right;rw[<-hb];exact⟨_,by simp;rfl,rfl⟩
   | succ i =>
     have hf:l[i]?=some l[i]:=A1 (by omega);have e0:((i+1:Nat):Int)-1=(i:Int):=by omega
     have e1:decide (0<=(i:Int))=true:=by simp
     rw[e0,e1,g9,aV,hf,A0];have hb2:fj l len (i+1)=if len<=l[i].N then some i else fj l len i:=by rw[fj,hf]
     rw[hb2] at hb;by_cases c:len<=l[i].N
     ·grind
     ·left;rw[u6 c] at hb;rw[u9 c];exact⟨_,rfl,⟨i,by grind [az],by omega,hb⟩,by grind [az]⟩) N0 ((l.length:Int)-1) ⟨l.length,rfl,F0 _,rfl⟩ (cI (by omega))
  grind [az]
 ·have e:wi len 0 20000=false:=by
   cases e:wi len 0 20000 with
   |false=>rfl
   |true=>have:=bQ.1 e;omega
  rw[e];have hb:fj l len l.length=none:=by
   cases hb:fj l len l.length with
   |none=>rfl
   | some k =>
     obtain⟨_,f,g1,g2⟩:=nE l len l.length k hb
     grind
  rw[hb];rfl
def wc{f:aA}{rate:Int}(hf:1<=f.F/\f.F<=1000)(hr:1<=rate/\rate<=1000):1<=pD f rate/\pD f rate<=2000:=by
 unfold pD;rw[Int.tdiv_eq_ediv_of_nonneg (by omega)];have h1:(rate+f.F-1)/f.F<=rate+f.F-1:=Int.ediv_le_self _ (by omega);have h2:1<=(rate+f.F-1)/f.F:=by
  rw[Int.le_ediv_iff_mul_le (by omega)];omega
 omega
def Oy{l:List aA}{len rate:Int}(h:iI l=true)(hr:1<=rate/\rate<=1000):0<=fB l len rate/\fB l len rate<=24:=by
 obtain⟨f1,f2,f3⟩:=vM h;unfold fB;split
 ·split
  ·rename_i f hf;have:=wc (f3 f (A3 hf)).2 hr;split<;>omega
  ·omega
 ·omega
def pN(l:List aA)(len rate:Int)(h:iI l=true)(hr:1<=rate/\rate<=1000):Br l len rate=some (fB l len rate):=by
 obtain⟨f1,f2,f3⟩:=vM h;unfold Br fB;rw[Xq l len (by omega),A0];cases hb:fj l len l.length with
 |none=>rfl
 | some k =>
   obtain⟨_,f,g1,g2⟩:=nE l len l.length k hb;have hf:=(f3 f (A3 g1)).2;have hc:=wc hf hr;have e1:decide (Kc (some k)<0)=false:=u9 (show¬(k:Int)<0 by omega);have e2:bC l (Kc (some k))=some f:=by show bC l (k:Int)=some f;rw[aV,g1]
   rw[e1,g8,e2];simp only[A0,g1];rw[aW (by omega),A0,az (n:=rate+f.F) (by omega) (by omega),az (n:=rate+f.F-1) (by omega) (by omega)];show cond (decide (24<A5 .i64 (pD f rate))) (some 0) (some (A5 .i64 (pD f rate)))=_;rw[az (by omega) (by omega)];by_cases c:24<pD f rate
   ·rw[g7 c,u7 c];rfl
   ·rw[u9 c,u6 c];rfl
def VS(l:List aA)(len rate:Int)(h:iI l=true)(hl:0<=len)(hr:1<=rate/\rate<=1000):Mm l len rate=some (fB l len rate,decide (0<fB l len rate)):=by
 obtain⟨f1,f2,f3⟩:=vM h;unfold Mm fB;rw[RY l len h hl,A0];cases hb:fj l len l.length with
 |none=>rfl
 | some k =>
   obtain⟨_,f,g1,g2⟩:=nE l len l.length k hb;have hf:=(f3 f (A3 g1)).2;have hc:=wc hf hr;simp only[B0,cond_false,dR,A0,show wi rate 1 1000=true from bQ.2 hr,aV,g1];rw[aW (by omega),A0,az (n:=rate+f.F) (by omega) (by omega),az (n:=rate+f.F-1) (by omega) (by omega)];show cond (decide (24<A5 .i64 (pD f rate))) (some (0,false)) (some (A5 .i64 (pD f rate),true))=_;rw[az (by omega) (by omega)];by_cases c:24<pD f rate
   ·rw[g7 c,u7 c];rfl
   ·rw[u9 c,u6 c,g7 (show 0<pD f rate by omega)];rfl
end Vs

namespace Vs
open Go
def Fo{n:af}(hn:bA n=true){s d:Int}(hsd:s≠d)(hs:0<=s/\s<(n.N.length:Int)){D:List Int->List Int->List aj}{p q:List Int}(hD:∀p1 q1,jE n s p1 q1->∀r∈D p1 q1,nC n r=d)(h:jE n s p q):∀r∈fF n s d D p q,nC n r=d:=by
 intro r hr;unfold fF at hr;split at hr
 ·rename_i e;rw[C8] at hr;subst hr;have hp:p.length≠0:=fun e0=>by
   have e1:p=[]:=D6.1 e0;subst e1;have h1:=h.V [];have h2:=h.S.len;obtain⟨x,hx⟩:∃x,q=[x]:=by
    match q,h2 with
    |[x],_=>exact⟨x,rfl⟩
   subst hx;simp only[D7,bU,Option.some.injEq,List.cons.injEq,and_true] at h1;apply hsd;rw[h1,<-e];rfl
  have e1:wi s 0 ((n.N.length:Int)-1)=true:=bQ.2 (by omega);have h3:=h.V [];rw[D7] at h3;unfold nC gN;simp only[e1,decide_eq_false hp];rw[h3];exact e
 ·unfold flS at hr;rw[L4] at hr;obtain⟨i,hi,hr⟩:=hr;rw[H7] at hi;unfold fE at hr;split at hr
  ·rename_i h1;exact hD _ _ (h.ext hn hi h1.1 h1.2) r hr
  ·cases hr
theorem xu{n:af}(hn:bA n=true){s d:Int}(hsd:s≠d)(hs:0<=s/\s<(n.N.length:Int)):∀(k:Nat)(p q:List Int),jE n s p q->∀r∈ki n s d k p q,nC n r=d
 |0,p,q,h=>Fo hn hsd hs (fun _ _ _ _ hr=>by cases hr) h
 |k+1,p,q,h=>Fo hn hsd hs (fun p1 q1 h1=>xu hn hsd hs k p1 q1 h1) h
end Vs

namespace Vs
open Go
def AL(n:af)(d:aO):Bool:=wi d.N 0 ((n.N.length:Int)-1)&&(wi d.L 0 ((n.N.length:Int)-1)&&((d.N !=d.L)&&(wi d.F 1 1000&&wi d.W 0 2)))
def Up(n:af)(d:aO)(hN:n.N.length<=1048576):LX n d=some (AL n d):=by
 unfold LX AL;rw[az (by omega) (by omega)];simp only[dR,A0];cases wi d.N 0 ((n.N.length:Int)-1)<;>cases wi d.L 0 ((n.N.length:Int)-1)<;>cases(d.N !=d.L)<;>cases wi d.F 1 1000<;>cases wi d.W 0 2<;>rfl
def agl(n:af)(d:aO)(hN:n.N.length<=1048576):Ny n d=some (AL n d):=by
 unfold Ny AL;rw[az (by omega) (by omega)];simp only[iW,A0];cases wi d.N 0 ((n.N.length:Int)-1)<;>cases wi d.L 0 ((n.N.length:Int)-1)<;>cases(d.N !=d.L)<;>cases wi d.F 1 1000<;>cases wi d.W 0 2<;>rfl
def aip(xs:List aO)(f:aO->Option Bool)(p:aO->Bool)(hf:∀x∈xs,f x=some (p x))(hl:xs.length<=1048576):Pa xs f=some (xs.any p):=by
 unfold Pa Tv;rw[cO (f:=JA xs f) xs (fun _ x=>p x) (fun i _=>(i:Int)) () (fun i x hx _=>by
  have hlt:=(A2.1 hx).1;have h1:decide ((i:Int)<xs.length)=true:=by simp[hlt]
  simp only[JA,h1,cond_true,aV,hx,hf x (A3 hx),A0];rw[az (by omega) (by omega)];cases p x<;>rfl) (by simp[JA]) (by omega)]
 rw[<-mZ];cases e:cD (fun _ x=>p x) xs with
 | none =>
   have h:fh (fun _ x=>p x) xs=false:=cC.2 (dE.1 e);rw[h];rfl
 | some q =>
   obtain⟨i,x⟩:=q;obtain⟨h1,h2,_⟩:=cA.1 e;have h:fh (fun _ x=>p x) xs=true:=gh.2 ⟨i,x,h1,h2⟩;rw[h];simp
theorem QN(n:af)(d:aO)(hz:bJ n<=1048576):Li n [d]=some (bA n&&AL n d):=by
 unfold Li;rw[fZ n hz,A0];cases hn:bA n with
 |false=>rfl
 | true =>
   have hN:=cU hn;rw[aip [d] _ (fun d=>!AL n d) (fun x _=>by
    unfold Nx;rw[Up n x (by omega)];rfl) (by simp)]
   simp
def usF(n:af)(l:List aA)(rate:Int)(r:aj):Option aq:=if 0<fB l (dq n r) rate then some ⟨r,fB l (dq n r) rate⟩ else none
def usG(n:af)(l:List aA)(rate:Int)(_:Nat)(r:aj)(a:List aq):List aq:=if 0<fB l (dq n r) rate then a++[⟨r,fB l (dq n r) rate⟩] else a
theorem DW(n:af)(l:List aA)(rate:Int):∀(L:List aj)(k:Nat)(a:List aq),dY (usG n l rate) k L a=a++L.filterMap (usF n l rate)
 |[],_,a=>by simp[dY]
 | r :: L, k, a => by
   simp only[dY];rw[DW n l rate L,N6];unfold usG usF;by_cases c:0<fB l (dq n r) rate
   ·simp[c]
   ·simp[c]
def usH(n:af)(l:List aA)(rate:Int)(_:Nat)(r:aj)(a:List aj×List Int):List aj×List Int:=if 0<fB l (dq n r) rate then(a.1++[r],a.2++[fB l (dq n r) rate]) else a
theorem za(n:af)(l:List aA)(rate:Int):∀(L:List aj)(k:Nat)(a:List aj×List Int),dY (usH n l rate) k L a=(a.1++(L.filterMap (usF n l rate)).map (·.F),a.2++(L.filterMap (usF n l rate)).map (·.N))
 |[],_,a=>by simp[dY]
 | r :: L, k, a => by
   simp only[dY];rw[za n l rate L,N6];unfold usH usF;by_cases c:0<fB l (dq n r) rate
   ·simp[c]
   ·simp[c]
structure vN(n:af)(s:Int)(cs:List aq):Prop where
 net:bA n=true
 len:cs.length<=200
 ok:∀c∈cs,RtV n s c.F/\0<=c.N/\c.N<=24
 srt:cs.Pairwise fun a b=>ff n a.F b.F<0
def zQ(n:af)(d:aO){fs fl:List aA}{st ln:Nat}(hfs:cY fl st ln=fs)(hz:bJ n<=1048576)(hf:fs.length<=1048576):
 ∃ok cs,IA n fs d=some (ok,cs)/\Gx n st ln d fl=some (ok,cs.map (·.F),cs.map (·.N),fl)/\(ok=true->vN n d.N cs/\iI fs=true/\(1<=d.F/\d.F<=1000)/\(0<=d.W/\d.W<=2)/\∀c∈cs,c.N=fB fs (dq n c.F) d.F/\0<c.N/\nC n c.F=d.L)/\(ok=false->cs=[]):=by
 unfold IA Gx;simp only[KS fs hf,bnd,hfs,aet fs hf,cV,sS n hz,QN n d hz,A0];cases hn:bA n with
 | false =>
   refine⟨false,[],?_,rfl,(fun h=>by cases h),fun _=>rfl⟩;cases iI fs<;>rfl
 | true =>
   have hN:=cU hn;rw[agl n d (by omega)];cases hfo:iI fs with
   |false=>exact⟨false,[],rfl,rfl,(fun h=>by cases h),fun _=>rfl⟩
   | true =>
     cases hd:AL n d with
     |false=>exact⟨false,[],rfl,rfl,(fun h=>by cases h),fun _=>rfl⟩
     | true =>
       unfold AL at hd;simp only[A8,bQ,bne_iff_ne] at hd;obtain⟨d1,d2,d3,d4,d5⟩:=hd;have hs:0<=d.N/\d.N<(n.N.length:Int):=by omega
       have ht:0<=d.L/\d.L<(n.N.length:Int):=by omega
       obtain⟨L1,a⟩:=SP hn hz d3 hs ht;obtain⟨L2,b⟩:=aah hn d3 hs;unfold TG;simp only[B0,cond_false,N8,A0];by_cases hc:(kL n d.N d.L).length<=200
       ·rw[u7 hc] at a b;obtain⟨a1,a2,a3⟩:=a;obtain⟨b1,b2,b3⟩:=b;have e:L1=L2:=FR L1 L2 (a2.trans b2.symm) a3 b3;subst e;have hll:=a2.length_eq;have hok:∀r∈L1,RtV n d.N r:=fun r hr=>rA hn d3 hs _ _ _ (NG hn hs) r (a2.mem_iff.1 hr);have hnd:L1.Nodup:=a2.nodup_iff.2 (SL _ _ _);have hlt:L1.Pairwise fun a b=>ff n a b<0:=by
         have:=K8.and a3 hnd;refine this.imp fun{x y} h=>?_;rcases yZ h.1 with h1|h1
         ·exact h1
         ·exact absurd h1.symm h.2
        rw[a1,b1];simp only[B0,cond_false,A0];have i1:=ij (f:=IM n fs d (L1,true)) L1 (fun i(a:List aq)=>((i:Int),a)) (usG n fs d.F) id (fun i a=>a.length<=i) (fun i a r hx hI=>by
         have hlt:=(A2.1 hx).1;have hr:=(hok r (A3 hx)).b;have h1:decide ((i:Int)<L1.length)=true:=by simp[hlt]
         refine⟨by unfold usG;split<;>(try simp only[A7,B4,B9])<;>omega,?_⟩;simp only[IM,h1,cond_true,A6,hx,A0];rw[aW ⟨by omega,by omega⟩,A0,mp hr,A0,VS fs _ _ hfo (wW hn hr).1 d4,az (by omega) (by omega)];simp only[A0,bnd];unfold usG;by_cases c:0<fB fs (dq n r) d.F
         ·rw[g7 c,g9,aW (by omega),A0,u7 c];rfl
         ·rw[u9 c,g8,u6 c];rfl) (fun a _=>by simp[IM]) [] (by simp) (by omega)
        have i2:=ij (f:=HE n st ln d fl (true,L1)) L1 (fun i(a:List aj×List Int)=>((i:Int),a.1,a.2)) (usH n fs d.F) id (fun i a=>a.1.length<=i/\a.2.length<=i) (fun i a r hx hI=>by
         have hlt:=(A2.1 hx).1;have hr:=(hok r (A3 hx)).b;have h1:decide ((i:Int)<L1.length)=true:=by simp[hlt]
         refine⟨by unfold usH;split<;>(try simp only[A7,B4,B9])<;>omega,?_⟩;simp only[HE,h1,cond_true,A6,hx,A0];rw[aW ⟨by omega,by omega⟩,A0,eL hr,A0];simp only[bnd,hfs];rw[pN fs _ _ hfo d4,az (by omega) (by omega)];simp only[A0];unfold usH;by_cases c:0<fB fs (dq n r) d.F
         ·rw[g7 c,g9,aW (by omega),A0,aW (by omega),A0,u7 c];rfl
         ·rw[u9 c,g8,u6 c];rfl) (fun a _=>by simp[HE]) ([],[]) (by simp) (by omega)
        have e0:((0:Nat):Int)=0:=rfl;simp only[e0,id] at i1 i2;rw[i1,i2,DW,za];refine⟨true,L1.filterMap (usF n fs d.F),by simp,by simp,(fun _=>⟨⟨hn,?_,fun c hc=>?_,?_⟩,trivial,d4,d5,fun c hc=>?_⟩),(fun h=>by cases h)⟩
        ·have:=List.length_filterMap_le (usF n fs d.F) L1;omega
        ·rw[N9] at hc;obtain⟨r,hr,h1⟩:=hc;unfold usF at h1;split at h1
         ·cases h1;have:=Oy (l:=fs) (len:=dq n r) hfo d4;exact⟨hok r hr,this⟩
         ·cases h1
        ·rw[List.pairwise_filterMap];refine hlt.imp fun{x y} h b hb b' hb'=>?_;unfold usF at hb hb';split at hb
         ·split at hb'
          ·cases hb;cases hb';exact h
          ·cases hb'
         ·cases hb
        ·rw[N9] at hc;obtain⟨r,hr,h1⟩:=hc;unfold usF at h1;split at h1
         ·rename_i hpos;cases h1;exact⟨rfl,hpos,xu hn d3 hs _ _ _ (NG hn hs) r (a2.mem_iff.1 hr)⟩
         ·cases h1
       ·rw[u6 hc] at a b;rw[a,b];exact⟨false,[],rfl,rfl,(fun h=>by cases h),fun _=>rfl⟩
end Vs

namespace Vs
open Go
theorem Bj{n:af}{x y:Int}(h:nj n x y):nj n y x:=by
 rcases h with h|⟨h1,h2⟩
 ·exact .inl h.symm
 ·exact .inr ⟨fun e=>h1 (by rw[h2,e]),h2.symm⟩
def Eu{n:af}{a b:List Int}(ha:∀x∈a,iJ n x)(hb:∀x∈b,iJ n x):apP n a b=apP n b a:=by
 have key:∀{a b:List Int},(∀x∈a,iJ n x)->(∀x∈b,iJ n x)->apP n a b=false->apP n b a=false:=fun{a b} ha hb h=>by
  unfold apP at h⊢;rw[I4,C2] at h⊢;obtain⟨x,h1,h2⟩:=h;rw[C2] at h2;obtain⟨y,h3,h4⟩:=h2;refine⟨y,h3,C2.2 ⟨x,h1,?_⟩⟩;rw[u0] at h4⊢
  grind [nw,Bj]
 grind [apP]
def cst(c:aq):Int:=c.N*(c.F.F.length:Int)
def cN(cs:List aq)(i:Nat):Int:=match cs[i]? with|some c=>cst c|none=>0
def apN(n:af)(cs:List aq)(i k:Nat):Bool:=match cs[i]?,cs[k]? with|some a,some b=>apP n a.F.F b.F.F|_,_=>false
structure Al(n:af)(cs:List aq)(j l:Nat):Prop where
 hj:j<cs.length
 hl:l<cs.length
 ne:j≠l
 c:cN cs j<cN cs l\/cN cs j=cN cs l/\j<l
 a:apN n cs j l=true
def lG(cs:List aq)(j l i k:Nat):Prop:=cN cs j+cN cs l<cN cs i+cN cs k\/(cN cs j+cN cs l=cN cs i+cN cs k/\(j<i\/j=i/\l<k))
instance(cs:List aq)(j l i k:Nat):Decidable (lG cs j l i k):=by unfold lG;infer_instance
def IsB(n:af)(cs:List aq)(S:Nat->Nat->Prop):Option (Nat×Nat)->Prop
 |none=>∀j l,S j l->¬Al n cs j l
 |some q=>S q.1 q.2/\Al n cs q.1 q.2/\∀j l,S j l->Al n cs j l->¬lG cs j l q.1 q.2
def MD{n:af}{cs:List aq}{b b':Option (Nat×Nat)}(h:IsB n cs (fun _ _=>True) b)(h':IsB n cs (fun _ _=>True) b'):b=b':=by
 cases b with
 | none => cases b' with
   |none=>rfl
   |some q=>exact(h q.1 q.2 trivial h'.2.1).elim
 | some p => cases b' with
   |none=>exact(h' p.1 p.2 trivial h.2.1).elim
   | some q =>
     obtain⟨a,b⟩:=p;obtain⟨x,y⟩:=q;have h1:=h.2.2 x y trivial h'.2.1;have h2:=h'.2.2 a b trivial h.2.1
     grind [lG]
def gk{n:af}{cs:List aq}{S S':Nat->Nat->Prop}{b:Option (Nat×Nat)}(h:IsB n cs S b)(h1:∀j l,S j l->S' j l)(h2:∀j l,S' j l->Al n cs j l->S j l):IsB n cs S' b:=by
 cases b with
 |none=>exact fun j l hs ha=>h j l (h2 j l hs ha) ha
 |some q=>exact⟨h1 _ _ h.1,h.2.1,fun j l hs ha=>h.2.2 j l (h2 j l hs ha) ha⟩
def pX{n:af}{cs:List aq}{S S':Nat->Nat->Prop}{b:Option (Nat×Nat)}(h:IsB n cs S b){i k:Nat}(hal:Al n cs i k)(hS:∀j l,Al n cs j l->(S' j l↔S j l\/(j=i/\l=k))):
 (∀q,b=some q->lG cs i k q.1 q.2)->IsB n cs S' (some (i,k)):=by
 intro hp;refine⟨(hS i k hal).2 (.inr ⟨rfl,rfl⟩),hal,fun j l hs ha=>?_⟩;rcases(hS j l ha).1 hs with h1|⟨rfl,rfl⟩
 ·cases b with
  |none=>exact(h j l h1 ha).elim
  | some q =>
    have a1:=h.2.2 j l h1 ha;have a2:=hp q rfl
    grind [lG]
 simp_all [lG]
def xO{n:af}{cs:List aq}{S S':Nat->Nat->Prop}{q:Nat×Nat}(h:IsB n cs S (some q)){i k:Nat}(hS:∀j l,Al n cs j l->(S' j l↔S j l\/(j=i/\l=k)))(hp:¬lG cs i k q.1 q.2):IsB n cs S' (some q):=by
 refine⟨(hS _ _ h.2.1).2 (.inl h.1),h.2.1,fun j l hs ha=>?_⟩;rcases(hS j l ha).1 hs with h1|⟨rfl,rfl⟩
 ·exact h.2.2 j l h1 ha
 ·exact hp
def eH(cs:List aq):Option (Nat×Nat)->Int×Int×Int
 |none=>(-1,-1,0)
 |some q=>((q.1:Int),(q.2:Int),cN cs q.1+cN cs q.2)
def gK{n:af}{s:Int}{cs:List aq}(h:vN n s cs){i:Nat}{c:aq}(hc:cs[i]?=some c):0<=cst c/\cst c<=480:=by
 obtain⟨h1,h2,h3⟩:=h.ok c (A3 hc);have hl:=h1.b.1;unfold cst;have a:=N2 h2 (O0 c.F.F.length);have b:c.N*(c.F.F.length:Int)<=24*20:=N3 h3 (by omega) (by omega) (by omega);omega
def qf{n:af}{s:Int}{cs:List aq}(h:vN n s cs){i:Nat}{c:aq}(hc:cs[i]?=some c):c.F.F.length<=20/\∀x∈c.F.F,iJ n x:=by
 obtain⟨h1,_⟩:=h.ok c (A3 hc);exact⟨h1.b.1,h1.b.2.1⟩
def Nn{n:af}{s:Int}{cs:List aq}(h:vN n s cs):∃b,KU n (cs.map (·.F)) (cs.map (·.N))=some ((eH cs b).1,(eH cs b).2.1)/\IsB n cs (fun _ _=>True) b:=by
 have h2:=h.len;have hF:=(cU h.net).2.2;unfold KU;have inner:∀(i:Nat)(hi:i<cs.length)(b:Option (Nat×Nat)),IsB n cs (fun j _=>j<i) b->∃b',aZ (Ht n (cs.map (·.F)) (cs.map (·.N)) ((eH cs b).1,(eH cs b).2.1,(eH cs b).2.2,(i:Int))) N0 ((eH cs b).1,(eH cs b).2.1,(eH cs b).2.2,0)=some ((eH cs b').1,(eH cs b').2.1,(eH cs b').2.2)/\IsB n cs (fun j _=>j<i+1) b':=by
  intro i hi b hb;have hci:cs[i]?=some cs[i]:=A1 hi;generalize cs[i]=x at hci;obtain⟨o,o1,o2⟩:=bq (f:=Ht n (cs.map (·.F)) (cs.map (·.N)) ((eH cs b).1,(eH cs b).2.1,(eH cs b).2.2,(i:Int))) (fun t=>∃(k:Nat)(b':Option (Nat×Nat)),t=((eH cs b').1,(eH cs b').2.1,(eH cs b').2.2,(k:Int))/\k<=cs.length/\IsB n cs (fun j l=>j<i\/(j=i/\l<k)) b') (fun t=>cs.length-t.2.2.2.toNat)
   (fun o=>∃b',o=((eH cs b').1,(eH cs b').2.1,(eH cs b').2.2)/\IsB n cs (fun j _=>j<i+1) b') (fun t⟨k,b',e,hk,hB⟩=>by
   subst e;unfold Ht;by_cases hkl:k<cs.length
   ·left;have hck:cs[k]?=some cs[k]:=A1 hkl;generalize cs[k]=y at hck;have e1:decide ((k:Int)<((cs.map (·.F)).length:Int))=true:=by simp;omega
    have m1:(cs.map (·.N))[i]?=some x.N:=by rw[C0,hci];rfl
    have m2:(cs.map (·.F))[i]?=some x.F:=by rw[C0,hci];rfl
    have m3:(cs.map (·.N))[k]?=some y.N:=by rw[C0,hck];rfl
    have m4:(cs.map (·.F))[k]?=some y.F:=by rw[C0,hck];rfl
    have hx:=gK h hci;have hy:=gK h hck;obtain⟨fx1,fx2⟩:=qf h hci;obtain⟨fy1,fy2⟩:=qf h hck;have hcx:cN cs i=cst x:=by unfold cN;rw[hci]
    have hcy:cN cs k=cst y:=by unfold cN;rw[hck]
    have hap:apN n cs i k=apP n x.F.F y.F.F:=by unfold apN;rw[hci,hck]
    have wx:A5 .i64 (x.N*(x.F.F.length:Int))=cst x:=az (by unfold cst at hx;omega) (by unfold cst at hx;omega);have wy:A5 .i64 (y.N*(y.F.F.length:Int))=cst y:=az (by unfold cst at hy;omega) (by unfold cst at hy;omega);have wxy:A5 .i64 (cst x+cst y)=cst x+cst y:=az (by omega) (by omega);have wk:A5 .i64 ((k:Int)+1)=((k+1:Nat):Int):=by rw[az (by omega) (by omega)];rfl
    simp only[e1,cond_true,aV,m1,m2,m3,m4,A0,wx,wy,wxy,wk,oc n x.F y.F hF (by omega) (by omega) fx2];have hS:∀j l,Al n cs j l->((j<i\/(j=i/\l<k+1))↔(j<i\/(j=i/\l<k))\/(j=i/\l=k)):=fun j l _=>by omega
    have hbad:∀c:Bool,(cond ((i:Int)==(k:Int)) (some true) (cond (decide (cst y<cst x)) (some true) (cond (cst x==cst y) (cond (decide ((k:Int)<(i:Int))) (some true) (some (!c))) (some (!c)))):Option Bool)=some (!(decide (i≠k/\(cst x<cst y\/cst x=cst y/\i<k))&&c)):=fun c=>by
     by_cases c1:i=k
     ·subst c1;simp
     ·have:((i:Int)==(k:Int))=false:=by simp;omega
      rw[this,g8];by_cases c2:cst y<cst x
      ·grind [decide_eq_true,decide_eq_false]
      ·rw[u9 c2,g8];by_cases c3:cst x=cst y
       ·have:(cst x==cst y)=true:=by simpa using c3
        rw[this,g9]
        grind [c4,decide_eq_true,decide_eq_false]
       ·have:(cst x==cst y)=false:=by simpa using c3
        have h9:(i≠k/\(cst x<cst y\/cst x=cst y/\i<k)):=by omega
        grind
    rw[hbad];simp only[A0];have hal:(decide (i≠k/\(cst x<cst y\/cst x=cst y/\i<k))&&apP n x.F.F y.F.F)=true↔Al n cs i k:=by
     rw[A8,u0];constructor
     ·rintro⟨⟨q1,q2⟩,q3⟩;exact⟨hi,hkl,q1,by rw[hcx,hcy];exact q2,by rw[hap];exact q3⟩
     ·intro q;have:=q.c;rw[hcx,hcy] at this;exact⟨⟨q.ne,this⟩,by rw[<-hap];exact q.a⟩
    by_cases ha:Al n cs i k
    ·rw[hal.2 ha];simp only[B0,cond_false];cases b' with
     | none =>
       have e3:decide ((eH cs none).1<0)=true:=by simp[eH]
       rw[e3];simp only[cond_true,A0];refine⟨_,rfl,⟨k+1,some (i,k),by simp_all [eH],by omega,pX hB ha hS fun q hq=>by cases hq⟩,by simp only;omega⟩
     | some q =>
       have e3:decide ((eH cs (some q)).1<0)=false:=u9 (show¬(q.1:Int)<0 by omega);rw[e3];simp only[cond_false,A0];have hq:=hB.1;have e4:decide (cst x+cst y<(eH cs (some q)).2.2)=decide (lG cs i k q.1 q.2):=by
        have hq':q.1<i\/(q.1=i/\q.2<k):=hq;have h7:lG cs i k q.1 q.2↔cst x+cst y<cN cs q.1+cN cs q.2:=by
         unfold lG;rw[hcx,hcy];constructor
         ·rintro(h|⟨h,h'⟩)
          ·exact h
          ·omega
         ·exact fun h=>.inl h
        rw[C3,u0,u0,h7];exact Iff.rfl
       rw[e4];by_cases c:lG cs i k q.1 q.2
       ·rw[g7 c];exact⟨_,rfl,⟨k+1,some (i,k),by simp_all [eH],by omega,pX hB ha hS fun q' hq'=>by cases hq';exact c⟩,by simp only;omega⟩
       ·rw[u9 c];exact⟨_,rfl,⟨k+1,some q,rfl,by omega,xO hB hS c⟩,by simp only;omega⟩
    ·have:(decide (i≠k/\(cst x<cst y\/cst x=cst y/\i<k))&&apP n x.F.F y.F.F)=false:=by
      cases e:(decide (i≠k/\(cst x<cst y\/cst x=cst y/\i<k))&&apP n x.F.F y.F.F) with
      |false=>rfl
      |true=>exact absurd (hal.1 e) ha
     rw[this];simp only[F6,cond_true];refine⟨_,rfl,⟨k+1,b',rfl,by omega,gk hB (fun j l hs=>by omega) fun j l hs ha'=>?_⟩,by simp only;omega⟩
     grind
   ·right;have:k=cs.length:=by omega
    subst this;have e1:decide ((cs.length:Int)<((cs.map (·.F)).length:Int))=false:=by simp
    simp only[e1,cond_false];exact⟨_,rfl,b',rfl,gk hB (fun j l hs=>by omega) fun j l hs ha=>by have:=ha.hl;omega⟩) N0 ((eH cs b).1,(eH cs b).2.1,(eH cs b).2.2,0) ⟨0,b,rfl,by omega,gk hb (fun j l hs=>.inl hs) fun j l hs _=>by omega⟩ (cI (by simp only;omega))
  obtain⟨b',e,hB⟩:=o2;exact⟨b',by rw[o1,e],hB⟩
 obtain⟨o,o1,o2⟩:=bq (f:=Mh n (cs.map (·.F)) (cs.map (·.N))) (fun t=>∃(i:Nat)(b:Option (Nat×Nat)),t=((eH cs b).1,(eH cs b).2.1,(eH cs b).2.2,(i:Int))/\i<=cs.length/\IsB n cs (fun j _=>j<i) b) (fun t=>cs.length-t.2.2.2.toNat)
  (fun o=>∃b,o=((eH cs b).1,(eH cs b).2.1)/\IsB n cs (fun _ _=>True) b) (fun t⟨i,b,e,hi,hB⟩=>by
  subst e;unfold Mh;by_cases hil:i<cs.length
  ·left;have e1:decide ((i:Int)<((cs.map (·.F)).length:Int))=true:=by simp;omega
   obtain⟨b',c1,c2⟩:=inner i hil b hB;simp only[e1,cond_true];rw[c1];simp only[A0];rw[az (by omega) (by omega)];exact⟨_,rfl,⟨i+1,b',rfl,by omega,c2⟩,by simp only;omega⟩
  ·right;have:i=cs.length:=by omega
   subst this;have e1:decide ((cs.length:Int)<((cs.map (·.F)).length:Int))=false:=by simp
   simp only[e1,cond_false];exact⟨_,rfl,b,rfl,gk hB (fun j l hs=>trivial) fun j l _ ha=>ha.hj⟩) N0 (-1,-1,0,0) ⟨0,none,rfl,by omega,fun j l hs=>by omega⟩ (cI (by simp only;omega))
 grind
end Vs

namespace Vs
open Go
def zc:aq:=⟨⟨0,[]⟩,0⟩
def atC(cs:List aq)(i:Nat):aq:=(cs[i]?).getD zc
def dW(cs:List aq):Option (Nat×Nat)->Bool×aq×aq
 |none=>(false,zc,zc)
 |some q=>(true,atC cs q.1,atC cs q.2)
theorem YD(a b:Int):oh [a,b]=some (if a≠0 then a else b):=by
 unfold oh;have key:=cO (f:=M_l [a,b]) [a,b] (fun _ x=>x !=0) (fun _ x=>x) () (fun i x hx _=>by
  have hlt:=(A2.1 hx).1;have h1:decide ((i:Int)<([a,b].length:Nat))=true:=g7 (by omega);simp only[B4,B9] at hlt;simp only[M_l,h1,cond_true,aV,hx,A0]
  grind [az]) (by simp[M_l]) (by simp)
 rw[key];unfold cD;simp only[H2,L8,H4,M6]
 grind
def EM{n:af}{s:Int}{cs:List aq}(h:vN n s cs){i k:Nat}{x y:aq}(hx:cs[i]?=some x)(hy:cs[k]?=some y):(ff n x.F y.F<0↔i<k)/\(ff n x.F y.F=0↔i=k):=by
 obtain⟨hi,ei⟩:=A2.1 hx;obtain⟨hk,ek⟩:=A2.1 hy;have hp:=B6.1 h.srt
 grind [jl,Nat.lt_trichotomy]
theorem kT{n:af}{s:Int}{cs:List aq}(h:vN n s cs){i:Nat}{c:aq}(hc:cs[i]?=some c):M_f c=some (cst c):=by
 have:=gK h hc
 grind [az,M_f,cst]
def akb{n:af}{s:Int}{cs:List aq}(h:vN n s cs){i:Nat}{c:aq}(hc:cs[i]?=some c):c.F.F.length<=12:=by
 obtain⟨h1,_⟩:=h.ok c (A3 hc);obtain⟨l,hl⟩:=G1.1 h1.v;exact(jM h.net hl).1.len
def GD{n:af}{s:Int}{cs:List aq}(h:vN n s cs){f g:Nat}{x y:aq}(hx:cs[f]?=some x)(hy:cs[g]?=some y)(b:Option (Nat×Nat))(hb:∀q,b=some q->q.1<cs.length/\q.2<cs.length):
 ((M_f x).bind fun rZ18=>(M_f y).bind fun rZ19=>(M_f (dW cs b).2.1).bind fun rZ20=>(M_f (dW cs b).2.2).bind fun rZ21=>(lE (A5 .i64 (rZ18+rZ19)) (A5 .i64 (rZ20+rZ21))).bind fun rZ22=>bnd ([rZ22,0]) fun lZ23=>(oh lZ23).bind fun rZ27=>((cond ((dW cs b).1) (some (rZ27==0)) (some false):Option Bool).bind fun oZ29=>cond (oZ29) ((xo n x.F (dW cs b).2.1.F).bind fun rZ31=>(xo n y.F (dW cs b).2.2.F).bind fun rZ32=>bnd ([rZ31,rZ32]) fun lZ33=>(oh lZ33).bind fun rZ37=>some rZ37) (some rZ27):Option Int).bind fun oZ38=>(cond (!(dW cs b).1) (some true) (some (decide (oZ38<0))):Option Bool))=some (match b with|none=>true|some q=>decide (lG cs f g q.1 q.2)):=by
 have rx:=gK h hx;have ry:=gK h hy;rw[kT h hx,kT h hy];simp only[A0];cases b with
 | none =>
   have e0:M_f zc=some 0:=rfl;simp only[dW,e0,A0,xF,bnd,YD,cond_false,F6,cond_true]
 | some q =>
   obtain⟨q1,q2⟩:=hb q rfl;have h1:cs[q.1]?=some (atC cs q.1):=by unfold atC;rw[A1 q1];rfl
   have h2:cs[q.2]?=some (atC cs q.2):=by unfold atC;rw[A1 q2];rfl
   generalize atC cs q.1=u at h1;generalize atC cs q.2=v at h2;have hu:(dW cs (some q))=(true,u,v):=by
    show(true,(cs[q.1]?).getD zc,(cs[q.2]?).getD zc)=_;rw[h1,h2];rfl
   have ru:=gK h h1;have rv:=gK h h2;have bx:=(h.ok x (A3 hx)).1.b;have by':=(h.ok y (A3 hy)).1.b;have bu:=(h.ok u (A3 h1)).1.b;have bv:=(h.ok v (A3 h2)).1.b;obtain⟨i1,i2⟩:=EM h hx h1;obtain⟨i3,i4⟩:=EM h hy h2;rw[hu];simp only[kT h h1,kT h h2,A0,cond_true,B0,cond_false];rw[az (n:=cst x+cst y) (by omega) (by omega),az (n:=cst u+cst v) (by omega) (by omega)];simp only[xF,bnd,YD,A0];have e:(if dp (cst x+cst y) (cst u+cst v)≠0 then dp (cst x+cst y) (cst u+cst v) else 0)=dp (cst x+cst y) (cst u+cst v):=by
    split<;>omega
   rw[e];have hc:lG cs f g q.1 q.2↔cst x+cst y<cst u+cst v\/(cst x+cst y=cst u+cst v/\(f<q.1\/f=q.1/\g<q.2)):=by
    unfold lG cN;rw[hx,hy,h1,h2]
   by_cases c:cst x+cst y=cst u+cst v
   ·have e2:(dp (cst x+cst y) (cst u+cst v)==0)=true:=by rw[beq_iff_eq];exact cE.2 c
    rw[e2,g9,gw bx bu];simp only[A0];rw[gw by' bv]
    grind
   ·have e2:(dp (cst x+cst y) (cst u+cst v)==0)=false:=by
     cases e3:(dp (cst x+cst y) (cst u+cst v)==0) with
     |false=>rfl
     |true=>exact absurd (cE.1 (by simpa using e3)) c
    rw[e2,g8];simp only[A0];congr 1;rw[C3,u0,u0,hc,iy];omega
def SI(i k:Nat)(j l:Nat):Prop:=j<i\/l<i\/(j=i/\l<k)\/(l=i/\j<k)
def Yb{n:af}{s:Int}{cs:List aq}(h:vN n s cs)(fs:List aA):∃b,aZ (BX n (true,cs)) N0 (false,0,zc,zc)=some (dW cs b)/\IsB n cs (fun _ _=>True) b:=by
 have h2:=h.len;have hF:=(cU h.net).2.2;have inner:∀(i:Nat)(x:aq)(hi:cs[i]?=some x)(b:Option (Nat×Nat)),IsB n cs (fun j l=>j<i\/l<i) b->∃b',aZ (GM n (true,cs) ((dW cs b).1,(i:Int),(dW cs b).2.1,(dW cs b).2.2) x) N0 ((dW cs b).1,0,(dW cs b).2.1,(dW cs b).2.2)=some (dW cs b')/\IsB n cs (fun j l=>j<i+1\/l<i+1) b':=by
  intro i x hci b hb;have hi:=(A2.1 hci).1;have wi1:A5 .i64 ((i:Int)+1)=((i+1:Nat):Int):=by rw[az (by omega) (by omega)];rfl
  obtain⟨o,o1,o2⟩:=bq (f:=GM n (true,cs) ((dW cs b).1,(i:Int),(dW cs b).2.1,(dW cs b).2.2) x) (fun t=>∃(k:Nat)(b':Option (Nat×Nat)),t=((dW cs b').1,(k:Int),(dW cs b').2.1,(dW cs b').2.2)/\k<=cs.length-(i+1)/\IsB n cs (SI i (i+1+k)) b') (fun t=>cs.length-(i+1)-t.2.1.toNat)
   (fun o=>∃b',o=dW cs b'/\IsB n cs (fun j l=>j<i+1\/l<i+1) b') (fun t⟨k,b',e,hk,hB⟩=>by
   subst e;unfold GM;simp only[wi1,A6];by_cases hkl:k<cs.length-(i+1)
   ·left;have hck:cs[i+1+k]?=some (cs[i+1+k]'(by omega)):=A1 _;generalize cs[i+1+k]'(by omega)=y at hck;have e1:decide ((k:Int)<((cs.length-(i+1):Nat):Int))=true:=by simp;omega
    have hx:=gK h hci;have hy:=gK h hck;obtain⟨fx1,fx2⟩:=qf h hci;obtain⟨fy1,fy2⟩:=qf h hck;have hcx:cN cs i=cst x:=by unfold cN;rw[hci]
    have hcy:cN cs (i+1+k)=cst y:=by unfold cN;rw[hck]
    have hap:apN n cs i (i+1+k)=apP n x.F.F y.F.F:=by unfold apN;rw[hci,hck]
    have hap2:apN n cs (i+1+k) i=apP n x.F.F y.F.F:=by unfold apN;rw[hci,hck];exact Eu fy2 fx2
    have wk:A5 .i64 ((k:Int)+1)=((k+1:Nat):Int):=by rw[az (by omega) (by omega)];rfl
    have hbb:∀q,b'=some q->q.1<cs.length/\q.2<cs.length:=fun q hq=>by subst hq;exact⟨hB.2.1.hj,hB.2.1.hl⟩
    simp only[e1,cond_true];rw[aW (by omega),A0,hck,A0,wZ n x.F.F y.F.F h.net (akb h hci) (by omega) fx2 fy2,A0];simp only[wk];cases ha:apP n x.F.F y.F.F with
    | false =>
      simp only[F6,cond_true];refine⟨_,rfl,⟨k+1,b',rfl,by omega,gk hB (fun j l hs=>by unfold SI at*;omega) fun j l hs ha'=>?_⟩,by simp only;omega⟩;unfold SI at*
      rcases hs with h1|h1|⟨h1,h3⟩|⟨h1,h3⟩
      ·exact .inl h1
      ·exact .inr (.inl h1)
      ·by_cases c:l=i+1+k
       ·subst h1;subst c;have:=ha'.a
        simp_all
       omega
      ·by_cases c:j=i+1+k
       ·subst h1;subst c;have:=ha'.a
        simp_all
       omega
    | true =>
      simp only[B0,cond_false];obtain⟨f,g,u,v,hu,hv,hfg,hal,hS⟩:∃(f g:Nat)(u v:aq),cs[f]?=some u/\cs[g]?=some v/\((M_f y).bind fun rZ14=>(M_f x).bind fun rZ15=>cond (decide (rZ14<rZ15)) (some (y,x)) (some (x,y)):Option (aq×aq))=some (u,v)/\Al n cs f g/\∀j l,Al n cs j l->(SI i (i+1+(k+1)) j l↔SI i (i+1+k) j l\/(j=f/\l=g)):=by
       rw[kT h hci,kT h hck];simp only[A0];by_cases c:cst y<cst x
       ·refine⟨i+1+k,i,y,x,hck,hci,by simp_all,⟨by omega,hi,by omega,by omega,by rw[hap2];exact ha⟩,fun j l ha'=>?_⟩;unfold SI;constructor
        ·rintro(h1|h1|⟨h1,h3⟩|⟨h1,h3⟩)
         ·exact .inl (.inl h1)
         ·omega
         ·by_cases c2:l=i+1+k
          ·exfalso;subst h1;subst c2;have:=ha'.c;omega
          omega
         omega
        ·omega
       ·refine⟨i,i+1+k,x,y,hci,hck,by grind,⟨hi,by omega,by omega,by rw[hcx,hcy];omega,by rw[hap];exact ha⟩,fun j l ha'=>?_⟩;unfold SI;constructor
        ·rintro(h1|h1|⟨h1,h3⟩|⟨h1,h3⟩)
         ·exact .inl (.inl h1)
         ·omega
         ·omega
         ·by_cases c2:j=i+1+k
          ·exfalso;subst h1;subst c2;have:=ha'.c;omega
          omega
        ·omega
      rw[hfg,A0];have hst:=GD h hu hv b' hbb;have hres:∀(K:Option ((Bool×Int×aq×aq)⊕(Bool×aq×aq)))(z:Bool)(E:Option Bool),E=some z->K=E.bind (fun oZ40=>cond (oZ40) (some (.inl (true,((k+1:Nat):Int),u,v))) (some (.inl ((dW cs b').1,((k+1:Nat):Int),(dW cs b').2.1,(dW cs b').2.2))))->K=some (.inl (if z then(true,((k+1:Nat):Int),u,v) else((dW cs b').1,((k+1:Nat):Int),(dW cs b').2.1,(dW cs b').2.2))):=fun K z E hE hK=>by
       grind
      refine⟨_,hres _ _ _ hst ?_,?_,?_⟩
      ·simp only[Option.bind_assoc,bnd]
      ·have hatu:atC cs f=u:=by unfold atC;rw[hu];rfl
       have hatv:atC cs g=v:=by unfold atC;rw[hv];rfl
       have hS':∀j l,Al n cs j l->(SI i (i+1+(k+1)) j l↔SI i (i+1+k) j l\/(j=f/\l=g)):=hS;cases b' with
       | none =>
         exact⟨k+1,some (f,g),by simp_all [if_true,dW],by omega,pX hB hal hS' fun q hq=>by cases hq⟩
       | some q =>
         by_cases c:lG cs f g q.1 q.2
         ·exact⟨k+1,some (f,g),by simp_all [decide_eq_true,if_true,dW],by omega,pX hB hal hS' fun q' hq'=>by cases hq';exact c⟩
         ·exact⟨k+1,some q,by simp_all,by omega,xO hB hS' c⟩
      grind
   ·right;have:k=cs.length-(i+1):=by omega
    subst this;have e1:decide (((cs.length-(i+1):Nat):Int)<((cs.length-(i+1):Nat):Int))=false:=by simp
    simp only[e1,cond_false];refine⟨_,rfl,b',rfl,gk hB (fun j l hs=>by unfold SI at hs;omega) fun j l hs ha=>?_⟩;have q1:=ha.hj;have q2:=ha.hl
    grind [SI]) N0 ((dW cs b).1,0,(dW cs b).2.1,(dW cs b).2.2) ⟨0,b,rfl,by omega,gk hb (fun j l hs=>by unfold SI;omega) fun j l hs ha=>by
     have q3:=ha.ne;unfold SI at hs;omega⟩ (cI (by simp only;omega))
  obtain⟨b',e,hB⟩:=o2;exact⟨b',by rw[o1,e],hB⟩
 obtain⟨o,o1,o2⟩:=bq (f:=BX n (true,cs)) (fun t=>∃(i:Nat)(b:Option (Nat×Nat)),t=((dW cs b).1,(i:Int),(dW cs b).2.1,(dW cs b).2.2)/\i<=cs.length/\IsB n cs (fun j l=>j<i\/l<i) b) (fun t=>cs.length-t.2.1.toNat)
  (fun o=>∃b,o=dW cs b/\IsB n cs (fun _ _=>True) b) (fun t⟨i,b,e,hi,hB⟩=>by
  subst e;unfold BX;by_cases hil:i<cs.length
  ·left;have hci:cs[i]?=some cs[i]:=A1 hil;have e1:decide ((i:Int)<(cs.length:Int))=true:=by simp;omega
   have wi1:A5 .i64 ((i:Int)+1)=((i+1:Nat):Int):=by rw[az (by omega) (by omega)];rfl
   obtain⟨b',c1,c2⟩:=inner i cs[i] hci b hB;simp only[e1,cond_true,wi1,A6];rw[aW (by omega),A0,hci,A0,aW ⟨by omega,trivial,by omega,trivial⟩,A0,c1];simp only[A0];exact⟨_,rfl,⟨i+1,b',rfl,by omega,c2⟩,by simp only;omega⟩
  ·right;have:i=cs.length:=by omega
   subst this;have e1:decide ((cs.length:Int)<(cs.length:Int))=false:=by simp
   simp only[e1,cond_false];exact⟨_,rfl,b,rfl,gk hB (fun j l hs=>trivial) fun j l _ ha=>.inl ha.hj⟩) N0 (false,0,zc,zc) ⟨0,none,rfl,by omega,fun j l hs=>by omega⟩ (cI (by simp only;omega))
 simp_all
end Vs

namespace Vs
open Go
structure ChO(n:af)(fs:List aA)(d:aO)(c:aq):Prop where
 net:bA n=true
 rt:RtB n c.F
 vi:(gN n c.F).isSome=true
 c0:0<=c.N
 c1:c.N<=24
 fo:iI fs=true
 ra:1<=d.F/\d.F<=1000
 cn:c.N=fB fs (dq n c.F) d.F
 po:0<c.N
 st:c.F.N=d.N
 en:nC n c.F=d.L
 cl:0<=d.W/\d.W<=2
def GU(n:af)(d:aO){fs fl:List aA}{st ln:Nat}(hfs:cY fl st ln=fs)(hz:bJ n<=1048576)(hf:fs.length<=1048576):
 ∃ x y ok, OZ n fs d = some (x, y, ok) ∧ NO n st ln d fl = some (x.F, y.F, ok, fl) ∧ x.F.F.length ≤ 20 ∧ y.F.F.length ≤ 20 ∧
   (ok=true->ChO n fs d x/\ChO n fs d y/\apP n x.F.F y.F.F=true):=by
 obtain⟨ok,cs,u1,u2,u3,_⟩:=zQ n d hfs hz hf;unfold OZ NO;rw[u1,u2];simp only[A0];cases ok with
 |false=>exact⟨zc,zc,false,rfl,rfl,by simp[zc],by simp[zc],fun h=>by cases h⟩
 | true =>
   obtain⟨h,hfo,hra,hcl,hcn⟩:=u3 rfl;have hl:=h.len;obtain⟨b,i1,i2⟩:=Yb h fs;obtain⟨b',s1,s2⟩:=Nn h;obtain rfl:=MD i2 s2;simp only[B0,cond_false];have i1':aZ (BX n (true,cs)) N0 (false,0,(⟨⟨0,[]⟩,0⟩:aq),(⟨⟨0,[]⟩,0⟩:aq))=some (dW cs b):=i1;rw[i1',s1];simp only[A0];cases b with
   |none=>exact⟨zc,zc,false,rfl,rfl,by simp[zc],by simp[zc],fun h=>by cases h⟩
   | some q =>
     obtain⟨_,hal,_⟩:=i2;have h1:cs[q.1]?=some (cs[q.1]'hal.hj):=A1 _;have h2:cs[q.2]?=some (cs[q.2]'hal.hl):=A1 _;generalize cs[q.1]'hal.hj=x at h1;generalize cs[q.2]'hal.hl=y at h2;have ha:=hal.a;unfold apN at ha;rw[h1,h2] at ha;have o1:=h.ok x (A3 h1);have o2:=h.ok y (A3 h2);have m2:(cs.map (·.F))[q.1]?=some x.F:=by rw[C0,h1];rfl
     have m4:(cs.map (·.F))[q.2]?=some y.F:=by rw[C0,h2];rfl
     have b1:=hal.hj;have b2:=hal.hl;refine⟨x,y,true,?_,?_,o1.1.b.1,o2.1.b.1,fun _=>⟨⟨h.net,o1.1.b,o1.1.v,o1.2.1,o1.2.2,hfo,hra,(hcn x (A3 h1)).1,(hcn x (A3 h1)).2.1,o1.1.st,(hcn x (A3 h1)).2.2,hcl⟩,⟨h.net,o2.1.b,o2.1.v,o2.2.1,o2.2.2,hfo,hra,(hcn y (A3 h2)).1,(hcn y (A3 h2)).2.1,o2.1.st,(hcn y (A3 h2)).2.2,hcl⟩,ha⟩⟩
     ·simp only[dW,atC,h1,h2,Option.getD_some]
     ·have e1:decide ((eH cs (some q)).1<0)=false:=u9 (show¬(q.1:Int)<0 by omega);rw[e1,g8];show((grd (0<=(q.1:Int)/\(q.1:Int)<((cs.map (·.F)).length:Int))).bind fun _=>((cs.map (·.F))[B2 (q.1:Int)]?).bind fun yZ6=>(grd (0<=(q.2:Int)/\(q.2:Int)<((cs.map (·.F)).length:Int))).bind fun _=>((cs.map (·.F))[B2 (q.2:Int)]?).bind fun yZ8=>some (yZ6,yZ8,true,fl))=_;rw[aW (by rw[G9];omega),A0,A6,m2,A0,aW (by rw[G9];omega),A0,A6,m4];rfl
end Vs

namespace Vs
def Srt{α:Type}(k:α->Int)(l:List α):Prop:=l.Pairwise fun a b=>k a<=k b
def Stb{α:Type}(k:α->Int)(l r:List α):Prop:=∀v,r.filter (fun x=>decide (k x=v))=l.filter fun x=>decide (k x=v)
def Stb.refl{α:Type}(k:α->Int)(l:List α):Stb k l l:=fun _=>rfl
def Stb.trans{α:Type}{k:α->Int}{a b c:List α}(h:Stb k a b)(g:Stb k b c):Stb k a c:=fun v=>(g v).trans (h v)
def Stb.app{α:Type}{k:α->Int}{a b c d:List α}(h:Stb k a b)(g:Stb k c d):Stb k (a++c) (b++d):=fun v=>by rw[G8,G8,h v,g v]
def Stb.swap{α:Type}{k:α->Int}{u w:List α}(h:∀x∈u,∀y∈w,k y<k x):Stb k (u++w) (w++u):=fun v=>by
 rw[G8,G8];cases hu:u.filter (fun x=>decide (k x=v)) with
 |nil=>simp
 | cons a t =>
   have ha:a∈u.filter fun x=>decide (k x=v):=by rw[hu];simp
   rw[I0] at ha;have hw:w.filter (fun x=>decide (k x=v))=[]:=by
    rw[List.filter_eq_nil_iff];intro y hy e;have:=h a ha.1 y hy;simp at ha e;omega
   rw[hw];simp
def Stb.mem{α:Type}{k:α->Int}{a b:List α}(h:Stb k a b)(x:α):x∈b↔x∈a:=by
 have:=h (k x);have e:∀l:List α,x∈l↔x∈l.filter fun y=>decide (k y=k x):=fun l=>by simp[I0]
 rw[e b,e a,this]
def Srt.app{α:Type}{k:α->Int}{a b:List α}(h:Srt k a)(g:Srt k b)(m:∀x∈a,∀y∈b,k x<=k y):Srt k (a++b):=F4.2 ⟨h,g,m⟩
def Srt.app3{α:Type}{k:α->Int}{a b:List α}:Srt k (a++b)↔Srt k a/\Srt k b/\∀x∈a,∀y∈b,k x<=k y:=F4
def RN{α:Type}{k:α->Int}{l t:List α}{x:α}(h:Stb k l (x::t))(s:Srt k (x::t)):∃a b,l=a++x::b/\(∀y∈a,k x<k y)/\∀y∈b,k x<=k y:=by
 have hx:=h (k x);have hall:∀y∈l,k x<=k y:=fun y hy=>by
  have:=(h.mem y).2 hy;rcases C9.1 this with e|e
  ·rw[e];exact K6 _
  ·exact(G0.1 s).1 y e
 rw[L5 (by simp)] at hx;have hm:x∈l:=(h.mem x).1 (by simp);clear h s;induction l with
 |nil=>cases hm
 | cons z l ih =>
   by_cases e:k z=k x
   ·rw[L5 (by simpa using e)] at hx;injection hx with e1 e2;subst e1;exact⟨[],l,rfl,(fun y hy=>nomatch hy),fun y hy=>hall y (C9.2 (.inr hy))⟩
   ·rw[List.filter_cons_of_neg (by simpa using e)] at hx;have hz:=hall z (by simp);have hm2:x∈l:=by
     rcases C9.1 hm with e2|e2
     ·exact absurd (by rw[e2]) e
     ·exact e2
    obtain⟨a,b,e1,e2,e3⟩:=ih hx (fun y hy=>hall y (by simp[hy])) hm2;refine⟨z::a,b,by rw[e1];rfl,fun y hy=>?_,e3⟩;rcases C9.1 hy with e4|e4
    ·rw[e4];omega
    ·exact e2 y e4
end Vs

namespace Vs
open Go
def GC(c:aq):Prop:=0<=c.N/\c.N<=24/\c.F.F.length<=20
def CK{c:aq}(h:GC c):0<=cst c/\cst c<=480:=by
 obtain⟨h1,h2,h3⟩:=h;unfold cst;refine⟨N2 h1 (by omega),?_⟩;have:=N3 h2 (show(c.F.F.length:Int)<=20 by omega) (by omega) (by omega);omega
def XF{a b:aq}(ha:GC a)(hb:GC b):∃v,zn a b=some v/\decide (v<0)=decide (cst a<cst b):=by
 have h1:=CK ha;have h2:=CK hb;have e1:M_f a=some (cst a):=by unfold M_f;rw[show a.N*(a.F.F.length:Int)=cst a from rfl,az (by omega) (by omega)]
 have e2:M_f b=some (cst b):=by unfold M_f;rw[show b.N*(b.F.F.length:Int)=cst b from rfl,az (by omega) (by omega)]
 unfold zn;rw[e1,e2];simp only[A0];unfold lE Jv;rcases Int.lt_trichotomy (cst a) (cst b) with h|h|h
 ·exact⟨-1,by simp[h],by simp[h]⟩
 ·exact⟨0,by simp[h],by simp[h]⟩
 ·exact⟨1,by simp[h,show¬cst a<cst b by omega],by simp[show¬cst a<cst b by omega]⟩
theorem mJ(i j:Nat)(h:i+j<1000000):A5 .i64 (G5 (A5 .u64 (A5 .i64 ((i:Int)+(j:Int)))) (2^(min (B2 1) (B1 .u64))))=(((i+j)/2:Nat):Int):=by
 rw[az (n:=(i:Int)+j) (by omega) (by omega),lf (by omega) (by omega)];have e:(2:Int)^(min (B2 1) (B1 .u64))=2:=by decide
 rw[e,H8 _ (by omega),show((i:Int)+j)/2=(((i+j)/2:Nat):Int) by omega,az (by omega) (by omega)]
def bsr{f:Int×Int->Option ((Int×Int)⊕Int)}(P:Nat->Bool)(i0 j0:Nat)(h0:i0<=j0)(hb:j0<=1000)
 (h1:∀i j:Nat,i0<=i->i<j->j<=j0->f ((i:Int),(j:Int))=some (.inl (cond (P ((i+j)/2)) ((((i+j)/2+1:Nat):Int),(j:Int)) ((i:Int),(((i+j)/2:Nat):Int)))))
 (h2:∀i:Nat,f ((i:Int),(i:Int))=some (.inr (i:Int))):
 ∃o:Nat,aZ f N0 ((i0:Int),(j0:Int))=some (o:Int)/\i0<=o/\o<=j0/\(i0<o->P (o-1)=true)/\(o<j0->P o=false):=by
 obtain⟨b,e,o,rfl,h⟩:=bq (f:=f) (fun s=>∃i j:Nat,s=((i:Int),(j:Int))/\i0<=i/\i<=j/\j<=j0/\(i0<i->P (i-1)=true)/\(j<j0->P j=false)) (fun s=>(s.2-s.1).toNat) (fun b=>∃o:Nat,b=(o:Int)/\i0<=o/\o<=j0/\(i0<o->P (o-1)=true)/\(o<j0->P o=false)) (fun s⟨i,j,e,a1,a2,a3,a4,a5⟩=>by
  subst e;by_cases hij:i<j
  ·left;rw[h1 i j a1 hij a3];have q1:i<=(i+j)/2:=by omega
   have q2:(i+j)/2<j:=by omega
   generalize (i+j)/2=m at q1 q2;cases hp:P m with
   |true=>exact⟨_,rfl,⟨m+1,j,rfl,by omega,by omega,a3,fun _=>by simpa using hp,a5⟩,by simp only[cond_true];omega⟩
   |false=>exact⟨_,rfl,⟨i,m,rfl,a1,by omega,by omega,a4,fun _=>hp⟩,by simp only[cond_false];omega⟩
  ·right;obtain rfl:i=j:=by omega
   exact⟨_,h2 i,i,rfl,a1,a3,a4,a5⟩) N0 ((i0:Int),(j0:Int)) ⟨i0,j0,rfl,F0 _,h0,F0 _,fun h=>by omega,fun h=>by omega⟩ (cI (by show((j0:Int)-(i0:Int)).toNat<_;omega))
 exact⟨o,e,h⟩
def gr{α:Type}(A:List α)(x:α)(B:List α){k:Nat}(h:k=A.length):(A++x::B)[k]?=some x:=by subst h;simp
def kY{α:Type}(A:List α)(x y:α)(B:List α){k:Nat}(h:k=A.length):(A++x::B).set k y=A++y::B:=by subst h;simp
end Vs

namespace Vs
open Go
theorem dI(k:Nat)(h:k<1000000):A5 .i64 ((k:Int)+1)=((k+1:Nat):Int):=by rw[az (by omega) (by omega)];omega
def qB(k:Nat)(h:k<1000000)(h1:1<=k):A5 .i64 ((k:Int)-1)=((k-1:Nat):Int):=by rw[az (by omega) (by omega)];omega
def XT{β:Type}(P:List aq)(x y:aq)(Q:List aq)(N k:Nat)(hk:k=P.length)(hN:k+1<N)(hl:N<=1000)(c:List aq->Option β):
 ((grd (0<=(A5 .i64 ((k:Int)+1))/\(A5 .i64 ((k:Int)+1))<(N:Int))).bind fun _=>((P++x::y::Q)[(0+(B2 (A5 .i64 ((k:Int)+1))))]?).bind fun yZ14=>(grd (0<=(k:Int)/\(k:Int)<(N:Int))).bind fun _=>((P++x::y::Q)[(0+(B2 (k:Int)))]?).bind fun yZ16=>bnd ((P++x::y::Q).set (0+(B2 (k:Int))) yZ14) fun lZ17=>(lZ17[(0+(B2 (A5 .i64 ((k:Int)+1))))]?).bind fun _=>bnd (lZ17.set (0+(B2 (A5 .i64 ((k:Int)+1)))) yZ16) c)=c (P++y::x::Q):=by
 rw[dI k (by omega),aW (by omega),aW (by omega)];simp only[A0,A6,D0,bnd];have e1:(P++x::y::Q)[k+1]?=some y:=by rw[show P++x::y::Q=(P++[x])++y::Q by simp];exact gr _ _ _ (by simp[hk])
 have e2:(P++x::y::Q)[k]?=some x:=gr _ _ _ hk;have e3:(P++y::y::Q)[k+1]?=some y:=by rw[show P++y::y::Q=(P++[y])++y::Q by simp];exact gr _ _ _ (by simp[hk])
 rw[e1,A0,e2,A0,kY P x y (y::Q) hk,e3,A0,show P++y::y::Q=(P++[y])++y::Q by simp,kY (P++[y]) y x Q (by simp[hk])];simp
def EJ{β:Type}(P:List aq)(x y:aq)(Q:List aq)(N k:Nat)(hk:k=P.length+1)(hN:k<N)(hl:N<=1000)(c:List aq->Option β):
 ((grd (0<=(A5 .i64 ((k:Int)-1))/\(A5 .i64 ((k:Int)-1))<(N:Int))).bind fun _=>((P++x::y::Q)[(0+(B2 (A5 .i64 ((k:Int)-1))))]?).bind fun yZ14=>(grd (0<=(k:Int)/\(k:Int)<(N:Int))).bind fun _=>((P++x::y::Q)[(0+(B2 (k:Int)))]?).bind fun yZ16=>bnd ((P++x::y::Q).set (0+(B2 (k:Int))) yZ14) fun lZ17=>(lZ17[(0+(B2 (A5 .i64 ((k:Int)-1))))]?).bind fun _=>bnd (lZ17.set (0+(B2 (A5 .i64 ((k:Int)-1)))) yZ16) c)=c (P++y::x::Q):=by
 rw[qB k (by omega) (by omega),aW (by omega),aW (by omega)];simp only[A0,A6,D0,bnd];have e1:(P++x::y::Q)[k]?=some y:=by rw[show P++x::y::Q=(P++[x])++y::Q by simp];exact gr _ _ _ (by simp[hk])
 have e2:(P++x::y::Q)[k-1]?=some x:=gr _ _ _ (by omega);have e3:(P++x::x::Q)[k-1]?=some x:=gr _ _ _ (by omega);rw[e2,A0,e1,A0,show P++x::y::Q=(P++[x])++y::Q by simp,kY (P++[x]) y x Q (by simp[hk]),show(P++[x])++x::Q=P++x::x::Q by simp,e3,A0,kY P x y (x::Q) (by omega)]
def p_up(A U B:List aq)(x:aq){N:Nat}(hN:N=A.length+U.length+1+B.length)(hl:N<=1000){o:Int}(ho:o=((A.length+U.length+1:Nat):Int)):
 aZ (JU 0 N o) N0 ((A.length:Int),A++x::(U++B))=some (A++U++x::B):=by
 obtain⟨b,e,rfl⟩:=bq (f:=JU 0 N o) (fun s=>∃U1 U2,U=U1++U2/\s=(((A.length+U1.length:Nat):Int),A++U1++x::(U2++B))) (fun s=>(o-s.1).toNat) (fun b=>b=A++U++x::B) (fun s⟨U1,U2,e1,e2⟩=>by
  subst e1 e2;rw[A7] at hN ho;unfold JU;dsimp only;have hw:A5 .i64 (o-1)=((A.length+U1.length+U2.length:Nat):Int):=by rw[az (by omega) (by omega)];omega
  cases U2 with
  | nil =>
    right;rw[hw,u9 (by simp only[B9];omega),g8];exact⟨_,rfl,by simp⟩
  | cons y U2 =>
    left;rw[B4] at hN ho hw;rw[hw,g7 (by omega),g9,I9,XT (A++U1) x y (U2++B) N (A.length+U1.length) (by simp) (by omega) hl,dI _ (by omega)];exact⟨_,rfl,⟨U1++[y],U2,by simp,by simp[P6]⟩,by simp only;omega⟩) N0 ((A.length:Int),A++x::(U++B)) ⟨[],U,rfl,by simp⟩ (cI (by simp only;omega))
 exact e
def p_dn(A U B:List aq)(x:aq){N:Nat}(hN:N=A.length+U.length+1+B.length)(hl:N<=1000):
 aZ (IH 0 N (A.length:Int)) N0 (((A.length+U.length:Nat):Int),A++U++x::B)=some (A++x::(U++B)):=by
 obtain⟨b,e,rfl⟩:=bq (f:=IH 0 N (A.length:Int)) (fun s=>∃U1 U2,U=U1++U2/\s=(((A.length+U1.length:Nat):Int),A++U1++x::(U2++B))) (fun s=>s.1.toNat) (fun b=>b=A++x::(U++B)) (fun s⟨U1,U2,e1,e2⟩=>by
  subst e1 e2;rw[A7] at hN;unfold IH;dsimp only;rcases M4 U1 with e|⟨V,y,e⟩
  ·subst e;right;rw[u9 (by simp only[B9];omega),g8];exact⟨_,rfl,by simp⟩
  ·subst e;left;simp only[M5,A7,B4,B9] at hN⊢;rw[g7 (by omega),g9,show A++(V++[y])++x::(U2++B)=(A++V)++y::x::(U2++B) by simp,EJ (A++V) y x (U2++B) N (A.length+(V.length+(0+1))) (by simp;omega) (by omega) hl,qB _ (by omega) (by omega)];refine⟨_,rfl,⟨V,y::U2,by simp,?_⟩,by simp only;omega⟩;rw[show A.length+(V.length+(0+1))-1=A.length+V.length by omega];simp) N0 (((A.length+U.length:Nat):Int),A++U++x::B) ⟨U,[],by simp,by simp⟩ (cI (by simp only;omega))
 exact e
theorem YW:∀(X Y A C B:List aq){N:Nat}(i:Nat){a b n:Int},X.length=Y.length->N=A.length+X.length+C.length+Y.length+B.length->N<=1000->a+i=(A.length:Int)->b+i=((A.length+X.length+C.length:Nat):Int)->n=((i+X.length:Nat):Int)->0<=a->0<=b->∀(f:Nat),X.length<f->
 aZ (yO 0 N a b n) f ((i:Int),A++X++C++Y++B)=some (A++Y++C++X++B)
 | [], [], A, C, B, N, i, a, b, n, _, hN, hl, ha, hb, hn, _, _, f, hf => by
   obtain⟨f,rfl⟩:∃g,f=g+1:=⟨f-1,by simp only[B9] at hf;omega⟩;have:yO 0 N a b n ((i:Int),A++[]++C++[]++B)=some (.inr (A++[]++C++[]++B)):=by
    unfold yO;rw[u9 (by simp only[B9] at hn;dsimp only;omega),g8]
   rw[aZ,this]
 |[],y::Y,_,_,_,_,_,_,_,_,h,_,_,_,_,_,_,_,_,_=>by simp at h
 |x::X,[],_,_,_,_,_,_,_,_,h,_,_,_,_,_,_,_,_,_=>by simp at h
 | x :: X, y :: Y, A, C, B, N, i, a, b, n, h, hN, hl, ha, hb, hn, h0, h1, f, hf => by
   obtain⟨f,rfl⟩:∃g,f=g+1:=⟨f-1,by simp only[B4] at hf;omega⟩;simp only[B4] at h hN hb hn hf;have ih:=YW X Y (A++[y]) (C++[x]) B (N:=N) (i+1) (a:=a) (b:=b) (n:=n) (by omega) (by simp;omega) hl (by simp;omega) (by simp;omega) (by omega) h0 h1 f (by omega);have wa:A5 .i64 (a+(i:Int))=(A.length:Int):=by rw[az (by omega) (by omega)];exact ha
   have wb:A5 .i64 (b+(i:Int))=((A.length+(X.length+1)+C.length:Nat):Int):=by rw[az (by omega) (by omega)];exact hb
   have e1:(A++x::X++C++y::Y++B)[A.length]?=some x:=by rw[show A++x::X++C++y::Y++B=A++x::(X++C++y::Y++B) by simp];exact gr _ _ _ rfl
   have e2:(A++x::X++C++y::Y++B)[A.length+(X.length+1)+C.length]?=some y:=by rw[show A++x::X++C++y::Y++B=(A++x::X++C)++y::(Y++B) by simp];exact gr _ _ _ (by simp;omega)
   have e3:(A++x::X++C++y::Y++B).set A.length y=(A++y::X++C)++y::(Y++B):=by rw[show A++x::X++C++y::Y++B=A++x::(X++C++y::Y++B) by simp,kY _ _ _ _ rfl];simp
   have hp:A.length+(X.length+1)+C.length=(A++y::X++C).length:=by simp;omega
   have:yO 0 N a b n ((i:Int),A++x::X++C++y::Y++B)=some (.inl (((i+1:Nat):Int),A++[y]++X++(C++[x])++Y++B)):=by
    unfold yO;dsimp only;rw[g7 (by omega),g9,wa,wb,aW (by omega),aW (by omega),dI i (by omega)];simp only[A0,A6,D0,bnd];rw[e2,A0,e1,A0,e3,gr _ _ _ hp,A0,kY _ _ _ _ hp];simp
   rw[aZ,this];simp only;rw[ih];simp
end Vs

namespace Vs
open Go
def Dk(X Y A C B:List aq){N:Nat}{a b n:Int}(h:X.length=Y.length)(hN:N=A.length+X.length+C.length+Y.length+B.length)(hl:N<=1000)(ha:a=(A.length:Int))(hb:b=((A.length+X.length+C.length:Nat):Int))(hn:n=(X.length:Int)):
 Ca 0 N a b n (A++X++C++Y++B)=some (A++Y++C++X++B):=by
 unfold Ca;have:=YW X Y A C B (N:=N) 0 (a:=a) (b:=b) (n:=n) h hN hl (by omega) (by omega) (by omega) (by omega) (by omega) N0 (cI (by omega));rw[show((0:Nat):Int)=0 from rfl] at this;rw[this];rfl
def dG{α:Type}(l:List α)(k:Nat)(h:k<=l.length):∃P Q,l=P++Q/\P.length=k:=⟨l.take k,l.drop k,(I8 k l).symm,by simp;omega⟩
def ajr(A U V B:List aq){N:Nat}{a m b:Int}(hU:U≠[])(hV:V≠[])(hN:N=A.length+U.length+V.length+B.length)(hl:N<=1000)(ha:a=(A.length:Int))(hm:m=((A.length+U.length:Nat):Int))(hb:b=((A.length+U.length+V.length:Nat):Int)):
 AZ 0 N a m b (A++U++V++B)=some (A++V++U++B):=by
 unfold AZ;have w1:A5 .i64 (m-a)=(U.length:Int):=by rw[az (by omega) (by omega)];omega
 have w2:A5 .i64 (b-m)=(V.length:Int):=by rw[az (by omega) (by omega)];omega
 have pl:∀l:List aq,l≠[]->0<l.length:=fun l h=>B8.2 h;obtain⟨o,e,A',U',V',B',q1,q2,q3,q4,q5⟩:=bq (f:=SV 0 N m) (fun s=>∃A' U' V' B':List aq,s=((U'.length:Int),(V'.length:Int),A'++U'++V'++B')/\0<U'.length/\0<V'.length/\m=((A'.length+U'.length:Nat):Int)/\N=A'.length+U'.length+V'.length+B'.length/\A'++V'++U'++B'=A++V++U++B) (fun s=>s.1.toNat+s.2.1.toNat) (fun b=>∃A' U' V' B':List aq,b=((U'.length:Int),A'++U'++V'++B')/\U'.length=V'.length/\m=((A'.length+U'.length:Nat):Int)/\N=A'.length+U'.length+V'.length+B'.length/\A'++V'++U'++B'=A++V++U++B) (fun s⟨A',U',V',B',q0,q1,q2,q3,q4,q5⟩=>by
  subst q0;unfold SV;dsimp only;rcases H6 U'.length V'.length with h|h|h
  ·left;obtain⟨P,Q,e1,e2⟩:=dG V' (V'.length-U'.length) (by omega);subst e1;rw[A7] at e2 h q2 q4;rw[A7,show((U'.length:Int) !=((P.length+Q.length:Nat):Int))=true by simp;omega,g9,u9 (by omega),g8,az (n:=m-_) (by omega) (by omega),az (n:=m+_) (by omega) (by omega),az (by omega) (by omega),az (by omega) (by omega),
    show A'++U'++(P++Q)++B'=A'++U'++P++Q++B' by simp,Dk U' Q A' P B' (by omega) (by omega) hl (by omega) (by omega) rfl,A0]
   exact⟨_,rfl,⟨A',Q,P,U'++B',by simp only[B3,Prod.mk.injEq,and_true];omega,by omega,by omega,by omega,by simp;omega,by rw[<-q5];simp⟩,by simp only;omega⟩
  ·right;rw[show((U'.length:Int) !=(V'.length:Int))=false by simp;omega,g8];exact⟨_,rfl,A',U',V',B',rfl,h,q3,q4,q5⟩
  ·left;obtain⟨P,Q,e1,e2⟩:=dG U' V'.length (by omega);subst e1;rw[A7] at h q1 q3 q4;rw[A7,show(((P.length+Q.length:Nat):Int) !=(V'.length:Int))=true by simp;omega,g9,g7 (by omega),g9,az (n:=m-_) (by omega) (by omega),az (by omega) (by omega),
    show A'++(P++Q)++V'++B'=A'++P++Q++V'++B' by simp,Dk P V' A' Q B' e2 (by omega) hl (by omega) (by omega) (by omega),A0]
   exact⟨_,rfl,⟨A'++V',Q,P,B',by simp only[B3,Prod.mk.injEq,and_true];omega,by omega,by omega,by simp;omega,by simp;omega,by rw[<-q5];simp⟩,by simp only;omega⟩) N0 ((U.length:Int),(V.length:Int),A++U++V++B) ⟨A,U,V,B,rfl,pl U hU,pl V hV,hm,hN,rfl⟩ (cI (by simp only;omega))
 subst q1;rw[w1,w2,e,A0];dsimp only;rw[az (by omega) (by omega),show A'++U'++V'++B'=A'++U'++[]++V'++B' by simp,Dk U' V' A' [] B' q2 (by simp;omega) hl (by omega) (by simp;omega) rfl,<-q5];simp
end Vs

namespace Vs
open Go
def kd(D:List aq)(h:Nat):Int:=match D[h]? with|some y=>cst y|none=>0
def xE{D:List aq}{h:Nat}{y:aq}(e:D[h]?=some y):kd D h=cst y:=by unfold kd;rw[e]
def uQ{D:List aq}(hD:∀x∈D,GC x){i:Nat}(h:i<D.length):∃y,D[i]?=some y/\GC y/\kd D i=cst y:=by
 have e:D[i]?=some D[i]:=A1 h;exact⟨_,e,hD _ (A3 e),xE e⟩
theorem b1{D:List aq}(hD:∀x∈D,GC x){N:Nat}(hN:N=D.length)(hl:N<=1000)(a m b:Nat)(ha:a<N)(hm:m<=b)(hb:b<=N):
 ∃o:Nat,aZ (M_v 0 N (a:Int) D) N0 ((m:Int),(b:Int))=some (o:Int)/\m<=o/\o<=b/\(m<o->kd D (o-1)<kd D a)/\(o<b->kd D a<=kd D o):=by
 obtain⟨o,e,h1,h2,h3,h4⟩:=bsr (f:=M_v 0 N (a:Int) D) (fun h=>decide (kd D h<kd D a)) m b hm (by omega) (fun i j q1 q2 q3=>by
  unfold M_v;dsimp only;rw[g7 (by omega),g9,mJ i j (by omega)];have r1:(i+j)/2<N:=by omega
  generalize (i+j)/2=h at r1;obtain⟨y,y1,y2,y3⟩:=uQ hD (i:=h) (by omega);obtain⟨x,x1,x2,x3⟩:=uQ hD (i:=a) (by omega);obtain⟨v,v1,v2⟩:=XF y2 x2;rw[aW (by omega),aW (by omega)];simp only[A0,A6,D0];rw[y1,A0,x1,A0,v1,A0,v2,<-y3,<-x3,dI h (by omega)];cases decide (kd D h<kd D a)<;>rfl) (fun i=>by
  unfold M_v;rw[u9 (by dsimp only;omega),g8])
 exact⟨o,e,h1,h2,fun h=>by simpa using h3 h,fun h=>by simpa using h4 h⟩
def b3{D:List aq}(hD:∀x∈D,GC x){N:Nat}(hN:N=D.length)(hl:N<=1000)(a m:Nat)(ha:a<=m)(hm:m<N):
 ∃o:Nat,aZ (M_w 0 N (m:Int) D) N0 ((a:Int),(m:Int))=some (o:Int)/\a<=o/\o<=m/\(a<o->kd D (o-1)<=kd D m)/\(o<m->kd D m<kd D o):=by
 obtain⟨o,e,h1,h2,h3,h4⟩:=bsr (f:=M_w 0 N (m:Int) D) (fun h=>!decide (kd D m<kd D h)) a m ha (by omega) (fun i j q1 q2 q3=>by
  unfold M_w;dsimp only;rw[g7 (by omega),g9,mJ i j (by omega)];have r1:(i+j)/2<N:=by omega
  generalize (i+j)/2=h at r1;obtain⟨y,y1,y2,y3⟩:=uQ hD (i:=h) (by omega);obtain⟨x,x1,x2,x3⟩:=uQ hD (i:=m) (by omega);obtain⟨v,v1,v2⟩:=XF x2 y2;rw[aW (by omega),aW (by omega)];simp only[A0,A6,D0];rw[x1,A0,y1,A0,v1,A0,v2,<-y3,<-x3,dI h (by omega)];cases decide (kd D m<kd D h)<;>rfl) (fun i=>by
  unfold M_w;rw[u9 (by dsimp only;omega),g8])
 exact⟨o,e,h1,h2,fun h=>by simpa using h3 h,fun h=>by simpa using h4 h⟩
def b5{D:List aq}(hD:∀x∈D,GC x){N:Nat}(hN:N=D.length)(hl:N<=1000)(a m b s r p:Nat)(hab:a+b<10000)(hp:p+1=(a+b)/2+m)(hs:s<=r)(hr:r<=N)(hc:∀c,s<=c->c<r->c<=p/\p<N+c):
 ∃o:Nat,aZ (M_x 0 N (a:Int) (m:Int) (b:Int) D) N0 ((s:Int),(r:Int))=some (o:Int)/\s<=o/\o<=r/\(s<o->kd D (o-1)<=kd D (p-(o-1)))/\(o<r->kd D (p-o)<kd D o):=by
 obtain⟨o,e,h1,h2,h3,h4⟩:=bsr (f:=M_x 0 N (a:Int) (m:Int) (b:Int) D) (fun h=>!decide (kd D (p-h)<kd D h)) s r hs (by omega) (fun i j q1 q2 q3=>by
  unfold M_x;dsimp only;rw[g7 (by omega),g9,mJ i j (by omega),mJ a b (by omega)];have r1:s<=(i+j)/2:=by omega
  have r2:(i+j)/2<r:=by omega
  generalize (i+j)/2=h at r1 r2;obtain⟨c1,c2⟩:=hc h r1 r2;have hmm:m<=p+1:=by omega
  have w:A5 .i64 (A5 .i64 (A5 .i64 ((((a+b)/2:Nat):Int)+(m:Int))-1)-(h:Int))=((p-h:Nat):Int):=by
   rw[az (n:=(((a+b)/2:Nat):Int)+(m:Int)) (by omega) (by omega),az (n:=(((a+b)/2:Nat):Int)+(m:Int)-1) (by omega) (by omega),az (by omega) (by omega)];omega
  rw[w];obtain⟨y,y1,y2,y3⟩:=uQ hD (i:=h) (by omega);obtain⟨x,x1,x2,x3⟩:=uQ hD (i:=p-h) (by omega);obtain⟨v,v1,v2⟩:=XF x2 y2;rw[aW (by omega),aW (by omega)];simp only[A0,A6,D0];rw[x1,A0,y1,A0,v1,A0,v2,<-y3,<-x3,dI h (by omega)];cases decide (kd D (p-h)<kd D h)<;>rfl) (fun i=>by
  unfold M_x;rw[u9 (by dsimp only;omega),g8])
 exact⟨o,e,h1,h2,fun h=>by simpa using h3 h,fun h=>by simpa using h4 h⟩
def Dv{l:List aq}(h:Srt cst l){i j:Nat}(hij:i<=j){x y:aq}(hx:l[i]?=some x)(hy:l[j]?=some y):cst x<=cst y:=by
 rcases Nat.lt_or_eq_of_le hij with h1|h1
 ·obtain⟨a1,a2⟩:=A2.1 hx;obtain⟨b1,b2⟩:=A2.1 hy;have:=B6.1 h i j a1 b1 h1;rw[a2,b2] at this;exact this
 ·subst h1;rw[hx] at hy;cases hy;exact K6 _
def vu{A L1 L2 T:List aq}(h:Srt cst (L1++L2)){x:aq}(hx:x∈L1):cst x<=kd (A++(L1++L2)++T) (A.length+L1.length-1):=by
 obtain⟨i,hi⟩:=B5 hx;have hil:=(A2.1 hi).1;have e1:(L1++L2)[i]?=some x:=by rw[F8 hil];exact hi
 have e2:(L1++L2)[L1.length-1]?=some (L1[L1.length-1]'(by omega)):=by rw[F8 (by omega)];exact A1 _
 have e3:(A++(L1++L2)++T)[A.length+L1.length-1]?=some (L1[L1.length-1]'(by omega)):=by
  rw[B3,show A.length+L1.length-1=A.length+(L1.length-1) by omega,F7 (by omega),show A.length+(L1.length-1)-A.length=L1.length-1 by omega,F8 (by simp;omega)];exact e2
 rw[xE e3];exact Dv h (by omega) e1 e2
def wq{A L1 L2 T:List aq}(h:Srt cst (L1++L2)){x:aq}(hx:x∈L2):kd (A++(L1++L2)++T) (A.length+L1.length)<=cst x:=by
 obtain⟨i,hi⟩:=B5 hx;have hil:=(A2.1 hi).1;have e1:(L1++L2)[L1.length+i]?=some x:=by rw[F7 (by omega),show L1.length+i-L1.length=i by omega];exact hi
 have e2:(L1++L2)[L1.length]?=some (L2[0]'(by omega)):=by rw[F7 (by omega),Nat.sub_self];exact A1 _
 have e3:(A++(L1++L2)++T)[A.length+L1.length]?=some (L2[0]'(by omega)):=by
  rw[B3,F7 (by omega),show A.length+L1.length-A.length=L1.length by omega,F8 (by simp;omega)];exact e2
 rw[xE e3];exact Dv h (by omega) e2 e1
end Vs

namespace Vs
open Go
def eC{α β:Type}{o:Option α}{v:α}{k:α->Option β}{r:Option β}(h:o=some v)(g:k v=r):o.bind k=r:=by rw[h];exact g
def CM{β:Type}(p q:Prop)[Decidable p][Decidable q](X Y:Option β){r:Option β}(h1:p->q->X=r)(h2:¬(p/\q)->Y=r):((cond (decide p) (some (decide q)) (some false):Option Bool).bind fun o=>cond o X Y)=r:=by
 by_cases hp:p
 ·by_cases hq:q
  ·rw[g7 hp,g7 hq];exact h1 hp hq
  ·rw[g7 hp,u9 hq];exact h2 fun h=>hq h.2
 ·rw[u9 hp];exact h2 fun h=>hp h.1
def ze{W fuel N:Nat}(ih:∀A L R B:List aq,L.length+R.length<=W->L≠[]->R≠[]->Srt cst L->Srt cst R->(∀x∈A++L++R++B,GC x)->N=(A++L++R++B).length->
 ∃S,M_j fuel 0 N (A.length:Int) ((A.length+L.length:Nat):Int) ((A.length+L.length+R.length:Nat):Int) (A++L++R++B)=some (A++S++B)/\Srt cst S/\Stb cst (L++R) S/\S.length=L.length+R.length)
 (A L R B:List aq) (h:L.length+R.length<=W) (sL:Srt cst L) (sR:Srt cst R) (hG:∀x∈A++L++R++B,GC x) (hN:N=(A++L++R++B).length):
 ∃S,(L≠[]->R≠[]->M_j fuel 0 N (A.length:Int) ((A.length+L.length:Nat):Int) ((A.length+L.length+R.length:Nat):Int) (A++L++R++B)=some (A++S++B))/\(L=[]\/R=[]->S=L++R)/\Srt cst S/\Stb cst (L++R) S/\S.length=L.length+R.length:=by
 by_cases d1:L=[]
 ·subst d1;exact⟨R,fun h=>absurd rfl h,fun _=>rfl,sR,Stb.refl _ _,by simp⟩
 ·by_cases d2:R=[]
  ·subst d2;exact⟨L,fun _ h=>absurd rfl h,fun _=>by simp,sL,by simpa using Stb.refl cst L,by simp⟩
  ·obtain⟨S,j1,j2,j3,j4⟩:=ih A L R B h d1 d2 sL sR hG hN;exact⟨S,fun _ _=>j1,fun h=>by rcases h with h|h<;>contradiction,j2,j3,j4⟩
def Dd{α:Type}{l r:List α}(h:l.length=0\/r.length=0):l=[]\/r=[]:=h.imp D6.1 D6.1
def MS{N fuel:Nat}{aI oI midI mI eI bI:Int}(A L1 L2 R1 R2 S1 S2 B:List aq)(hl:N<=1000)(hN:N=A.length+L1.length+L2.length+R1.length+R2.length+B.length)
 (ha:aI=(A.length:Int)) (ho:oI=((A.length+L1.length:Nat):Int)) (hm:mI=((A.length+L1.length+L2.length:Nat):Int)) (hd:midI=((A.length+L1.length+R1.length:Nat):Int)) (he:eI=((A.length+L1.length+L2.length+R1.length:Nat):Int)) (hb:bI=((A.length+L1.length+L2.length+R1.length+R2.length:Nat):Int))
 (k1:L1≠[]->R1≠[]->M_j fuel 0 N (A.length:Int) ((A.length+L1.length:Nat):Int) ((A.length+L1.length+R1.length:Nat):Int) (A++L1++R1++(L2++R2++B))=some (A++S1++(L2++R2++B))) (k2:L1=[]\/R1=[]->S1=L1++R1) (k5:S1.length=L1.length+R1.length)
 (l1:L2≠[]->R2≠[]->M_j fuel 0 N ((A++S1).length:Int) (((A++S1).length+L2.length:Nat):Int) (((A++S1).length+L2.length+R2.length:Nat):Int) (A++S1++L2++R2++B)=some (A++S1++S2++B)) (l2:L2=[]\/R2=[]->S2=L2++R2):
 (((cond (decide (oI<mI)) (some (decide (mI<eI))) (some false):Option Bool).bind fun oZ57=>cond oZ57 ((AZ 0 N oI mI eI (A++(L1++L2)++(R1++R2)++B)).bind fun rZ59=>some rZ59) (some (A++(L1++L2)++(R1++R2)++B)):Option (List aq)).bind fun oZ60=>((cond (decide (aI<oI)) (some (decide (oI<midI))) (some false):Option Bool).bind fun oZ62=>cond oZ62 ((M_j fuel 0 N aI oI midI oZ60).bind fun rZ64=>some rZ64) (some oZ60):Option (List aq)).bind fun oZ65=>(cond (decide (midI<eI)) (some (decide (eI<bI))) (some false):Option Bool).bind fun oZ67=>cond oZ67 ((M_j fuel 0 N midI eI bI oZ65).bind fun rZ69=>some rZ69) (some oZ65))=some (A++(S1++S2)++B):=by
 refine eC (v:=A++L1++R1++(L2++R2++B)) (CM _ _ _ _ (fun h1 h2=>?_) fun h=>?_) (eC (v:=A++S1++(L2++R2++B)) (CM _ _ _ _ (fun h1 h2=>?_) fun h=>?_) (CM _ _ _ _ (fun h1 h2=>?_) fun h=>?_))
 ·have p1:L2≠[]:=B8.1 (by omega);have p2:R1≠[]:=B8.1 (by omega);rw[show A++(L1++L2)++(R1++R2)++B=(A++L1)++L2++R1++(R2++B) by simp,ajr (A++L1) L2 R1 (R2++B) p1 p2 (by simp;omega) hl (by simp;omega) (by simp;omega) (by simp;omega)];simp
 ·have:L2=[]\/R1=[]:=Dd (by omega);rcases this with h|h<;>subst h<;>simp
 ·subst ha ho hd;rw[k1 (B8.1 (by omega)) (B8.1 (by omega))];rfl
 ·have:L1=[]\/R1=[]:=Dd (by omega);rw[k2 this];simp
 ·have:=l1 (B8.1 (by omega)) (B8.1 (by omega));rw[show((A++S1).length:Int)=midI by simp;omega,show(((A++S1).length+L2.length:Nat):Int)=eI by simp;omega,show(((A++S1).length+L2.length+R2.length:Nat):Int)=bI by simp;omega] at this;rw[show A++S1++(L2++R2++B)=A++S1++L2++R2++B by simp,this];simp
 ·have:L2=[]\/R2=[]:=Dd (by omega);rw[l2 this];simp
def Wa{W fuel N:Nat}{aI oI midI mI eI bI:Int}(ih:∀A L R B:List aq,L.length+R.length<=W->L≠[]->R≠[]->Srt cst L->Srt cst R->(∀x∈A++L++R++B,GC x)->N=(A++L++R++B).length->
 ∃S,M_j fuel 0 N (A.length:Int) ((A.length+L.length:Nat):Int) ((A.length+L.length+R.length:Nat):Int) (A++L++R++B)=some (A++S++B)/\Srt cst S/\Stb cst (L++R) S/\S.length=L.length+R.length)
 (A L1 L2 R1 R2 B:List aq) (hl:N<=1000) (hN:N=A.length+L1.length+L2.length+R1.length+R2.length+B.length) (hW1:L1.length+R1.length<=W) (hW2:L2.length+R2.length<=W) (sL:Srt cst (L1++L2)) (sR:Srt cst (R1++R2)) (hG:∀x∈A++(L1++L2)++(R1++R2)++B,GC x)
 (F1:∀u∈L2,∀w∈R1,cst w<cst u) (F2:∀x∈L1,∀z∈R2,cst x<=cst z)
 (ha:aI=(A.length:Int)) (ho:oI=((A.length+L1.length:Nat):Int)) (hm:mI=((A.length+L1.length+L2.length:Nat):Int)) (hd:midI=((A.length+L1.length+R1.length:Nat):Int)) (he:eI=((A.length+L1.length+L2.length+R1.length:Nat):Int)) (hb:bI=((A.length+L1.length+L2.length+R1.length+R2.length:Nat):Int)):
 ∃S,(((cond (decide (oI<mI)) (some (decide (mI<eI))) (some false):Option Bool).bind fun oZ57=>cond oZ57 ((AZ 0 N oI mI eI (A++(L1++L2)++(R1++R2)++B)).bind fun rZ59=>some rZ59) (some (A++(L1++L2)++(R1++R2)++B)):Option (List aq)).bind fun oZ60=>((cond (decide (aI<oI)) (some (decide (oI<midI))) (some false):Option Bool).bind fun oZ62=>cond oZ62 ((M_j fuel 0 N aI oI midI oZ60).bind fun rZ64=>some rZ64) (some oZ60):Option (List aq)).bind fun oZ65=>(cond (decide (midI<eI)) (some (decide (eI<bI))) (some false):Option Bool).bind fun oZ67=>cond oZ67 ((M_j fuel 0 N midI eI bI oZ65).bind fun rZ69=>some rZ69) (some oZ65))=some (A++S++B)/\Srt cst S/\Stb cst (L1++L2++(R1++R2)) S/\S.length=(L1++L2).length+(R1++R2).length:=by
 obtain⟨sL1,sL2,sLx⟩:=Srt.app3.1 sL;obtain⟨sR1,sR2,sRx⟩:=Srt.app3.1 sR;have hGm:∀x,x∈A\/x∈L1\/x∈L2\/x∈R1\/x∈R2\/x∈B->GC x:=fun x hx=>hG x (by simp only[C6];rcases hx with h|h|h|h|h|h<;>simp[h]);obtain⟨S1,k1,k2,k3,k4,k5⟩:=ze ih A L1 R1 (L2++R2++B) hW1 sL1 sR1 (fun x hx=>hGm x (by simp only[C6] at hx;rcases hx with((h|h)|h)|((h|h)|h)<;>simp[h])) (by simp;omega);have hS1:∀x∈S1,x∈L1\/x∈R1:=fun x hx=>C6.1 ((k4.mem x).1 hx);have hG2:∀x∈A++S1++L2++R2++B,GC x:=fun x hx=>hGm x (by
  simp only[C6] at hx;rcases hx with(((h|h)|h)|h)|h
  ·simp[h]
  ·rcases hS1 x h with h|h<;>simp[h]
  ·simp[h]
  ·simp[h]
  ·simp[h])
 obtain⟨S2,l1,l2,l3,l4,l5⟩:=ze ih (A++S1) L2 R2 B hW2 sL2 sR2 hG2 (by simp;omega);have hS2:∀x∈S2,x∈L2\/x∈R2:=fun x hx=>C6.1 ((l4.mem x).1 hx);refine⟨S1++S2,MS A L1 L2 R1 R2 S1 S2 B hl hN ha ho hm hd he hb k1 k2 k5 l1 l2,k3.app l3 (fun x hx z hz=>?_),?_,by simp;omega⟩
 ·rcases hS1 x hx with h1|h1<;>rcases hS2 z hz with h2|h2
  ·exact sLx x h1 z h2
  ·exact F2 x h1 z h2
  ·exact O3 (F1 z h2 x h1)
  ·exact sRx x h1 z h2
 ·have t1:=((Stb.refl cst L1).app (Stb.swap F1)).app (Stb.refl cst R2);have t2:=k4.app l4;have t3:Stb cst (L1++L2++(R1++R2)) (L1++R1++(L2++R2)):=by simpa using t1
  exact t3.trans t2
set_option maxHeartbeats 1600000 in
theorem KX:∀(W fuel:Nat)(A L R B:List aq)(N:Nat),L.length+R.length<=W->W<fuel->L≠[]->R≠[]->Srt cst L->Srt cst R->(∀x∈A++L++R++B,GC x)->N=(A++L++R++B).length->N<=1000->
 ∃S,M_j fuel 0 N (A.length:Int) ((A.length+L.length:Nat):Int) ((A.length+L.length+R.length:Nat):Int) (A++L++R++B)=some (A++S++B)/\Srt cst S/\Stb cst (L++R) S/\S.length=L.length+R.length
 |0,_,_,L,_,_,_,h,_,hL,_,_,_,_,_,_=>by have:=B8.2 hL;omega
 |W+1,0,_,_,_,_,_,_,h,_,_,_,_,_,_,_=>by omega
 | W + 1, fuel + 1, A, L, R, B, N, hW, hf, hL, hR, sL, sR, hG, hN, hl => by
   have pL:=B8.2 hL;have pR:=B8.2 hR;have hN':N=A.length+L.length+R.length+B.length:=by rw[hN];simp;omega
   unfold M_j Vy;rw[az (n:=((A.length+L.length:Nat):Int)-(A.length:Int)) (by omega) (by omega),az (n:=((A.length+L.length+R.length:Nat):Int)-((A.length+L.length:Nat):Int)) (by omega) (by omega)];by_cases c1:L.length=1
   ·obtain⟨x,rfl⟩:=L7.1 c1;obtain⟨o,e,o1,o2,o3,o4⟩:=b1 hG hN hl A.length (A.length+1) (A.length+1+R.length) (by simp at hN';omega) (by omega) (by simp at hN';omega);obtain⟨R1,R2,rfl,r1⟩:=dG R (o-(A.length+1)) (by omega);have hx:kd (A++[x]++(R1++R2)++B) A.length=cst x:=xE (by simp);have f1:∀y∈R1,cst y<cst x:=fun y hy=>by
     have:=vu (A:=A++[x]) (T:=B) sR hy;have p1:=C7 hy;have:=o3 (by omega);rw[hx,show o-1=(A++[x]).length+R1.length-1 by simp;omega] at this;omega
    have f2:∀y∈R2,cst x<=cst y:=fun y hy=>by
     have:=wq (A:=A++[x]) (T:=B) sR hy;have p1:=C7 hy;simp only[A7] at o2;have:=o4 (by rw[A7];omega);rw[hx,show o=(A++[x]).length+R1.length by simp;omega] at this;omega
    rw[C1,show((((A.length+1:Nat):Int)-(A.length:Int))==1)=true by simp;omega,g9,e,A0,
     show A++[x]++(R1++R2)++B=A++x::(R1++(R2++B)) by simp,p_up A R1 (R2++B) x (by simp at hN'⊢;omega) hl (by omega)]
    obtain⟨s1,s2,s3⟩:=Srt.app3.1 sR;refine⟨R1++x::R2,by simp,s1.app (G0.2 ⟨f2,s2⟩) (fun y hy z hz=>?_),?_,by simp;omega⟩
    ·rcases C9.1 hz with e|e
     ·subst e;have:=f1 y hy;omega
     ·exact s3 y hy z e
    ·have:=(Stb.swap (u:=[x]) (w:=R1) (k:=cst) (fun a ha y hy=>by rw[C8] at ha;subst ha;exact f1 y hy)).app (Stb.refl cst R2);simpa using this
   ·rw[show((((A.length+L.length:Nat):Int)-(A.length:Int))==1)=false by simp;omega,g8];by_cases c2:R.length=1
    ·obtain⟨y,rfl⟩:=L7.1 c2;obtain⟨o,e,o1,o2,o3,o4⟩:=b3 hG hN hl A.length (A.length+L.length) (by omega) (by simp at hN';omega);obtain⟨L1,L2,rfl,r1⟩:=dG L (o-A.length) (by omega);have hx:kd (A++(L1++L2)++[y]++B) (A.length+(L1++L2).length)=cst y:=xE (by
      rw[B3,M3];exact gr _ _ _ (by simp))
     have f1:∀x∈L1,cst x<=cst y:=fun x h=>by
      have:=vu (A:=A) (T:=[y]++B) sL h;rw[<-B3] at this;have p1:=C7 h;have:=o3 (by omega);rw[hx,show o-1=A.length+L1.length-1 by omega] at this;omega
     have f2:∀x∈L2,cst y<cst x:=fun x h=>by
      have:=wq (A:=A) (T:=[y]++B) sL h;rw[<-B3] at this;have p1:=C7 h;rw[A7] at o2;have:=o4 (by rw[A7];omega);rw[hx,show o=A.length+L1.length by omega] at this;omega
     rw[C1,show((((A.length+(L1++L2).length+1:Nat):Int)-((A.length+(L1++L2).length:Nat):Int))==1)=true by simp;omega,g9,e,A0,
      show A++(L1++L2)++[y]++B=(A++L1)++L2++y::B by simp,show((A.length+(L1++L2).length:Nat):Int)=(((A++L1).length+L2.length:Nat):Int) by simp;omega,show(o:Int)=((A++L1).length:Int) by simp;omega,p_dn (A++L1) L2 B y (by simp at hN'⊢;omega) hl]
     obtain⟨s1,s2,s3⟩:=Srt.app3.1 sL;refine⟨L1++y::L2,by simp,s1.app (G0.2 ⟨fun z hz=>O3 (f2 z hz),s2⟩) (fun x h z hz=>?_),?_,by simp;omega⟩
     ·rcases C9.1 hz with e|e
      ·subst e;exact f1 x h
      ·exact s3 x h z e
     ·have:=(Stb.refl cst L1).app (Stb.swap (u:=L2) (w:=[y]) (k:=cst) (fun a ha z hz=>by rw[C8] at hz;subst hz;exact f2 a ha));simpa using this
    ·rw[show((((A.length+L.length+R.length:Nat):Int)-((A.length+L.length:Nat):Int))==1)=false by simp;omega,g8,mJ A.length (A.length+L.length+R.length) (by omega)];obtain⟨mid,hmid⟩:∃q,q=(A.length+(A.length+L.length+R.length))/2:=⟨_,rfl⟩;rw[<-hmid];have m1:A.length<mid:=by omega
     have m2:mid<A.length+L.length+R.length:=by omega
     obtain⟨s0,r0,hsr,hs1,hs2⟩:∃s0 r0:Nat,(cond (decide ((mid:Int)<((A.length+L.length:Nat):Int))) (some (A5 .i64 (A5 .i64 ((mid:Int)+((A.length+L.length:Nat):Int))-((A.length+L.length+R.length:Nat):Int)),(mid:Int))) (some ((A.length:Int),((A.length+L.length:Nat):Int))):Option (Int×Int))=some ((s0:Int),(r0:Int))/\(mid<A.length+L.length->s0+(A.length+L.length+R.length)=mid+(A.length+L.length)/\r0=mid)/\(A.length+L.length<=mid->s0=A.length/\r0=A.length+L.length):=by
      by_cases c:mid<A.length+L.length
      ·refine⟨mid+(A.length+L.length)-(A.length+L.length+R.length),mid,?_,fun _=>⟨by omega,rfl⟩,fun h=>by omega⟩;rw[g7 (by omega),g9,az (n:=(mid:Int)+_) (by omega) (by omega),az (by omega) (by omega)];simp only[Option.some.injEq,Prod.mk.injEq,and_true];omega
      ·refine⟨A.length,A.length+L.length,?_,fun h=>by omega,fun _=>⟨rfl,rfl⟩⟩;rw[u9 (by omega),g8]
     have c3:s0<=r0/\r0<=A.length+L.length/\r0<=mid/\A.length<=s0/\mid+(A.length+L.length)<=s0+(A.length+L.length+R.length):=by
      by_cases c:mid<A.length+L.length
      ·have:=hs1 c;omega
      ·have:=hs2 (by omega);omega
     obtain⟨o,e,o1,o2,o3,o4⟩:=b5 hG hN hl A.length (A.length+L.length) (A.length+L.length+R.length) s0 r0 (mid+(A.length+L.length)-1) (by omega) (by omega) c3.1 (by omega) (fun c h1 h2=>by omega);have o5:(A.length<o->mid+(A.length+L.length)-o<A.length+L.length+R.length->s0<o)/\(o<mid->o<A.length+L.length->o<r0):=by
      by_cases c:mid<A.length+L.length
      ·have:=hs1 c;omega
      ·have:=hs2 (by omega);omega
     rw[hsr,A0,e,A0];obtain⟨L1,L2,rfl,r1⟩:=dG L (o-A.length) (by omega);obtain⟨R1,R2,rfl,r2⟩:=dG R (mid-o) (by omega);rw[az (n:=(mid:Int)+_) (by omega) (by omega),az (n:=(mid:Int)+_-_) (by omega) (by omega)];obtain⟨sL1,sL2,sLx⟩:=Srt.app3.1 sL;obtain⟨sR1,sR2,sRx⟩:=Srt.app3.1 sR;simp only[A7] at hN' hW c1 c2 m1 m2 c3 o1 o2 o3 o4 o5 hmid pL pR hs1 hs2;have F1:∀u∈L2,∀w∈R1,cst w<cst u:=fun u hu w hw=>by
      have q1:=wq (A:=A) (T:=(R1++R2)++B) sL hu;have q2:=vu (A:=A++(L1++L2)) (T:=B) sR hw;rw[<-B3] at q1;have p1:=C7 hu;have p2:=C7 hw;have q3:=o4 (o5.2 (by omega) (by omega));rw[show mid+(A.length+(L1.length+L2.length))-1-o=(A++(L1++L2)).length+R1.length-1 by simp;omega] at q3;rw[show A.length+L1.length=o by omega] at q1;omega
     have F2:∀x∈L1,∀z∈R2,cst x<=cst z:=fun x hx z hz=>by
      have q1:=vu (A:=A) (T:=(R1++R2)++B) sL hx;have q2:=wq (A:=A++(L1++L2)) (T:=B) sR hz;rw[<-B3] at q1;have p1:=C7 hx;have p2:=C7 hz;have q3:=o3 (o5.1 (by omega) (by omega));rw[show mid+(A.length+(L1.length+L2.length))-1-(o-1)=(A++(L1++L2)).length+R1.length by simp;omega] at q3;rw[show A.length+L1.length-1=o-1 by omega] at q1;omega
     clear o3 o4;have z1:N=A.length+L1.length+L2.length+R1.length+R2.length+B.length:=by omega
     have z2:L1.length+R1.length<=W:=by omega
     have z3:L2.length+R2.length<=W:=by omega
     have z4:o=A.length+L1.length:=by omega
     have z5:mid=A.length+L1.length+R1.length:=by omega
     have z6:(L1++L2).length=L1.length+L2.length:=A7;have z7:(R1++R2).length=R1.length+R2.length:=A7;have ih:=fun A L R B h1 h2 h3 h4 h5 h6 h7=>KX W fuel A L R B N h1 (by omega) h2 h3 h4 h5 h6 h7 hl;clear hs1 hs2 c1 c2 m1 m2 c3 o1 o2 o5 hmid pL pR hsr e hL hR hN r1 r2;exact Wa ih A L1 L2 R1 R2 B hl z1 z2 z3 sL sR hG F1 F2 rfl (by omega) (by omega) (by omega) (by omega) (by omega)
end Vs

namespace Vs
open Go
def adw(A S T:List aq)(x:aq){N:Nat}(hN:N=(A++S++x::T).length)(hl:N<=1000)(hG:∀y∈A++S++x::T,GC y)(hS:Srt cst S):
 ∃S',aZ (M_u 0 N (A.length:Int)) N0 (((A.length+S.length:Nat):Int),A++S++x::T)=some (A++S'++T)/\Srt cst S'/\Stb cst (S++[x]) S'/\S'.length=S.length+1:=by
 have hN':N=A.length+S.length+1+T.length:=by rw[hN];simp;omega
 have hx:GC x:=hG x (by simp);obtain⟨b,e,S1,S2,q1,q2,q3,q4⟩:=bq (f:=M_u 0 N (A.length:Int)) (fun s=>∃S1 S2,S=S1++S2/\(∀y∈S2,cst x<cst y)/\s=(((A.length+S1.length:Nat):Int),A++S1++x::(S2++T))) (fun s=>s.1.toNat) (fun b=>∃S1 S2,S=S1++S2/\(∀y∈S2,cst x<cst y)/\(∀y∈S1,cst y<=cst x)/\b=A++S1++x::(S2++T)) (fun s⟨S1,S2,q1,q2,q3⟩=>by
  subst q1 q3;rw[A7] at hN';unfold M_u;dsimp only;rcases M4 S1 with c|⟨V,y,c⟩
  ·subst c;right;rw[u9 (by simp only[B9];omega),g8,A0,g8];exact⟨_,rfl,[],S2,rfl,q2,(fun y hy=>nomatch hy),rfl⟩
  ·subst c;simp only[M5,A7,B4,B9] at hN' hG hS⊢;have hy:GC y:=hG y (by simp);obtain⟨v,v1,v2⟩:=XF hx hy;have e0:A++(V++[y])++x::(S2++T)=(A++V)++y::x::(S2++T):=by simp
   have a1:((A++V)++y::x::(S2++T))[A.length+(V.length+(0+1))]?=some x:=by rw[show(A++V)++y::x::(S2++T)=(A++V++[y])++x::(S2++T) by simp];exact gr _ _ _ (by simp)
   have a2:((A++V)++y::x::(S2++T))[A.length+(V.length+(0+1))-1]?=some y:=gr _ _ _ (by simp);have g1:grd (0<=((A.length+(V.length+(0+1)):Nat):Int)/\((A.length+(V.length+(0+1)):Nat):Int)<(N:Int))=some ():=aW (by omega);have g2:grd (0<=A5 .i64 (((A.length+(V.length+(0+1)):Nat):Int)-1)/\A5 .i64 (((A.length+(V.length+(0+1)):Nat):Int)-1)<(N:Int))=some ():=aW (by rw[qB _ (by omega) (by omega)];omega);have b1:((A++V)++y::x::(S2++T))[0+B2 ((A.length+(V.length+(0+1)):Nat):Int)]?=some x:=by rw[A6,D0];exact a1
   have b2:((A++V)++y::x::(S2++T))[0+B2 (A5 .i64 (((A.length+(V.length+(0+1)):Nat):Int)-1))]?=some y:=by rw[qB _ (by omega) (by omega),A6,D0];exact a2
   rw[e0,g7 (by omega),g9,g1,A0,b1,A0,g2,A0,b2,A0,v1,A0,A0,v2];by_cases hc:cst x<cst y
   ·left;rw[g7 hc,g9];have cd:=EJ (β:=(Int×List aq)⊕List aq) (A++V) y x (S2++T) N (A.length+(V.length+(0+1))) (by simp;omega) (by omega) hl (fun l=>some (.inl (A5 .i64 (((A.length+(V.length+(0+1)):Nat):Int)-1),l)));rw[g2,A0,b2,A0,g1,A0,b1,A0] at cd;simp only[A0];rw[cd,qB _ (by omega) (by omega)];refine⟨_,rfl,⟨V,y::S2,by simp,fun z hz=>?_,by simp⟩,by simp only[A6];omega⟩;rcases C9.1 hz with h|h
    ·rw[h];exact hc
    ·exact q2 z h
   ·right;rw[u9 hc,g8];refine⟨_,rfl,V++[y],S2,rfl,q2,fun z hz=>?_,by simp⟩;rcases C6.1 hz with h|h
    ·have:=(Srt.app3.1 (Srt.app3.1 hS).1).2.2 z h y (by simp);omega
    ·rw[C8] at h;rw[h];omega) N0 (((A.length+S.length:Nat):Int),A++S++x::T) ⟨S,[],by simp,(fun y hy=>nomatch hy),by simp⟩ (cI (by simp only[A6];omega))
 subst q1 q4;obtain⟨s1,s2,s3⟩:=Srt.app3.1 hS;refine⟨S1++x::S2,by rw[e];simp,s1.app (G0.2 ⟨fun z hz=>O3 (q2 z hz),s2⟩) (fun y hy z hz=>?_),?_,by simp;omega⟩
 ·rcases C9.1 hz with h|h
  ·rw[h];exact q3 y hy
  ·exact s3 y hy z h
 ·have:=(Stb.refl cst S1).app (Stb.swap (u:=S2) (w:=[x]) (k:=cst) (fun a ha z hz=>by rw[C8] at hz;subst hz;exact q2 a ha));simpa using this
def Zf(A U B:List aq){N:Nat}(hN:N=(A++U++B).length)(hl:N<=1000)(hG:∀y∈A++U++B,GC y):
 ∃S,HK 0 N (A.length:Int) ((A.length+U.length:Nat):Int) (A++U++B)=some (A++S++B)/\Srt cst S/\Stb cst U S/\S.length=U.length:=by
 have hN':N=A.length+U.length+B.length:=by rw[hN];simp;omega
 unfold HK;rw[dI _ (by omega)];cases U with
 | nil =>
   refine⟨[],?_,K8.nil,Stb.refl _ _,rfl⟩;obtain⟨b,e,q⟩:=bq (f:=M_c 0 N (A.length:Int) ((A.length+([]:List aq).length:Nat):Int)) (fun s=>s=(((A.length+1:Nat):Int),A++[]++B)) (fun _=>0) (fun b=>b=A++[]++B) (fun s h=>by
    subst h;right;unfold M_c
    grind) N0 (((A.length+1:Nat):Int),A++[]++B) rfl (cI (by decide))
   rw[e,q];rfl
 | cons u U =>
   obtain⟨b,e,S,q1,q2,q3,q4⟩:=bq (f:=M_c 0 N (A.length:Int) ((A.length+(u::U).length:Nat):Int)) (fun s=>∃V S T,u::U=V++T/\s=(((A.length+V.length:Nat):Int),A++S++(T++B))/\Srt cst S/\Stb cst V S/\S.length=V.length) (fun s=>(((A.length+(u::U).length:Nat):Int)-s.1).toNat) (fun b=>∃S,b=A++S++B/\Srt cst S/\Stb cst (u::U) S/\S.length=(u::U).length) (fun s⟨V,S,T,q1,q2,q3,q4,q5⟩=>by
    subst q2;have ql:U.length+1=V.length+T.length:=by have:=congrArg List.length q1;simpa using this
    simp only[B4] at hN'⊢;unfold M_c;dsimp only;cases T with
    | nil =>
      simp_all
    | cons x T =>
      left;rw[B4] at ql;have hg2:∀y∈A++S++x::(T++B),GC y:=fun y hy=>hG y (by
       rw[q1];simp only[C6,C9] at hy⊢;rcases hy with(h|h)|h|h|h
       ·exact .inl (.inl h)
       ·exact .inl (.inr (.inl ((q4.mem y).1 h)))
       ·simp_all
       ·simp_all
       ·exact .inr h)
      obtain⟨S',i1,i2,i3,i4⟩:=adw A S (T++B) x (N:=N) (by simp;omega) hl hg2 q3;rw[g7 (by omega),g9,I9,show((A.length+V.length:Nat):Int)=((A.length+S.length:Nat):Int) by omega,i1,A0,A0,dI _ (by omega)];exact⟨_,rfl,⟨V++[x],S',T,by rw[q1];simp,by simp;omega,i2,(q4.app (Stb.refl cst [x])).trans i3,by simp;omega⟩,by simp only;omega⟩) N0 (((A.length+1:Nat):Int),A++u::U++B) ⟨[u],[u],U,rfl,by simp,by simp[Srt],Stb.refl _ _,rfl⟩ (cI (by omega))
   simp_all
end Vs

namespace Vs
open Go
inductive Rn(k:Nat):List aq->Prop
 |last (l:List aq):l.length<=k->Srt cst l->Rn k l
 |cons (l r:List aq):l.length=k->Srt cst l->Rn k r->Rn k (l++r)
def Rn.nil(k:Nat):Rn k []:=.last _ (N1 _) K8.nil
def Rn.split{k:Nat}{E:List aq}(h:Rn k E)(hk:k<=E.length):∃l r,E=l++r/\l.length=k/\Srt cst l/\Rn k r:=by
 cases h with
 |last _ h1 h2=>exact⟨E,[],by simp,by omega,h2,.nil k⟩
 |cons l r h1 h2 h3=>exact⟨l,r,rfl,h1,h2,h3⟩
def Rn.small{k:Nat}{E:List aq}(h:Rn k E)(hk:E.length<=k):Srt cst E:=by
 cases h with
 |last _ h1 h2=>exact h2
 | cons l r h1 h2 h3 =>
   rw[A7] at hk;have:r=[]:=D6.1 (by omega);rw[this,D7];exact h2
def RnP(k:Nat)(D:List aq):Prop:=∀E,Rn k E->Rn k (D++E)
def RnP.nil(k:Nat):RnP k []:=fun _ h=>h
def RnP.snoc{k:Nat}{D l:List aq}(h:RnP k D)(hl:l.length=k)(hs:Srt cst l):RnP k (D++l):=fun E hE=>by rw[B3];exact h _ (.cons l E hl hs hE)
def Stb.gc{a b:List aq}(h:Stb cst a b)(g:∀x∈a,GC x):∀x∈b,GC x:=fun x hx=>g x ((h.mem x).1 hx)
def LY(d:List aq)(hl:d.length<=900)(hG:∀x∈d,GC x):
 ∃D E,aZ (Jk (d.length:Int)) N0 (d.length,0,20,d)=some (d.length,(D.length:Int),D++E)/\RnP 20 D/\E.length<=20/\Stb cst d (D++E)/\D.length+E.length=d.length:=by
 obtain⟨b,e,D,E,q1,q2,q3,q4,q5⟩:=bq (f:=Jk (d.length:Int)) (fun s=>∃D E,s=(d.length,(D.length:Int),((D.length+20:Nat):Int),D++E)/\RnP 20 D/\Stb cst d (D++E)/\D.length+E.length=d.length) (fun s=>((d.length:Int)-s.2.1).toNat) (fun b=>∃D E,b=(d.length,(D.length:Int),D++E)/\RnP 20 D/\E.length<=20/\Stb cst d (D++E)/\D.length+E.length=d.length) (fun s⟨D,E,q1,q2,q3,q4⟩=>by
  subst q1;unfold Jk;dsimp only;by_cases h:D.length+20<=d.length
  ·left;obtain⟨U,B,e1,e2⟩:=dG E 20 (by omega);subst e1;rw[A7] at q4;obtain⟨S,i1,i2,i3,i4⟩:=Zf D U B (N:=d.length) (by simp;omega) (by omega) (by rw[B3];exact q3.gc hG);rw[e2,B3] at i1;rw[g7 (by omega),g9,i1,A0,az (by omega) (by omega)];refine⟨_,rfl,⟨D++S,B,by simp;omega,q2.snoc (by omega) i2,?_,by simp;omega⟩,by simp only;omega⟩;rw[B3];exact q3.trans ((Stb.refl cst D).app (i3.app (Stb.refl cst B)))
  ·right;rw[u9 (by omega),g8];exact⟨_,rfl,D,E,rfl,q2,by omega,q3,q4⟩) N0 (d.length,0,20,d) ⟨[],d,rfl,.nil 20,Stb.refl _ _,by simp⟩ (cI (by simp only;omega))
 exact⟨D,E,by rw[e,q1],q2,q3,q4,q5⟩
def Wo(d0:List aq)(hl:d0.length<=900)(hG:∀x∈d0,GC x){o:Nat×Int×List aq}(ho:o.1=d0.length){k:Nat}(hk:0<k)(hk2:k<=900){d:List aq}(hR:Rn k d)(hS:Stb cst d0 d)(hlen:d.length=d0.length):
 ∃D E,aZ (HJ (d0.length:Int) o ((k:Int),d)) N0 (0,((2*k:Nat):Int),d)=some ((D.length:Int),D++E)/\RnP (2*k) D/\Rn k E/\E.length<2*k/\Stb cst d0 (D++E)/\D.length+E.length=d0.length:=by
 obtain⟨b,e,D,E,q1,q2,q3,q4,q5,q6⟩:=bq (f:=HJ (d0.length:Int) o ((k:Int),d)) (fun s=>∃D E,s=((D.length:Int),((D.length+2*k:Nat):Int),D++E)/\RnP (2*k) D/\Rn k E/\Stb cst d0 (D++E)/\D.length+E.length=d0.length) (fun s=>((d0.length:Int)-s.1).toNat) (fun b=>∃D E,b=((D.length:Int),D++E)/\RnP (2*k) D/\Rn k E/\E.length<2*k/\Stb cst d0 (D++E)/\D.length+E.length=d0.length) (fun s⟨D,E,q1,q2,q3,q4,q5⟩=>by
  subst q1;unfold HJ;dsimp only;by_cases h:D.length+2*k<=d0.length
  ·left;obtain⟨l1,r,rfl,a1,a2,a3⟩:=q3.split (by omega);rw[A7] at q5;obtain⟨l2,r,rfl,b1,b2,b3⟩:=a3.split (by omega);rw[A7] at q5;obtain⟨S,i1,i2,i3,i4⟩:=KX (2*k) N0 D l1 l2 r d0.length (by omega) (cI (by omega)) (B8.1 (by omega)) (B8.1 (by omega)) a2 b2 (by simpa using q4.gc hG) (by simp;omega) (by omega);rw[show D++(l1++(l2++r))=D++l1++l2++r by simp,g7 (by omega),g9,ho,az (n:=(D.length:Int)+(k:Int)) (by omega) (by omega),show(D.length:Int)+(k:Int)=((D.length+l1.length:Nat):Int) by omega,show((D.length+2*k:Nat):Int)=((D.length+l1.length+l2.length:Nat):Int) by omega,i1,A0,az (n:=2*(k:Int)) (by omega) (by omega),az (by omega) (by omega)];refine⟨_,rfl,⟨D++S,r,by simp only[A7,Prod.mk.injEq];exact⟨by omega,by omega,trivial⟩,q2.snoc (by omega) i2,b3,?_,by simp;omega⟩,by simp only;omega⟩;rw[B3];have:=(Stb.refl cst D).app (i3.app (Stb.refl cst r));rw[B3] at this;exact q4.trans this
  ·right;rw[u9 (by omega),g8];exact⟨_,rfl,D,E,rfl,q2,q3,by omega,q4,q5⟩) N0 (0,((2*k:Nat):Int),d) ⟨[],d,by simp,.nil _,hR,hS,by simp[hlen]⟩ (cI (by simp only;omega))
 exact⟨D,E,by rw[e,q1],q2,q3,q4,q5,q6⟩
def KN(d:List aq)(hl:d.length<=900)(hG:∀x∈d,GC x):∃S,Nl d=some S/\Srt cst S/\Stb cst d S/\S.length=d.length:=by
 obtain⟨D,E,e1,q2,q3,q4,q5⟩:=LY d hl hG;obtain⟨S,i1,i2,i3,i4⟩:=Zf D E [] (N:=d.length) (by simp;omega) (by omega) (by simpa using q4.gc hG);rw[D7,D7,q5] at i1;have r1:Rn 20 (D++S):=q2 S (.last S (by omega) i2);have r2:Stb cst d (D++S):=q4.trans ((Stb.refl cst D).app i3);unfold Nl VP;rw[e1,A0];dsimp only;rw[i1,A0];obtain⟨b,e,q,p1,p2⟩:=bq (f:=Ro (d.length:Int) (d.length,(D.length:Int),D++E)) (fun s=>∃(k:Nat)(c:List aq),s=((k:Int),c)/\0<k/\Rn k c/\Stb cst d c/\c.length=d.length) (fun s=>((d.length:Int)-s.1).toNat) (fun b=>Srt cst b/\Stb cst d b/\b.length=d.length) (fun s⟨k,c,z1,z2,z3,z4,z5⟩=>by
  subst z1;unfold Ro;dsimp only;by_cases h:k<d.length
  ·left;obtain⟨D',E',l1,l2,l3,l4,l5,l6⟩:=Wo d hl hG (o:=(d.length,(D.length:Int),D++E)) rfl z2 (by omega) z3 z4 z5;rw[g7 (by omega),g9,az (n:=2*(k:Int)) (by omega) (by omega),show 2*(k:Int)=((2*k:Nat):Int) by omega,l1,A0];dsimp only;rw[az (n:=(D'.length:Int)+(k:Int)) (by omega) (by omega),az (n:=(k:Int)*2) (by omega) (by omega),show(k:Int)*2=((2*k:Nat):Int) by omega];by_cases g:k<E'.length
   ·obtain⟨u,r,rfl,a1,a2,a3⟩:=l3.split (by omega);rw[A7] at l4 l6 g;have a4:=a3.small (by omega);obtain⟨S',i1,i2,i3,i4⟩:=KX (2*k) N0 D' u r [] d.length (by omega) (cI (by omega)) (B8.1 (by omega)) (B8.1 (by omega)) a2 a4 (by simpa using l5.gc hG) (by simp;omega) (by omega);rw[D7,D7] at i1;rw[g7 (by omega),g9,show(D'.length:Int)+(k:Int)=((D'.length+u.length:Nat):Int) by omega,show(d.length:Int)=((D'.length+u.length+r.length:Nat):Int) by omega,<-B3,i1,A0];exact⟨_,rfl,⟨2*k,D'++S',rfl,by omega,l2 S' (.last S' (by omega) i2),l5.trans ((Stb.refl cst D').app i3),by simp;omega⟩,by simp only;omega⟩
   ·rw[u9 (by omega),g8];exact⟨_,rfl,⟨2*k,D'++E',rfl,by omega,l2 E' (.last E' (by omega) (l3.small (by omega))),l5,by simp;omega⟩,by simp only;omega⟩
  ·right;rw[u9 (by omega),g8];exact⟨_,rfl,z3.small (by omega),z4,z5⟩) N0 (20,D++S) ⟨20,D++S,rfl,by omega,r1,r2,by simp;omega⟩ (cI (by simp only;omega))
 exact⟨b,by rw[e];rfl,q,p1,p2⟩
end Vs

namespace Vs
open Go
def wM(cs:List aq)(m:Nat)(r:Int):Prop:=(m=0/\r=-1)\/∃(i:Nat)(c:aq),r=(i:Int)/\i<m/\cs[i]?=some c/\(∀j y,j<m->cs[j]?=some y->cst c<=cst y)/\∀j y,j<i->cs[j]?=some y->cst c<cst y
def aab{c:aq}(h:GC c):A5 .i64 (c.N*(c.F.F.length:Int))=cst c:=by
 have:=CK h;exact az (by unfold cst at this;omega) (by unfold cst at this;omega)
def SR{cs:List aq}(hl:cs.length<=900)(hG:∀c∈cs,GC c):∃r,KK (cs.map (·.F)) (cs.map (·.N))=some r/\wM cs cs.length r:=by
 unfold KK;obtain⟨b,e,h⟩:=bq (f:=Sf (cs.map (·.F)) (cs.map (·.N))) (fun s=>∃m:Nat,s.2=(m:Int)/\m<=cs.length/\wM cs m s.1) (fun s=>cs.length-s.2.toNat) (fun b=>wM cs cs.length b) (fun s⟨m,e,hm,hI⟩=>by
  obtain⟨r,q⟩:=s;simp only at e hI;subst e;unfold Sf;dsimp only;by_cases hlt:m<cs.length
  ·left;have hx:cs[m]?=some cs[m]:=A1 hlt;generalize cs[m]=x at hx;have gx:=hG x (A3 hx);have m1:bC (cs.map (·.N)) (m:Int)=some x.N:=by rw[aV,C0,hx];rfl
   have m2:bC (cs.map (·.F)) (m:Int)=some x.F:=by rw[aV,C0,hx];rfl
   rw[g7 (by rw[G9];omega),g9,dI m (by omega),m1,m2];rcases hI with⟨h0,rfl⟩|⟨i,c,rfl,hi,hc,h1,h2⟩
   ·subst h0;refine⟨_,rfl,⟨1,rfl,by omega,.inr ⟨0,x,rfl,by omega,hx,fun j y hj hy=>?_,fun j y hj=>by omega⟩⟩,by simp only;omega⟩;obtain rfl:j=0:=by omega
    rw[hx] at hy;cases hy;exact K6 _
   ·have gc:=hG c (A3 hc);have m3:bC (cs.map (·.N)) (i:Int)=some c.N:=by rw[aV,C0,hc];rfl
    have m4:bC (cs.map (·.F)) (i:Int)=some c.F:=by rw[aV,C0,hc];rfl
    rw[u9 (by omega),g8,m3,m4];simp only[A0];rw[aab gx,aab gc];by_cases hlt2:cst x<cst c
    ·rw[g7 hlt2,g9];refine⟨_,rfl,⟨m+1,rfl,by omega,.inr ⟨m,x,rfl,by omega,hx,fun j y hj hy=>?_,fun j y hj hy=>?_⟩⟩,by simp only;omega⟩
     ·by_cases hj2:j=m
      ·subst hj2;rw[hx] at hy;cases hy;exact K6 _
      ·have:=h1 j y (by omega) hy;omega
     ·have:=h1 j y hj hy;omega
    ·rw[u9 hlt2,g8];refine⟨_,rfl,⟨m+1,rfl,by omega,.inr ⟨i,c,rfl,by omega,hc,fun j y hj hy=>?_,h2⟩⟩,by simp only;omega⟩;by_cases hj2:j=m
     ·subst hj2;rw[hx] at hy;cases hy;omega
     ·exact h1 j y (by omega) hy
  ·right;rw[u9 (by rw[G9];omega),g8];obtain rfl:m=cs.length:=by omega
   exact⟨_,rfl,hI⟩) N0 (-1,0) ⟨0,rfl,by omega,.inl ⟨rfl,rfl⟩⟩ (cI (by simp only;omega))
 exact⟨b,by rw[e];rfl,h⟩
def Bs(n:af)(d:aO){fs fl:List aA}{st ln:Nat}(hfs:cY fl st ln=fs)(hz:bJ n<=1048576)(hf:fs.length<=1048576):
 ∃c ok,QR n fs d=some (c,ok)/\KD n st ln d fl=some (c.F,c.N,ok,fl)/\(ok=true->ChO n fs d c):=by
 obtain⟨ok,cs,u1,u2,u3,u4⟩:=zQ n d hfs hz hf;unfold QR KD;rw[u1,u2];simp only[A0];cases ok with
 | false =>
   obtain rfl:=u4 rfl;exact⟨⟨⟨0,[]⟩,0⟩,false,rfl,rfl,fun h=>by cases h⟩
 | true =>
   obtain⟨h,hfo,hra,hcl,hcn⟩:=u3 rfl;have hl:=h.len;have hG:∀c∈cs,GC c:=fun c hc=>⟨(h.ok c hc).2.1,(h.ok c hc).2.2,(h.ok c hc).1.b.1⟩;obtain⟨r,s1,s2⟩:=SR (by omega) hG;obtain⟨S,t1,t2,t3,t4⟩:=KN cs (by omega) hG;rw[s1];simp only[B0,cond_false,A0];rcases s2 with⟨h0,rfl⟩|⟨i,c,rfl,hi,hc,h1,h2⟩
   ·rw[show((cs.length:Int)==0)=true by rw[h0];rfl,g9,g7 (by omega),g9];exact⟨⟨⟨0,[]⟩,0⟩,false,rfl,rfl,fun h=>by cases h⟩
   ·rw[show((cs.length:Int)==0)=false by rw[beq_eq_false_iff_ne];omega,g8,u9 (by omega),g8];unfold UT;rw[t1];simp only[A0];cases S with
    |nil=>simp at t4;omega
    | cons x t =>
      obtain⟨A,B,e1,e2,e3⟩:=RN t3 t2;have hx:cs[A.length]?=some x:=by rw[e1];simp
      have hAl:A.length<cs.length:=(A2.1 hx).1;have hiA:i=A.length:=by
       rcases H6 i A.length with g|g|g
       ·have q1:=e2 c (by
         have:A[i]?=some c:=by rw[e1,F8 g] at hc;exact hc
         exact A3 this)
        have q2:=h1 _ _ hAl hx;omega
       ·exact g
       ·have q1:=h2 _ _ g hx;have q2:cst x<=cst c:=by
         have:c∈x::B:=by
          rw[e1,F7 (by omega)] at hc;exact A3 hc
         rcases C9.1 this with e|e
         ·rw[e];exact K6 _
         ·exact e3 c e
        omega
      subst hiA;obtain rfl:c=x:=by rw[hx] at hc;exact(Option.some.inj hc).symm
      have o:=h.ok c (A3 hx);rw[aW (by omega),aW (by rw[G9];omega),aW (by rw[G9];omega)];refine⟨c,true,rfl,?_,fun _=>⟨h.net,o.1.b,o.1.v,o.2.1,o.2.2,hfo,hra,(hcn c (A3 hx)).1,(hcn c (A3 hx)).2.1,o.1.st,(hcn c (A3 hx)).2.2,hcl⟩⟩;simp only[A0,A6,C0,hx,O7]
end Vs

namespace Vs
open Go
def FB(cnt:Int)(p:Nat->Bool):Option Nat->Prop
 |none=>∀k:Nat,(k:Int)+cnt<=24->p k=false
 |some k=>(k:Int)+cnt<=24/\p k=true/\∀j,j<k->p j=false
theorem FB.uniq{cnt:Int}{p:Nat->Bool}:∀{o o':Option Nat},FB cnt p o->FB cnt p o'->o=o'
 |none,none,_,_=>rfl
 |none,some k,h,g=>by have:=h k g.1;rw[g.2.1] at this;cases this
 |some k,none,h,g=>by have:=g k h.1;rw[h.2.1] at this;cases this
 | some k, some k', h, g => by
   rcases H6 k k' with c|c|c
   ·have:=g.2.2 k c;rw[h.2.1] at this;cases this
   ·rw[c]
   ·have:=h.2.2 k' c;rw[g.2.1] at this;cases this
def aji{S B:Type}{f:S->Option (S⊕B)}(I:Nat->S->Prop)(cnt:Int)(p:Nat->Bool)(h0:0<=cnt)(R:Option Nat->B->Prop)
 (h1:∀k s,I k s->(k:Int)+cnt<=24->p k=true->∃b,f s=some (.inr b)/\R (some k) b)
 (h2:∀k s,I k s->(k:Int)+cnt<=24->p k=false->∃s',f s=some (.inl s')/\I (k+1) s')
 (h3:∀k s,I k s->k<=25->24<(k:Int)+cnt->∃b,f s=some (.inr b)/\R none b):∀(m k:Nat)(s:S)(n:Nat),I k s->(∀j,j<k->p j=false)->k+m=25->m<n->∃o b,aZ f n s=some b/\FB cnt p o/\R o b:=by
 intro m;induction m with
 | zero =>
   intro k s n hI hp hk hn;obtain⟨n,rfl⟩:∃q,n=q+1:=⟨n-1,by omega⟩;obtain⟨b,e,r⟩:=h3 k s hI (by omega) (by omega);exact⟨none,b,by rw[aZ,e],fun j hj=>hp j (by omega),r⟩
 | succ m ih =>
   intro k s n hI hp hk hn;obtain⟨n,rfl⟩:∃q,n=q+1:=⟨n-1,by omega⟩;by_cases hc:(k:Int)+cnt<=24
   ·cases hpk:p k with
    | true =>
      obtain⟨b,e,r⟩:=h1 k s hI hc hpk;exact⟨some k,b,by rw[aZ,e],⟨hc,hpk,hp⟩,r⟩
    | false =>
      obtain⟨s',e,hI'⟩:=h2 k s hI hc hpk;obtain⟨o,b,i1,i2,i3⟩:=ih (k+1) s' n hI' (fun j hj=>by
       by_cases h:j=k
       ·rw[h];exact hpk
       ·exact hp j (by omega)) (by omega) (by omega)
      exact⟨o,b,by rw[aZ,e];exact i1,i2,i3⟩
   ·obtain⟨b,e,r⟩:=h3 k s hI (by omega) (by omega);exact⟨none,b,by rw[aZ,e],fun j hj=>hp j (by omega),r⟩
def wU{S B:Type}{f:S->Option (S⊕B)}(I:Nat->S->Prop)(cnt:Int)(p:Nat->Bool)(h0:0<=cnt)(R:Option Nat->B->Prop)
 (h1:∀k s,I k s->(k:Int)+cnt<=24->p k=true->∃b,f s=some (.inr b)/\R (some k) b)
 (h2:∀k s,I k s->(k:Int)+cnt<=24->p k=false->∃s',f s=some (.inl s')/\I (k+1) s')
 (h3:∀k s,I k s->k<=25->24<(k:Int)+cnt->∃b,f s=some (.inr b)/\R none b) (s:S) (hI:I 0 s):∃o b,aZ f N0 s=some b/\FB cnt p o/\R o b:=
 aji I cnt p h0 R h1 h2 h3 25 0 s N0 hI (fun j hj=>by omega) rfl (cI (by decide))
def wB(s:ae)(b:aD):ae:=⟨s.Id,s.W,s.N,b,s.F,s.L⟩
def sB(s:ae)(b:aD):ae:=⟨s.Id,s.W,s.N,s.P,s.F,b⟩
def mj(n:af)(list:List ae)(s:ae):Bool:=list.all fun o=>dZ n o s
def qd{n:af}{list:List ae}(hn:bA n=true)(hl:list.length<=1048576)(hs:∀x∈list,du n x){s:ae}(h:du n s):th n list s=some (mj n list s):=by
 unfold th;rw[Pf list _ (fun o=>!dZ n o s) (fun x hx=>by unfold Sr;rw[mM n x s hn (hs x hx) h];rfl) hl,A0];unfold mj;rw[L6]
def pV{n:af}{list:List ae}(hn:bA n=true)(hl:list.length<=1048576)(hs:∀x∈list,du n x){s:ae}(h:du n s):tP n list s=some (mj n list s):=by
 unfold tP;rw[io (f:=Kq n list s) list (fun o=>!dZ n o s) (.inr false) (.inl ()) (fun i x hx=>by
  have hlt:=(A2.1 hx).1;unfold Kq;rw[g7 (by omega),g9,aV,hx,A0,jV n x s hn (hs x (A3 hx)) h,A0,az (by omega) (by omega)];cases dZ n x s<;>rfl) (by unfold Kq;rw[u9 (by omega),g8]) (by omega),A0]
 unfold mj;rw[L6];cases list.any fun o=>!dZ n o s<;>rfl
def lP{k:Nat}{cnt:Int}(h0:0<=cnt)(h:(k:Int)+cnt<=24):fD ⟨(k:Int),cnt⟩:=⟨⟨by simp,by show(k:Int)<=24;omega⟩,h0,by show cnt<=24;omega⟩
def du.wB{n:af}{s:ae}(h:du n s){b:aD}(hb:fD b):du n (wB s b):=⟨h.wr,h.sr,hb,h.sb⟩
def du.sB{n:af}{s:ae}(h:du n s){b:aD}(hb:fD b):du n (sB s b):=⟨h.wr,h.sr,h.wb,hb⟩
section
variable{n:af}{list:List ae}(hn:bA n=true)(hl:list.length<=1048576)(hs:∀x∈list,du n x){s:ae}(h:du n s){cnt:Int}(h0:0<=cnt)(hc:cnt<=24)
include hn hl hs h h0 hc
def aiy:∃o,FB cnt (fun k=>mj n list (wB s ⟨(k:Int),cnt⟩)) o/\∃s',Cm cnt n list s=some (match o with|some k=>(⟨(k:Int),cnt⟩,true,n,list,wB s ⟨(k:Int),cnt⟩)|none=>(⟨0,0⟩,false,n,list,s')):=by
 unfold Cm;obtain⟨o,b,e,q1,q2⟩:=wU (f:=M_o cnt) (fun k t=>∃b0,t=((k:Int),n,list,wB s b0)) cnt (fun k=>mj n list (wB s ⟨(k:Int),cnt⟩)) h0 (fun o b=>match o with|some k=>b=.inr (⟨(k:Int),cnt⟩,true,n,list,wB s ⟨(k:Int),cnt⟩)|none=>∃s',b=.inl (n,list,s')) (fun k t⟨b0,e⟩ hk hp=>by
  subst e;refine⟨_,?_,rfl⟩;unfold M_o;dsimp only;rw[az (by omega) (by omega),g7 hk,g9];show((th n list (wB s ⟨(k:Int),cnt⟩)).bind fun rZ1=>some (rZ1,wB s ⟨(k:Int),cnt⟩,n,list)).bind _=_;rw[qd hn hl hs (h.wB (lP h0 hk)),A0,A0,hp];rfl) (fun k t⟨b0,e⟩ hk hp=>by
  subst e;refine⟨_,?_,⟨(k:Int),cnt⟩,rfl⟩;unfold M_o;dsimp only;rw[az (by omega) (by omega),g7 hk,g9];show((th n list (wB s ⟨(k:Int),cnt⟩)).bind fun rZ1=>some (rZ1,wB s ⟨(k:Int),cnt⟩,n,list)).bind _=_;rw[qd hn hl hs (h.wB (lP h0 hk)),A0,A0,hp,dI k (by omega)];rfl) (fun k t⟨b0,e⟩ hk hp=>by
  subst e;refine⟨.inl (n,list,wB s b0),?_,wB s b0,rfl⟩;unfold M_o;dsimp only;rw[az (by omega) (by omega),u9 (by omega),g8]) (0,n,list,s) ⟨s.P,rfl⟩
 refine⟨o,q1,?_⟩;cases o with
 | none =>
   obtain⟨s',q2⟩:=q2;subst q2;exact⟨s',by rw[e];rfl⟩
 | some k =>
   simp only at q2;subst q2;exact⟨s,by rw[e];rfl⟩
end
end Vs

namespace Vs
open Go
def wK{n:af}{list:List ae}(h:fC n list=true):(list.map (·.Id)).Pairwise (·<·):=by
 unfold fC at h;simp only[A8,decide_eq_true_eq,D4] at h;refine Tl fun i a b ha hb=>?_;rw[C0,Option.map_eq_some_iff] at ha hb;obtain⟨x,hx,rfl⟩:=ha;obtain⟨y,hy,rfl⟩:=hb;have:=cC.1 h.2 (i+1) y hy;unfold ip at this;simp only[K2,hx,D5,Bool.and_eq_false_iff,decide_eq_false_iff_not] at this;omega
theorem vp(id:Int):∀(L:List ae)(i:Nat)(x:ae),(L.map (·.Id)).Nodup->L[i]?=some x->x.Id=id->(L.filter fun y=>y.Id !=id)=L.take i++L.drop (i+1)
 |[],i,x,_,h,_=>by simp at h
 | a :: L, 0, x, hn, h, hi => by
   simp only[I5,Option.some.injEq] at h;subst h;simp only[D8,I1] at hn;have:(a.Id !=id)=false:=by simp[hi]
   rw[K9,this];simp only[C4,if_false,P4,L9,N7,J9];rw[J6];intro y hy;have:y.Id≠id:=fun e=>hn.1 (by rw[hi,<-e];exact D9.2 ⟨y,hy,rfl⟩);simpa using this
 | a :: L, i + 1, x, hn, h, hi => by
   simp only[L3] at h;simp only[D8,I1] at hn;have hne:a.Id≠id:=fun e=>hn.1 (by rw[e,<-hi];exact D9.2 ⟨x,A3 h,rfl⟩);have:(a.Id !=id)=true:=by simpa using hne
   rw[K9,this];simp only[if_true,List.take_succ_cons,N7,I9];rw[vp id L i x hn.2 h hi]
def ajx(xs:List ae)(f:ae->Option Bool)(p:ae->Bool)(hf:∀x∈xs,f x=some (p x))(hl:xs.length<=1048576):Bo xs f=some (match cD (fun _ x=>p x) xs with|some q=>(q.1:Int)|none=>-1):=by
 unfold Bo;rw[cO (f:=wS xs f) xs (fun _ x=>p x) (fun i _=>(i:Int)) () (fun i x hx _=>by
  have hlt:=(A2.1 hx).1;have h1:decide ((i:Int)<xs.length)=true:=by simp[hlt]
  simp only[wS,h1,cond_true,aV,hx,hf x (A3 hx),A0];rw[az (by omega) (by omega)];cases p x<;>rfl) (by simp[wS]) (by omega)]
 cases cD (fun _ x=>p x) xs<;>rfl
def OQ{f:Int×List ae->Option ((Int×List ae)⊕List ae)}(xs:List ae)(p:ae->Bool)(hl:xs.length<=1048576)
 (h1:∀(i:Nat) x(a:List ae),xs[i]?=some x->a.length<=i->f ((i:Int),a)=some (.inl (((i+1:Nat):Int),if p x then a++[x] else a))) (h2:∀a,f ((xs.length:Int),a)=some (.inr a)):aZ f N0 (0,[])=some (xs.filter p):=by
 have:=dl (f:=f) xs (fun i(a:List ae)=>((i:Int),a)) (fun _ x a=>.inl (if p x then a++[x] else a)) (fun a=>a) (fun i a=>a.length<=i) (fun i a x hx hI=>.inl ⟨_,rfl,by split<;>(try simp only[A7,B4,B9])<;>omega,h1 i x a hx hI⟩) (fun a _=>h2 a) [] (F0 0) (by omega);have e0:((0:Nat):Int)=0:=rfl;simp only[e0] at this;rw[this];have gen:∀(ys:List ae)(i:Nat)(a:List ae),bU (fun(_:Nat)(x:ae)(a:List ae)=>(.inl (if p x then a++[x] else a):List ae⊕List ae)) (fun a=>a) i ys a=a++ys.filter p:=by
  intro ys;induction ys with
  |nil=>intro i a;simp[bU]
  |cons y ys ih=>intro i a;simp only[bU];rw[ih];cases h:p y<;>simp[h]
 rw[gen];rfl
theorem gZ(list:List ae)(hl:bG list<=1048576):wT list=some list:=by
 have hll:=DL hl;unfold wT;rw[OQ (f:=Ii list) list (fun _=>true) hll (fun i x a hx ha=>by
  have hlt:=(A2.1 hx).1;have e1:decide ((i:Int)<list.length)=true:=by simp[hlt]
  obtain⟨w1,w2⟩:=uf hl (A3 hx);simp only[Ii,e1,cond_true,aV,hx,A0,LQ,bnd];rw[aW (by omega)];simp only[A0];rw[aW (by omega)];simp only[A0];rw[aW (by omega),az (by omega) (by omega)];rfl) (fun a=>by simp[Ii])]
 simp
def Ak(s:ae)(h1:s.N.F.length<=1048576)(h2:s.F.F.length<=1048576):zp s=some s:=by
 unfold zp Sy pw;rw[aW (by omega)];simp only[A0];rw[aW (by omega)];rfl
def dpP(n:af)(list:List ae)(id:Int):List ae×Bool:=
 if fC n list&&list.any fun s=>s.Id==id then(list.filter fun s=>s.Id !=id,true) else([],false)
def mr(n:af)(list:List ae)(id:Int)(hz:bJ n<=1048576)(hl:bG list<=1048576):LJ n list id=some (dpP n list id):=by
 have hll:=DL hl;unfold LJ dpP;rw[ajx list (fun x0=>LL x0 id) (fun s=>s.Id==id) (fun x _=>rfl) hll];simp only[A0,cP n list hz hl];cases hf:cD (fun _(s:ae)=>s.Id==id) list with
 | none =>
   have h0:=dE.1 hf;have ha:(list.any fun s=>s.Id==id)=false:=by
    rw[G2];intro x hx;obtain⟨i,hi⟩:=B5 hx;simpa using h0 i x hi
   rw[ha,P3];cases fC n list<;>rfl
 | some q =>
   obtain⟨i,x⟩:=q;obtain⟨f1,f2,_⟩:=cA.1 hf;have hlt:=(A2.1 f1).1;have hid:x.Id=id:=by simpa using f2
   have ha:(list.any fun s=>s.Id==id)=true:=C2.2 ⟨x,A3 f1,by simpa using hid⟩;have e0:decide (((i:Nat):Int)<0)=false:=u9 (by omega);rw[ha,H9];rcases bt (fC n list) with e|e
   ·rw[e];simp only[B0,cond_false,A0,e0,if_true,gZ list hl];have hd:yf _root_.id (⟨0,0,(⟨0,[]⟩:aj),(⟨0,0⟩:aD),(⟨0,[]⟩:aj),(⟨0,0⟩:aD)⟩:ae) (i:Int) (A5 .i64 ((i:Int)+1)) list=Kl (⟨0,0,(⟨0,[]⟩:aj),(⟨0,0⟩:aD),(⟨0,[]⟩:aj),(⟨0,0⟩:aD)⟩:ae) (i:Int) (A5 .i64 ((i:Int)+1)) list:=rfl;rw[hd,agw (by omega),Fj,u7 (by omega)];simp only[A0,bnd,A6];rw[eY,J9,J3 (by simp;omega),G6 (by simp;omega),vp id list i x (Cc (wK e)) f1 hid]
   ·rw[e];rfl
end Vs

namespace Vs
open Go
section
variable{n:af}{list:List ae}(hn:bA n=true)(hl:list.length<=1048576)(hs:∀x∈list,du n x){s:ae}(h:du n s){cnt:Int}(h0:0<=cnt)(hc:cnt<=24)
include hn hl hs h h0 hc
def ahj:∃o,FB cnt (fun k=>mj n list (sB s ⟨(k:Int),cnt⟩)) o/\∃s',BJ cnt n list s=some (match o with|some k=>(⟨(k:Int),cnt⟩,true,n,list,sB s ⟨(k:Int),cnt⟩)|none=>(⟨0,0⟩,false,n,list,s')):=by
 unfold BJ;obtain⟨o,b,e,q1,q2⟩:=wU (f:=Cx cnt) (fun k t=>∃b0,t=((k:Int),n,list,sB s b0)) cnt (fun k=>mj n list (sB s ⟨(k:Int),cnt⟩)) h0 (fun o b=>match o with|some k=>b=.inr (⟨(k:Int),cnt⟩,true,n,list,sB s ⟨(k:Int),cnt⟩)|none=>∃s',b=.inl (n,list,s')) (fun k t⟨b0,e⟩ hk hp=>by
  subst e;refine⟨_,?_,rfl⟩;unfold Cx;dsimp only;rw[az (by omega) (by omega),g7 hk,g9];show((th n list (sB s ⟨(k:Int),cnt⟩)).bind fun rZ1=>some (rZ1,sB s ⟨(k:Int),cnt⟩,n,list)).bind _=_;rw[qd hn hl hs (h.sB (lP h0 hk)),A0,A0,hp];rfl) (fun k t⟨b0,e⟩ hk hp=>by
  subst e;refine⟨_,?_,⟨(k:Int),cnt⟩,rfl⟩;unfold Cx;dsimp only;rw[az (by omega) (by omega),g7 hk,g9];show((th n list (sB s ⟨(k:Int),cnt⟩)).bind fun rZ1=>some (rZ1,sB s ⟨(k:Int),cnt⟩,n,list)).bind _=_;rw[qd hn hl hs (h.sB (lP h0 hk)),A0,A0,hp,dI k (by omega)];rfl) (fun k t⟨b0,e⟩ hk hp=>by
  subst e;refine⟨.inl (n,list,sB s b0),?_,sB s b0,rfl⟩;unfold Cx;dsimp only;rw[az (by omega) (by omega),u9 (by omega),g8]) (0,n,list,s) ⟨s.L,rfl⟩
 refine⟨o,q1,?_⟩;cases o with
 | none =>
   obtain⟨s',q2⟩:=q2;subst q2;exact⟨s',by rw[e];rfl⟩
 | some k =>
   simp only at q2;subst q2;exact⟨s,by rw[e];rfl⟩
def ahi(s0:ae):∃o,FB cnt (fun k=>mj n list (wB s ⟨(k:Int),cnt⟩)) o/\aZ (M_q n 0 list.length s0 cnt list) N0 (0,s)=some (match o with|some k=>.inl (wB s ⟨(k:Int),cnt⟩)|none=>.inr (s0,false,list)):=by
 obtain⟨o,b,e,q1,q2⟩:=wU (f:=M_q n 0 list.length s0 cnt list) (fun k t=>∃b0,t=((k:Int),wB s b0)) cnt (fun k=>mj n list (wB s ⟨(k:Int),cnt⟩)) h0 (fun o b=>b=match o with|some k=>.inl (wB s ⟨(k:Int),cnt⟩)|none=>.inr (s0,false,list)) (fun k t⟨b0,e⟩ hk hp=>by
  subst e;refine⟨_,?_,rfl⟩;unfold M_q;simp only[bnd,cV];rw[az (by omega) (by omega),u9 (by omega),g8];show(tP n list (wB s ⟨(k:Int),cnt⟩)).bind _=_;rw[pV hn hl hs (h.wB (lP h0 hk)),A0,hp];rfl) (fun k t⟨b0,e⟩ hk hp=>by
  subst e;refine⟨_,?_,⟨(k:Int),cnt⟩,rfl⟩;unfold M_q;simp only[bnd,cV];rw[az (by omega) (by omega),u9 (by omega),g8];show(tP n list (wB s ⟨(k:Int),cnt⟩)).bind _=_;rw[pV hn hl hs (h.wB (lP h0 hk)),A0,hp,dI k (by omega)];rfl) (fun k t⟨b0,e⟩ hk hp=>by
  subst e;refine⟨_,?_,rfl⟩;unfold M_q;simp only[bnd,cV];rw[az (by omega) (by omega),g7 (by omega),g9]) (0,s) ⟨s.P,rfl⟩
 exact⟨o,q1,by rw[e,q2]⟩
def aii:∃o,FB cnt (fun k=>mj n list (sB s ⟨(k:Int),cnt⟩)) o/\∃s',aZ (M_r n 0 list.length cnt list) N0 (0,s)=some (match o with|some k=>.inr (sB s ⟨(k:Int),cnt⟩,true,list)|none=>.inl s'):=by
 obtain⟨o,b,e,q1,q2⟩:=wU (f:=M_r n 0 list.length cnt list) (fun k t=>∃b0,t=((k:Int),sB s b0)) cnt (fun k=>mj n list (sB s ⟨(k:Int),cnt⟩)) h0 (fun o b=>∃s',b=match o with|some k=>.inr (sB s ⟨(k:Int),cnt⟩,true,list)|none=>.inl s') (fun k t⟨b0,e⟩ hk hp=>by
  subst e;refine⟨_,?_,s,rfl⟩;unfold M_r;simp only[bnd,cV];rw[az (by omega) (by omega),g7 hk,g9];show(tP n list (sB s ⟨(k:Int),cnt⟩)).bind _=_;rw[pV hn hl hs (h.sB (lP h0 hk)),A0,hp];rfl) (fun k t⟨b0,e⟩ hk hp=>by
  subst e;refine⟨_,?_,⟨(k:Int),cnt⟩,rfl⟩;unfold M_r;simp only[bnd,cV];rw[az (by omega) (by omega),g7 hk,g9];show(tP n list (sB s ⟨(k:Int),cnt⟩)).bind _=_;rw[pV hn hl hs (h.sB (lP h0 hk)),A0,hp,dI k (by omega)];rfl) (fun k t⟨b0,e⟩ hk hp=>by
  subst e;refine⟨.inl (sB s b0),?_,sB s b0,rfl⟩;unfold M_r;simp only[bnd,cV];rw[az (by omega) (by omega),u9 (by omega),g8]) (0,s) ⟨s.L,rfl⟩
 obtain⟨s',q2⟩:=q2;exact⟨o,q1,s',by rw[e,q2]⟩
end
def UM{n:af}{list:List ae}(h:fC n list=true):∃i:Nat,i<=list.length/\(∀j y,j<i->list[j]?=some y->y.Id=(j:Int)+1)/\∀j y,i<=j->list[j]?=some y->(i:Int)+1<y.Id:=by
 have ha:=wK h;have h1:∀y∈list,1<=y.Id:=fun y hy=>by
  have:=(od h).ok y hy;unfold eQ at this;simp only[A8,bQ] at this;omega
 clear h
 -- the first place whose number is not its own
 have key:∀m,m<=list.length->(∃i,i<m/\(∀j y,j<i->list[j]?=some y->y.Id=(j:Int)+1)/\∀y,list[i]?=some y->(i:Int)+1<y.Id)\/∀j y,j<m->list[j]?=some y->y.Id=(j:Int)+1:=by
  intro m;induction m with
  |zero=>exact fun _=>.inr fun j y hj=>by omega
  | succ m ih =>
    intro hm;rcases ih (by omega) with⟨i,i1,i2,i3⟩|h
    ·exact .inl ⟨i,by omega,i2,i3⟩
    ·have hx:list[m]?=some list[m]:=A1 (by omega);generalize list[m]=x at hx;have lo:(m:Int)+1<=x.Id:=by
      by_cases h0:m=0
      ·subst h0;have:=h1 x (A3 hx);omega
      ·have hy:list[m-1]?=some list[m-1]:=A1 (by omega);have e:=h (m-1) _ (by omega) hy;have:=B6.1 ha (m-1) m (by simp;omega) (by simp;omega) (by omega);rw[H3,H3] at this;have e2:list[m]=x:=by have:=A1 (l:=list) (i:=m) (by omega);rw[hx] at this;exact(Option.some.inj this).symm
       rw[e2] at this;omega
     by_cases hc:x.Id=(m:Int)+1
     ·right;intro j y hj hy;by_cases hjm:j=m
      ·subst hjm;rw[hx] at hy;cases hy;exact hc
      ·exact h j y (by omega) hy
     ·exact .inl ⟨m,by omega,h,fun y hy=>by rw[hx] at hy;cases hy;omega⟩
 rcases key list.length (F0 _) with⟨i,i1,i2,i3⟩|h
 ·refine⟨i,by omega,i2,fun j y hj hy=>?_⟩;have hx:list[i]?=some list[i]:=A1 i1;have:=i3 _ hx;by_cases hij:j=i
  ·subst hij;exact i3 y hy
  ·obtain⟨b1,b2⟩:=A2.1 hy;have q:=B6.1 ha i j (by simp;omega) (by simp;omega) (by omega);rw[H3,H3,b2] at q;omega
 ·exact⟨list.length,F0 _,h,fun j y hj hy=>by have:=(A2.1 hy).1;omega⟩
end Vs

namespace Vs
open Go
def DT{n:af}{fs:List aA}{d:aO}{c:aq}(h:ChO n fs d c):ph n c.F:=by
 obtain⟨l,hl⟩:=G1.1 h.vi;exact(jM h.net hl).1
def aeg(n:af):ph n ⟨0,[]⟩:=⟨by simp,fun x hx=>(nomatch hx),P2⟩
def Iq:fD ⟨0,0⟩:=⟨⟨by decide,by decide⟩,by decide,by decide⟩
def Cp{n:af}{list:List ae}(hn:bA n=true)(hl:list.length<=1048576)(hs:∀x∈list,du n x){fs:List aA}{d:aO}{w sp:aq}(hw:ChO n fs d w)(cls id q:Int)(hsp:ph n sp.F)(hq:cls≠0->ChO n fs d sp/\q=sp.N)(hz:cls=0->sp.F=⟨0,[]⟩):
 ∃ (r : Option ae) (s1 s2 : ae), ((Cm w.N n list ⟨id, 0, w.F, ⟨0, 0⟩, ⟨0, []⟩, ⟨0, 0⟩⟩).bind fun r => (cond (!r.2.1) (some true) (some (cls == 0)) : Option Bool).bind fun o => cond o (some ((⟨r.2.2.2.2.Id, cls, r.2.2.2.2.N, r.1, r.2.2.2.2.F, r.2.2.2.2.L⟩ : ae), r.2.1)) ((BJ sp.N r.2.2.1 r.2.2.2.1 ⟨r.2.2.2.2.Id, cls, r.2.2.2.2.N, r.1, sp.F, r.2.2.2.2.L⟩).bind fun q => some ((⟨q.2.2.2.2.Id, q.2.2.2.2.W, q.2.2.2.2.N, q.2.2.2.2.P, q.2.2.2.2.F, q.1⟩ : ae), q.2.1))) = some (match r with | some s => (s, true) | none => (s1, false)) ∧
   yI n 0 list.length ⟨id,cls,w.F,⟨0,0⟩,sp.F,⟨0,0⟩⟩ w.N q list=some (match r with|some s=>(s,true,list)|none=>(s2,false,list))/\
   ∀s,r=some s->mj n list s=true/\du n s/\∃k j:Nat,(k:Int)+w.N<=24/\(cls=0->s=⟨id,cls,w.F,⟨(k:Int),w.N⟩,⟨0,[]⟩,⟨0,0⟩⟩)/\(cls≠0->(j:Int)+sp.N<=24/\s=⟨id,cls,w.F,⟨(k:Int),w.N⟩,sp.F,⟨(j:Int),sp.N⟩⟩):=by
 have rw':=DT hw;have hI:du n ⟨id,0,w.F,⟨0,0⟩,⟨0,[]⟩,⟨0,0⟩⟩:=⟨rw',aeg n,Iq,Iq⟩;have hS:du n ⟨0,0,w.F,⟨0,0⟩,⟨0,[]⟩,⟨0,0⟩⟩:=⟨rw',aeg n,Iq,Iq⟩;obtain⟨o,a1,s',a2⟩:=aiy hn hl hs hI hw.c0 hw.c1;obtain⟨o',b1,b2⟩:=ahi hn hl hs hS hw.c0 hw.c1 ⟨id,cls,w.F,⟨0,0⟩,sp.F,⟨0,0⟩⟩;obtain rfl:o=o':=FB.uniq a1 b1;rw[a2,A0];unfold yI;cases o with
 | none =>
   refine⟨none,_,_,rfl,eC b2 rfl,fun s h=>by cases h⟩
 | some k =>
   have hb:=lP hw.c0 a1.1;by_cases hc:cls=0
   ·refine⟨some ⟨id,cls,w.F,⟨(k:Int),w.N⟩,sp.F,⟨0,0⟩⟩,⟨0,0,⟨0,[]⟩,⟨0,0⟩,⟨0,[]⟩,⟨0,0⟩⟩,⟨0,0,⟨0,[]⟩,⟨0,0⟩,⟨0,[]⟩,⟨0,0⟩⟩,?_,eC b2 ?_,fun s h=>?_⟩
    ·rw[hz hc,hc];rfl
    ·dsimp only;rw[show(cls==0)=true by simpa using hc,g9];rfl
    ·cases h;have hf:=a1.2.1;refine⟨?_,⟨rw',hsp,hb,Iq⟩,k,0,a1.1,fun _=>by rw[hz hc],fun h=>absurd hc h⟩;rw[hc,hz hc];exact hf
   ·obtain⟨hsp2,rfl⟩:=hq hc;have hc2:(cls==0)=false:=by simpa using hc
    have hI2:du n ⟨id,cls,w.F,⟨(k:Int),w.N⟩,sp.F,⟨0,0⟩⟩:=⟨rw',hsp,hb,Iq⟩;obtain⟨p,c1,t1,c2⟩:=ahj hn hl hs hI2 hsp2.c0 hsp2.c1;obtain⟨p',d1,t2,d2⟩:=aii hn hl hs hI2 hsp2.c0 hsp2.c1;obtain rfl:p=p':=FB.uniq c1 d1;cases p with
    | none =>
      refine⟨none,_,t2,eC (v:=false) (by rw[hc2];rfl) (eC c2 rfl),eC b2 ?_,fun s h=>by cases h⟩;dsimp only;rw[hc2,g8];exact eC d2 rfl
    | some j =>
      refine⟨some (sB ⟨id,cls,w.F,⟨(k:Int),w.N⟩,sp.F,⟨0,0⟩⟩ ⟨(j:Int),sp.N⟩),⟨0,0,⟨0,[]⟩,⟨0,0⟩,⟨0,[]⟩,⟨0,0⟩⟩,⟨0,0,⟨0,[]⟩,⟨0,0⟩,⟨0,[]⟩,⟨0,0⟩⟩,eC (v:=false) (by rw[hc2];rfl) (eC c2 rfl),eC b2 ?_,fun s h=>?_⟩
      ·dsimp only;rw[hc2,g8];exact eC d2 rfl
      ·cases h;exact⟨c1.2.1,hI2.sB (lP hsp2.c0 c1.1),k,j,a1.1,fun h=>absurd h hc,fun _=>⟨c1.1,rfl⟩⟩
def wId(i:Int)(cls:Int):ae:=⟨i,cls,⟨0,[]⟩,⟨0,0⟩,⟨0,[]⟩,⟨0,0⟩⟩
section
variable{list:List ae}(hl:list.length<=8){i:Nat}(hi:i<=list.length)(h1:∀j y,j<i->list[j]?=some y->y.Id=(j:Int)+1)(h2:∀j y,i<=j->list[j]?=some y->(i:Int)+1<y.Id)
include hl hi h1 h2
def ahe:aZ (M_k list) N0 (wId 1 0)=some (wId ((i:Int)+1) 0):=by
 have hc:∀k:Nat,tn list (fun x0=>QF x0 (wId ((k:Int)+1) 0))=some (list.any fun y=>y.Id==((k:Int)+1)):=fun k=>Pf list _ (fun y=>y.Id==((k:Int)+1)) (fun x _=>rfl) (by omega)
 suffices key:aZ (M_k list) N0 (wId (((0:Nat):Int)+1) 0)=some (wId ((i:Int)+1) 0) by
  rw[show(((0:Nat):Int)+1)=1 from rfl] at key;exact key
 refine eN (f:=M_k list) (fun j=>wId ((j:Int)+1) 0) i _ (fun j hj=>?_) ?_ (by omega)
 ·unfold M_k;rw[hc j];have hx:list[j]?=some list[j]:=A1 (by omega);have:(list.any fun y=>y.Id==((j:Int)+1))=true:=C2.2 ⟨_,A3 hx,by simpa using h1 j _ hj hx⟩;rw[this,A0,g9];show some (Sum.inl (wId (A5 .i64 ((j:Int)+1+1)) 0))=_;rw[az (by omega) (by omega)];rfl
 ·unfold M_k;rw[hc i];have:(list.any fun y=>y.Id==((i:Int)+1))=false:=by
   rw[G2];intro y hy e;obtain⟨j,hj⟩:=B5 hy;simp only[beq_iff_eq] at e;rcases Nat.lt_or_ge j i with c|c
   ·have:=h1 j y c hj;omega
   ·have:=h2 j y c hj;omega
  rw[this];rfl
def aix(cls:Int):aZ (M_d 0 list.length list) N0 (0,wId 1 cls)=some (wId ((i:Int)+1) cls):=by
 suffices key:aZ (M_d 0 list.length list) N0 (((0:Nat):Int),wId (((0:Nat):Int)+1) cls)=some (wId ((i:Int)+1) cls) by
  rw[show(((0:Nat):Int)+1)=1 from rfl,show((0:Nat):Int)=0 from rfl] at key;exact key
 refine eN (f:=M_d 0 list.length list) (fun j=>((j:Int),wId ((j:Int)+1) cls)) i _ (fun j hj=>?_) ?_ (by omega)
 ·unfold M_d;dsimp only;have hx:list[j]?=some list[j]:=A1 (by omega);rw[g7 (by omega),g9,aW (by omega)];simp only[A0,A6,D0];rw[hx,A0,h1 j _ hj hx,A0,show((j:Int)+1==(wId ((j:Int)+1) cls).Id)=true by simp[wId],g9,dI j (by omega)];show some (Sum.inl (((j+1:Nat):Int),wId (A5 .i64 ((j:Int)+1+1)) cls))=_;rw[az (by omega) (by omega)];rfl
 ·unfold M_d;dsimp only;by_cases c:i<list.length
  ·have hx:list[i]?=some list[i]:=A1 c;have:=h2 i _ (F0 _) hx;rw[g7 (by omega),g9,aW (by omega)];simp only[A0,A6,D0];rw[hx,A0,A0,show((list[i]).Id==(wId ((i:Int)+1) cls).Id)=false by rw[beq_eq_false_iff_ne];unfold wId;dsimp only;omega,g8]
  ·rw[u9 (by omega),g8];rfl
def p_at(s:ae)(hs:s.Id=(i:Int)+1)(b:Bool):aZ (M_z list (s,b)) N0 0=some (i:Int):=by
 suffices key:aZ (M_z list (s,b)) N0 ((0:Nat):Int)=some (i:Int) by
  rw[show((0:Nat):Int)=0 from rfl] at key;exact key
 refine eN (f:=M_z list (s,b)) (fun j=>(j:Int)) i _ (fun j hj=>?_) ?_ (by omega)
 ·unfold M_z;dsimp only;have hx:list[j]?=some list[j]:=A1 (by omega);have:=h1 j _ hj hx;rw[g7 (by omega),g9,aV,hx,A0,hs,g7 (by omega),g9,dI j (by omega)]
 ·unfold M_z;dsimp only;by_cases c:i<list.length
  ·have hx:list[i]?=some list[i]:=A1 c;have:=h2 i _ (F0 _) hx;rw[g7 (by omega),g9,aV,hx,A0,hs,u9 (by omega),g8]
  ·rw[u9 (by omega),g8]
def aif(hz:bG list<=1048576)(s:ae)(hs:s.Id=(i:Int)+1)(hw:s.N.F.length<=1048576)(hp:s.F.F.length<=1048576):GB list s=some (list.take i++[s]++list.drop i):=by
 have own:∀y∈list,zp y=some y:=fun y hy=>Ak y (uf hz hy).1 (uf hz hy).2;unfold GB;have l1:aZ (Ap list s) N0 (0,[])=some ((i:Int),list.take i):=by
  suffices key:aZ (Ap list s) N0 (((0:Nat):Int),list.take 0)=some ((i:Int),list.take i) by
   rw[P4,show((0:Nat):Int)=0 from rfl] at key;exact key
  refine eN (f:=Ap list s) (fun j=>((j:Int),list.take j)) i _ (fun j hj=>?_) ?_ (by omega)
  ·unfold Ap;dsimp only;have hx:list[j]?=some list[j]:=A1 (by omega);have:=h1 j _ hj hx;rw[g7 (by omega),g9,aV,hx,A0,hs,g7 (by omega),A0,g9,A0,own _ (A3 hx),A0];simp only[bnd];rw[aW (by rw[C5];omega),A0,dI j (by omega),G3,hx];rfl
  ·unfold Ap;dsimp only;by_cases c:i<list.length
   ·have hx:list[i]?=some list[i]:=A1 c;have:=h2 i _ (F0 _) hx;rw[g7 (by omega),g9,aV,hx,A0,hs,u9 (by omega),A0,g8]
   ·rw[u9 (by omega),g8];rfl
 rw[l1,A0,Ak s hw hp,A0];simp only[bnd];rw[aW (by rw[C5];omega),A0];have l2:aZ (Be list) N0 (((i+0:Nat):Int),list.take i++[s]++(list.drop i).take 0)=some (list.take i++[s]++list.drop i):=by
  refine eN (f:=Be list) (fun j=>(((i+j:Nat):Int),list.take i++[s]++(list.drop i).take j)) (list.length-i) _ (fun j hj=>?_) ?_ (by omega)
  ·unfold Be;dsimp only;have hx:list[i+j]?=some list[i+j]:=A1 (by omega);have hd:(list.drop i)[j]?=some list[i+j]:=by rw[K3];exact hx
   rw[g7 (by omega),g9,aV,hx,A0,own _ (A3 hx),A0];simp only[bnd];rw[aW (by simp only[A7,C5,J0,C1];omega),A0,dI _ (by omega),G3,hd,show i+j+1=i+(j+1) by omega];simp
  ·unfold Be;dsimp only;rw[u9 (by omega),g8,G6 (l:=list.drop i) (by rw[J0];omega)]
 have e0:list.take i++[s]++(list.drop i).take 0=list.take i++[s]:=by simp
 rw[e0] at l2;exact eC l2 rfl
end
end Vs





namespace Vs
open Go
theorem zV(a:Nat):BitVec.ofInt 64 (a:Int)=BitVec.ofNat 64 a:=by
 simp_all
theorem borS(a b:Nat)(ha:a<2^62)(hb:b<2^62):bits .or .i64 (a:Int) (b:Int)=((a ||| b:Nat):Int):=by
 have hab:a ||| b<2^62:=I6 ha hb;show A5 .i64 ((BitVec.ofInt 64 (a:Int) ||| BitVec.ofInt 64 (b:Int)).toNat:Int)=_
 grind [zV,BitVec.toNat_or,BitVec.toNat_ofNat,Nat.mod_eq_of_lt,az]
def Sa(a b:Nat)(ha:a<2^62)(hb:b<2^62):bits .and .i64 (a:Int) (b:Int)=((a &&& b:Nat):Int):=by
 have hab:a &&& b<=a:=J4;show A5 .i64 ((BitVec.ofInt 64 (a:Int) &&& BitVec.ofInt 64 (b:Int)).toNat:Int)=_
 grind [zV,BitVec.toNat_and,BitVec.toNat_ofNat,Nat.mod_eq_of_lt,az]
def gE(b:aD)(i:Nat):Bool:=decide (b.N<=(i:Int)/\(i:Int)<b.N+b.F)
def Qg{b:aD}(h:fD b)(h2:b.N+b.F<=24):∃m:Nat,fJ b=(m:Int)/\m<2^24/\∀i,m.testBit i=gE b i:=by
 obtain⟨⟨a1,a2⟩,a3,a4⟩:=h;obtain⟨F,C⟩:=b;obtain⟨f,rfl⟩:=D3 a1;obtain⟨c,rfl⟩:=D3 a3;simp only at a2 a4 h2;have q1:(2:Nat)^c<=2^24:=H0 (by omega) (by omega);have q2:0<(2:Nat)^c:=O8 c;have q3:(2:Nat)^c*2^f<=2^24:=by rw[<-Nat.pow_add];exact H0 (by omega) (by omega)
 have q4:0<(2:Nat)^f:=O8 f;have q5:(2^c-1)*2^f<2^24:=Nat.lt_of_lt_of_le (Nat.mul_lt_mul_of_pos_right (by omega) q4) q3;refine⟨(2^c-1)*2^f,?_,q5,fun i=>?_⟩
 ·unfold fJ;have e1:min (B2 (c:Int)) (B1 .i64)=c:=by rw[show B1 .i64=64 from rfl,A6];omega
  have e2:min (B2 (f:Int)) (B1 .i64)=f:=by rw[show B1 .i64=64 from rfl,A6];omega
  simp only[e1,e2];have p1:(1*2^c:Int)=((2^c:Nat):Int):=by rw[P9];exact_mod_cast rfl
  rw[p1,az (n:=((2^c:Nat):Int)) (by omega) (by omega),az (n:=((2^c:Nat):Int)-1) (by omega) (by omega)];have p2:(((2^c:Nat):Int)-1)*2^f=(((2^c-1)*2^f:Nat):Int):=by
   rw[Int.natCast_mul,Int.natCast_sub (by omega)];congr 1
  rw[p2,az (by omega) (by omega)]
 ·rw[<-Nat.shiftLeft_eq,Nat.testBit_shiftLeft,Nat.testBit_two_pow_sub_one];unfold gE;rw[C3];simp only[A8,decide_eq_true_eq];omega
def LM{b:aD}(h:fD b)(h2:b.N+b.F<=24):(((A9 24).countP (gE b):Nat):Int)=b.F:=by
 obtain⟨⟨a1,a2⟩,a3,a4⟩:=h;obtain⟨F,C⟩:=b;obtain⟨f,rfl⟩:=D3 a1;obtain⟨c,rfl⟩:=D3 a3;simp only at a2 a4 h2⊢;have key:∀N:Nat,(A9 N).countP (gE ⟨(f:Int),(c:Int)⟩)=min (f+c) N-min f N:=by
  intro N;induction N with
  |zero=>simp
  | succ N ih =>
    rw[H5,E9,ih];have e:gE ⟨(f:Int),(c:Int)⟩ N=decide (f<=N/\N<f+c):=by
     unfold gE;rw[C3];simp only[decide_eq_true_eq];omega
    grind
 rw[key];omega
def SD{a b:aD}(ha:fD a)(ha2:a.N+a.F<=24)(hb:fD b)(hb2:b.N+b.F<=24)(h:(bits .and .i64 (fJ a) (fJ b) !=0)=false)(i:Nat):(gE a i&&gE b i)=false:=by
 obtain⟨x,x1,x2,x3⟩:=Qg ha ha2;obtain⟨y,y1,y2,y3⟩:=Qg hb hb2;rw[x1,y1,Sa x y (by omega) (by omega)] at h;have h0:x &&& y=0:=by simpa using h
 rw[<-x3,<-y3,<-I2,h0,O5]
theorem QZ(p q r:Nat->Bool):∀(N:Nat),(∀i,i<N->p i=(q i||r i))->(∀i,i<N->(q i&&r i)=false)->(A9 N).countP p=(A9 N).countP q+(A9 N).countP r
 |0,_,_=>rfl
 | N + 1, h, hd => by
   rw[H5,E9,E9,E9,QZ p q r N (fun i hi=>h i (by omega)) (fun i hi=>hd i (by omega))];have h1:=h N (by omega);have h2:=hd N (by omega);simp only[List.countP_cons,List.countP_nil,h1];cases hq:q N<;>cases hr:r N
   ·simp<;>omega
   ·simp<;>omega
   ·simp<;>omega
   ·rw[hq,hr] at h2;cases h2
def xT(p:Nat->Bool)(N:Nat)(h:∀i,i<N->p i=false):(A9 N).countP p=0:=by
 simp_all
theorem EK(y:Nat):∀(N:Nat),y<N->(A9 N).countP (fun i:Nat=>decide (i=y))=1
 |0,h=>by omega
 | N + 1, h => by
   rw[H5,E9];by_cases hy:N=y
   ·subst hy;rw[xT _ N fun i hi=>u9 (by omega)];simp
   ·rw[EK y N (by omega)];simp[hy]
theorem Dx(N:Nat):∀(P:List Int),P.Nodup->(∀y∈P,0<=y/\y<N)->(A9 N).countP (fun i:Nat=>decide ((i:Int)∈P))=P.length
 |[],_,_=>xT _ N fun i _=>by simp
 | y :: P, hn, hr => by
   rw[I1] at hn;have hy:=hr y E8;rw[QZ _ (fun i=>decide (i=y.toNat)) (fun i:Nat=>decide ((i:Int)∈P)) N (fun i _=>by
    rw[C3];simp only[C9,decide_eq_true_eq,O6];constructor
    ·rintro(h|h)
     ·left;omega
     ·exact .inr h
    ·rintro(h|h)
     ·left;omega
     ·exact .inr h) (fun i _=>by
    by_cases h:i=y.toNat
    ·have:¬(i:Int)∈P:=by rw[show(i:Int)=y by omega];exact hn.1
     simp[this]
    ·simp[h]),EK _ N (by omega),Dx N P hn.2 fun z hz=>hr z (F3 _ hz)]
   simp;omega
theorem Dn(c:Int)(p:Nat->Bool):∀N,((A9 N).map fun i=>if p i then c else 0).sum=c*((A9 N).countP p:Nat)
 |0=>by simp
 | N + 1 => by
   rw[H5,G4,I3,Dn c p N,E9]
   grind
theorem Ek(f g:Nat->Int):∀N,((A9 N).map fun i=>f i+g i).sum=((A9 N).map f).sum+((A9 N).map g).sum
 |0=>by simp
 | N + 1 => by
   rw[H5,G4,G4,G4,I3,I3,I3,Ek f g N];simp only[D8,J7,H1,J8];omega
abbrev Use:=aj×aD
def orA(f:Nat)(a:Int)(q:Use):Int:=if decide ((f:Int)∈q.1.F) then bits .or .i64 a (fJ q.2) else a
structure mC(n:af)(bP:List Int)(q:Use):Prop where
 rt:ph n q.1
 bi:fD q.2
 b24:q.2.N+q.2.F<=24
 av:∀x∈q.1.F,x∉bP
theorem wX(f:Nat){n:af}{bP:List Int}:∀(qs:List Use)(m:Nat),m<2^24->(∀q∈qs,mC n bP q)->∃m':Nat,qs.foldl (orA f) (m:Int)=(m':Int)/\m'<2^24/\∀i,m'.testBit i=(m.testBit i||qs.any fun q=>decide ((f:Int)∈q.1.F)&&gE q.2 i)
 |[],m,hm,_=>⟨m,rfl,hm,fun i=>by simp⟩
 | q :: qs, m, hm, hq => by
   have hq0:=hq q E8;have hqs:=fun x hx=>hq x (F3 _ hx);by_cases c:(f:Int)∈q.1.F
   ·obtain⟨x,x1,x2,x3⟩:=Qg hq0.bi hq0.b24;obtain⟨m',a1,a2,a3⟩:=wX f qs (m ||| x) (I6 hm x2) hqs;refine⟨m',?_,a2,fun i=>?_⟩
    ·simp only[M0,orA,decide_eq_true c,if_true]
     grind [borS]
    grind
   ·obtain⟨m',a1,a2,a3⟩:=wX f qs m hm hqs;refine⟨m',?_,a2,fun i=>?_⟩
    ·simp_all [M0,decide_eq_false,C4,if_false,orA]
    simp_all
def vg{a b:List Int}{x:Int}(ha:x∈a)(hb:x∈b):lD a b=false:=by
 grind [Bool.not_eq_false',List.any_eq_true,decide_eq_true,lD]
def kb(qs:List Use):Int:=(qs.map fun q=>q.2.F*(q.1.F.length:Int)).sum
theorem EH{n:af}{bP:List Int}:∀qs:List Use,(∀q∈qs,mC n bP q)->((A9 n.F.length).map fun f:Nat=>(qs.map fun q=>if decide ((f:Int)∈q.1.F) then q.2.F else 0).sum).sum=kb qs
 | [], _ => by
   have:=Dn 0 (fun _=>false) n.F.length
   simp_all [J7,J8,kb]
 | q :: qs, hq => by
   have hq0:=hq q E8;have ih:=EH qs fun x hx=>hq x (F3 _ hx);have e:=Ek (fun f:Nat=>if decide ((f:Int)∈q.1.F) then q.2.F else 0) (fun f:Nat=>(qs.map fun q=>if decide ((f:Int)∈q.1.F) then q.2.F else 0).sum) n.F.length;simp only[D8,H1] at e⊢;rw[e,ih,Dn q.2.F (fun f:Nat=>decide ((f:Int)∈q.1.F)) n.F.length,Dx n.F.length q.1.F hq0.rt.nod fun y hy=>hq0.rt.fib y hy];unfold kb
   simp_all
def abl{a bP:List Int}(h:lD a bP=false):∃x∈a,x∈bP:=by
 simp_all [I4,C2,lD]
def EO{n:af}{s:ae}(h:eQ n s=true):gA s.P=true/\(s.W≠0->gA s.L=true/\apP n s.N.F s.F.F=true):=by
 unfold eQ at h
 grind
def YA{b:aD}(h:gA b=true):b.N+b.F<=24:=by
 unfold gA at h;simp only[A8,bQ] at h;omega
def akc{n:af}{a b:List Int}(h:apP n a b=true){x y:Int}(hx:x∈a)(hy:y∈b):y∉mf n x:=by
 simp_all [D4,G2,C2,decide_eq_true,apP]
def adr{n:af}{a b:List Int}(h:apP n a b=true)(ha:∀x∈a,iJ n x):lD a b=true:=by
 cases e:lD a b with
 |true=>rfl
 | false =>
   obtain⟨x,h1,h2⟩:=abl e;exact absurd ((nw (ha x h1)).2 (.inl rfl)) (akc h h1 h2)
def Py{n:af}{list:List ae}(h:fC n list=true){j i:Nat}{y x:ae}(hj:list[j]?=some y)(hi:list[i]?=some x)(hji:j<i):dZ n y x=true:=by
 unfold fC at h;simp only[A8,decide_eq_true_eq,D4] at h;have h3:=cC.1 h.2 i x hi;unfold ip at h3;simp only[D5] at h3;have h4:=G2.1 h3.2 y (A3 (i:=j) (by rw[E0,u7 hji];exact hj));simpa using h4
def Yy{c:Int}{l:Nat}(h0:0<=c)(h1:c<=24)(h2:l<=12):0<=c*(l:Int)/\c*(l:Int)<=288:=by
 have a:=N2 h0 (O0 l);have b:c*(l:Int)<=24*12:=N3 h1 (by omega) (by omega) (by omega);omega
def d3(c:Int):Int:=if c==3 then 1 else 0
def MT(a:List Int)(hl:a.length<=1048576):Rt a a=some true:=by
 unfold Rt;rw[bne_self_eq_false,g8];rw[io (f:=Ip a a) a (fun _=>false) (.inr false) (.inl ()) (fun i x hx=>by
  have hlt:=(A2.1 hx).1;have h1:decide ((i:Int)<a.length)=true:=by simp[hlt]
  simp only[Ip,h1,cond_true,aV,hx,A0,bne_self_eq_false,cond_false];rw[az (by omega) (by omega)];rfl) (by simp[Ip]) (by omega)]
 simp
end Vs

namespace Vs
open Go
structure SvX(n:af)(L:List ae):Prop where
 net:bA n=true
 len:L.length<=8
 ok:∀s∈L,eQ n s=true
 ids:(L.map (·.Id)).Pairwise (·<·)
 cmp:L.Pairwise fun a b=>dZ n a b=true
def vR{n:af}{L:List ae}:fC n L=true↔SvX n L:=by
 constructor
 ·intro h;have hs:=od h;refine⟨hs.net,hs.len,hs.ok,wK h,B6.2 fun i j hi hj hij=>Py h (A1 hi) (A1 hj) hij⟩
 ·intro h;unfold fC;simp only[A8,decide_eq_true_eq,D4];refine⟨⟨h.net,h.len⟩,cC.2 fun i x hx=>?_⟩;obtain⟨hi,hxe⟩:=A2.1 hx;unfold ip;simp only[D5];refine⟨⟨by rw[h.ok x (A3 hx)];rfl,?_⟩,?_⟩
  ·by_cases h0:0<i
   ·have hg:L[i-1]?=some L[i-1]:=A1 (by omega);rw[hg];have:=B6.1 h.ids (i-1) i (by simp;omega) (by simp;omega) (by omega);rw[H3,H3,hxe] at this;rw[g7 h0,B7];exact u9 (by omega)
   ·rw[u9 h0];rfl
  ·rw[G2];intro o ho;obtain⟨j,hj⟩:=B5 ho;rw[E0] at hj;split at hj
   ·rename_i hji;obtain⟨hjl,hje⟩:=A2.1 hj;have:=B6.1 h.cmp j i hjl hi hji;rw[hje,hxe] at this;simp[this]
   ·cases hj
def II{n:af}(a b:ae)(ia:du n a)(ib:du n b):dZ n a b=dZ n b a:=by
 unfold dZ;rw[il b.N b.P a.N,il b.N b.P a.F,il b.F b.L a.N,il b.F b.L a.F,Eu ib.wr.fib ia.wr.fib];cases eA a.N a.P b.N b.P<;>cases eA a.N a.P b.F b.L<;>cases eA a.F a.L b.N b.P<;>cases a.W==2<;>cases b.W==2<;>rfl
def TL{n:af}{list:List ae}{s:ae}{i:Nat}(h:SvX n list)(h8:list.length<8)(h1:∀j y,j<i->list[j]?=some y->y.Id=(j:Int)+1)(h2:∀j y,i<=j->list[j]?=some y->(i:Int)+1<y.Id)(hid:s.Id=(i:Int)+1)(hs:eQ n s=true)(hf:mj n list s=true):SvX n (list.take i++[s]++list.drop i):=by
 have hin:du n s:=iM h.net hs;have hall:∀o∈list,dZ n o s=true:=by unfold mj at hf;exact List.all_eq_true.1 hf
 have htd:list.take i++list.drop i=list:=I8 i list;have tk:∀x∈list.take i,x∈list/\x.Id<(i:Int)+1:=fun x hx=>by
  obtain⟨j,hj⟩:=B5 hx;rw[E0] at hj;split at hj
  ·rename_i hji;have:=h1 j x hji hj;exact⟨A3 hj,by omega⟩
  ·cases hj
 have dr:∀x∈list.drop i,x∈list/\(i:Int)+1<x.Id:=fun x hx=>by
  obtain⟨j,hj⟩:=B5 hx;rw[K3] at hj;exact⟨A3 hj,h2 (i+j) x (by omega) hj⟩
 have hids:=h.ids;have hcmp:=h.cmp;rw[<-htd,G4] at hids;rw[<-htd] at hcmp;obtain⟨i1,i2,i3⟩:=F4.1 hids;obtain⟨c1,c2,c3⟩:=F4.1 hcmp;refine⟨h.net,?_,fun x hx=>?_,?_,?_⟩
 ·simp only[A7,C5,J0,C1];omega
 ·simp only[C6,C8] at hx;rcases hx with(hx|hx)|hx
  ·exact h.ok x (tk x hx).1
  ·rw[hx];exact hs
  ·exact h.ok x (dr x hx).1
 ·rw[B3,G4,G4];refine F4.2 ⟨i1,G0.2 ⟨fun y hy=>?_,i2⟩,fun x hx y hy=>?_⟩
  ·obtain⟨z,hz,rfl⟩:=D9.1 hy;have:=(dr z hz).2;show s.Id<z.Id;omega
  ·rcases C9.1 hy with e|e
   ·obtain⟨z,hz,rfl⟩:=D9.1 hx;have:=(tk z hz).2;rw[e];show z.Id<s.Id;omega
   ·exact i3 x hx y e
 ·rw[B3];refine F4.2 ⟨c1,G0.2 ⟨fun y hy=>?_,c2⟩,fun x hx y hy=>?_⟩
  ·rw[II s y hin (iM h.net (h.ok y (dr y hy).1))];exact hall y (dr y hy).1
  ·rcases C9.1 hy with e|e
   ·rw[e];exact hall x (tk x hx).1
   ·exact c3 x hx y e
def JG{list:List ae}{s:ae}{i:Nat}(h1:∀j y,j<i->list[j]?=some y->y.Id=(j:Int)+1)(h2:∀j y,i<=j->list[j]?=some y->(i:Int)+1<y.Id)(hid:s.Id=(i:Int)+1):(list.take i++[s]++list.drop i).filter (fun y=>y.Id !=s.Id)=list:=by
 have tk:∀x∈list.take i,(x.Id !=s.Id)=true:=fun x hx=>by
  obtain⟨j,hj⟩:=B5 hx;rw[E0] at hj;split at hj
  ·rename_i hji;have:=h1 j x hji hj;rw[bne_iff_ne];omega
  ·cases hj
 have dr:∀x∈list.drop i,(x.Id !=s.Id)=true:=fun x hx=>by
  obtain⟨j,hj⟩:=B5 hx;rw[K3] at hj;have:=h2 (i+j) x (by omega) hj;rw[bne_iff_ne];omega
 rw[G8,G8,J6.2 tk,J6.2 dr];simp
def agm{n:af}{fs:List aA}{d:aO}{w sp:aq}(hw:ChO n fs d w){s:ae}{id:Int}(hid:1<=id/\id<=999)(hsp:d.W≠0->ChO n fs d sp/\apP n w.F.F sp.F.F=true){k j:Nat}(hk:(k:Int)+w.N<=24)(h0:d.W=0->s=⟨id,d.W,w.F,⟨(k:Int),w.N⟩,⟨0,[]⟩,⟨0,0⟩⟩)(h1:d.W≠0->(j:Int)+sp.N<=24/\s=⟨id,d.W,w.F,⟨(k:Int),w.N⟩,sp.F,⟨(j:Int),sp.N⟩⟩):eQ n s=true:=by
 have hcl:=hw.cl;have hpo:=hw.po;have blk:∀(k:Nat)(c:Int),0<c->(k:Int)+c<=24->gA ⟨(k:Int),c⟩=true:=fun k c h g=>by
  unfold gA;simp only[A8,bQ];omega
 by_cases hc:d.W=0
 ·rw[h0 hc];unfold eQ;simp only[A8,bQ];refine⟨⟨⟨⟨hid,hcl⟩,hw.vi⟩,blk k _ hpo hk⟩,?_⟩;rw[u7 hc];simp
 ·obtain⟨hs,ha⟩:=hsp hc;obtain⟨hj,e⟩:=h1 hc;rw[e];unfold eQ;simp only[A8,bQ];refine⟨⟨⟨⟨hid,hcl⟩,hw.vi⟩,blk k _ hpo hk⟩,?_⟩;rw[u6 hc];simp only[A8,decide_eq_true_eq];exact⟨⟨⟨⟨hs.vi,blk j _ hs.po hj⟩,by rw[hs.st,hw.st]⟩,by rw[hs.en,hw.en]⟩,ha⟩
end Vs

namespace Vs
open Go
def SY(a b:Nat)(ha:a<2^64)(hb:b<2^64):bits .and .u64 (a:Int) (b:Int)=((a &&& b:Nat):Int):=by
 have e:∀x:Nat,BitVec.ofInt 64 (x:Int)=BitVec.ofNat 64 x:=fun x=>by
  apply BitVec.eq_of_toNat_eq;simp[BitVec.toNat_ofInt]
 have hab:a &&& b<2^64:=K1 J4 ha;show A5 .u64 ((BitVec.ofInt 64 (a:Int) &&& BitVec.ofInt 64 (b:Int)).toNat:Int)=_;rw[e,e,BitVec.toNat_and,BitVec.toNat_ofNat,BitVec.toNat_ofNat,J1 ha,J1 hb,lf (by omega) (by omega)]
def Ie(a k:Nat)(hk:k<64):G5 (a:Int) (2^(min (B2 (k:Int)) (B1 .u64)))=((a/2^k:Nat):Int):=by
 have e:min (B2 (k:Int)) (B1 .u64)=k:=by rw[A6,show B1 .u64=64 from rfl];omega
 rw[e,H8 _ (by exact_mod_cast N1 (2^k))];simp
def Bh(a b c d:Nat)(ha:a<256)(hc:c<256):(a+256*b) &&& (c+256*d)=(a &&& c)+256*(b &&& d):=by
 have h:a &&& c<2^8:=K1 J4 ha;apply N4;intro i;have e1:a+256*b=2^8*b+a:=by omega
 have e2:c+256*d=2^8*d+c:=by omega
 have e3:(a &&& c)+256*(b &&& d)=2^8*(b &&& d)+(a &&& c):=by omega
 rw[e1,e2,e3,I2,F5 _ (show a<2^8 by omega),F5 _ (show c<2^8 by omega),F5 _ h];split
 ·rw[I2]
 ·rw[I2]
def by3(a b c:Nat):Nat:=a+256*(b+256*c)
def np{a b c m:Nat}(M:Nat)(ha:a<256)(hb:b<256)(hc:c<256)(hm:m<256)(hM:M=m+256*(m+256*(m+256*(M/16777216)))):by3 a b c &&& M=by3 (a &&& m) (b &&& m) (c &&& m):=by
 unfold by3;rw[hM,Bh a _ m _ ha hm,Bh b _ m _ hb hm,show c=c+256*0 by omega,Bh c 0 m _ hc hm];simp
def pc1(b:Nat):Nat:=((b/2) &&& 85)+(b &&& 85)
def pc2(b:Nat):Nat:=((b/4) &&& 51)+(b &&& 51)
def pc3(b:Nat):Nat:=(b/16+b) &&& 15
def Cr:∀b:Fin 256,pc1 b.val<256/\pc2 (pc1 b.val)<256/\pc3 (pc2 (pc1 b.val))=((A9 8).countP fun i=>b.val.testBit i)/\pc3 (pc2 (pc1 b.val))<=8/\pc2 (pc1 b.val)%16<=4/\pc2 (pc1 b.val)/16<=4:=by decide+kernel
def sh1:∀(b:Fin 256)(t:Fin 2),((b.val+256*t.val)/2)%256 &&& 85=((b.val/2) &&& 85):=by decide+kernel
def sh2:∀(b:Fin 256)(t:Fin 4),((b.val+256*t.val)/4)%256 &&& 51=((b.val/4) &&& 51):=by decide+kernel
def CR{a b c:Nat}(ha:a<256)(hb:b<256)(hc:c<256):by3 a b c<16777216:=by unfold by3;omega
def aka{a b c:Nat}(ha:a<256)(hb:b<256)(hc:c<256):(by3 a b c/2 &&& 6148914691236517205)+(by3 a b c &&& 6148914691236517205)=by3 (pc1 a) (pc1 b) (pc1 c):=by
 have e:by3 a b c/2=by3 ((a+256*(b%2))/2) ((b+256*(c%2))/2) (c/2):=by unfold by3;omega
 have t1:=sh1 ⟨a,ha⟩ ⟨b%2,by omega⟩;have t2:=sh1 ⟨b,hb⟩ ⟨c%2,by omega⟩;simp only at t1 t2;rw[J1 (by omega)] at t1 t2;rw[e,np (m:=85) _ (by omega) (by omega) (by omega) (by decide) (by decide),np (m:=85) _ ha hb hc (by decide) (by decide),t1,t2];unfold by3 pc1;omega
def ahq{a b c:Nat}(ha:a<256)(hb:b<256)(hc:c<256):(by3 a b c/4 &&& 3689348814741910323)+(by3 a b c &&& 3689348814741910323)=by3 (pc2 a) (pc2 b) (pc2 c):=by
 have e:by3 a b c/4=by3 ((a+256*(b%4))/4) ((b+256*(c%4))/4) (c/4):=by unfold by3;omega
 have t1:=sh2 ⟨a,ha⟩ ⟨b%4,by omega⟩;have t2:=sh2 ⟨b,hb⟩ ⟨c%4,by omega⟩;simp only at t1 t2;rw[J1 (by omega)] at t1 t2;rw[e,np (m:=51) _ (by omega) (by omega) (by omega) (by decide) (by decide),np (m:=51) _ ha hb hc (by decide) (by decide),t1,t2];unfold by3 pc2;omega
def AH(x:Nat):x &&& 15=x%16:=J2 x 4
def ajk{a b c:Nat}(ha:a%16<=4/\a/16<=4)(hb:b%16<=4/\b/16<=4)(hc:c%16<=4/\c/16<=4):(by3 a b c/16+by3 a b c) &&& 1085102592571150095=by3 (pc3 a) (pc3 b) (pc3 c):=by
 have e:by3 a b c/16+by3 a b c=by3 (a/16+16*(b%16)+a) (b/16+16*(c%16)+b) (c/16+c):=by unfold by3;omega
 rw[e,np (m:=15) _ (by omega) (by omega) (by omega) (by decide) (by decide)];unfold pc3;rw[AH,AH,AH,AH,AH];unfold by3;omega
def Po{a b c:Nat}(ha:a<256)(hb:b<256):((A9 24).countP fun i=>(by3 a b c).testBit i)=((A9 8).countP fun i=>a.testBit i)+((A9 8).countP fun i=>b.testBit i)+((A9 8).countP fun i=>c.testBit i):=by
 have t:∀i,(by3 a b c).testBit i=if i<8 then a.testBit i else if i<16 then b.testBit (i-8) else c.testBit (i-16):=fun i=>by
  rw[show by3 a b c=2^8*(2^8*c+b)+a by unfold by3;omega,F5 _ (show a<2^8 by omega)];split
  ·rfl
  ·rw[F5 _ (show b<2^8 by omega)];by_cases h:i<16
   ·rw[u7 (by omega),u7 h]
   ·rw[u6 (by omega),u6 h,Nat.sub_sub]
 have r:A9 24=A9 8++((A9 8).map (·+8)++(A9 8).map (·+16)):=by decide
 rw[r,E9,E9,O9,O9,<-P6];congr 1
 ·congr 1
  ·exact K7 fun i hi=>by rw[H7] at hi;rw[t i,u7 hi]
  ·exact K7 fun i hi=>by
    rw[H7] at hi;show(by3 a b c).testBit (i+8)=true↔_;rw[t (i+8),u6 (by omega),u7 (by omega),K2]
 ·exact K7 fun i hi=>by
   rw[H7] at hi;show(by3 a b c).testBit (i+16)=true↔_;rw[t (i+16),u6 (by omega),u6 (by omega),K2]
def Tx{x:Nat}(hx:x<2^24):RT (A5 .u64 (x:Int))=some (((A9 24).countP fun i=>x.testBit i:Nat):Int):=by
 obtain⟨a,b,c,ha,hb,hc,rfl⟩:∃a b c,a<256/\b<256/\c<256/\x=by3 a b c:=⟨x%256,x/256%256,x/65536,by omega,by omega,by omega,by unfold by3;omega⟩;obtain⟨a1,a2,a3,a4,a5⟩:=Cr ⟨a,ha⟩;obtain⟨b1,b2,b3,b4,b5⟩:=Cr ⟨b,hb⟩;obtain⟨c1,c2,c3,c4,c5⟩:=Cr ⟨c,hc⟩;simp only at a1 a2 a3 a4 a5 b1 b2 b3 b4 b5 c1 c2 c3 c4 c5;rw[Po ha hb,<-a3,<-b3,<-c3];have p1:=aka ha hb hc;have p2:=ahq a1 b1 c1;have p3:=ajk a5 b5 c5;generalize hx0:by3 a b c=x at*
 have l1:=CR a1 b1 c1;have l2:=CR a2 b2 c2;generalize hx1:by3 (pc1 a) (pc1 b) (pc1 c)=x1 at*
 generalize hx2:by3 (pc2 (pc1 a)) (pc2 (pc1 b)) (pc2 (pc1 c))=x2 at*
 generalize pc3 (pc2 (pc1 a))=q0 at*
 generalize pc3 (pc2 (pc1 b))=q1 at*
 generalize pc3 (pc2 (pc1 c))=q2 at*
 have l0:x<16777216:=by omega
 have s1:∀y:Nat,G5 (y:Int) (2^(min (B2 1) (B1 .u64)))=((y/2:Nat):Int):=fun y=>Ie y 1 (by decide);have s2:∀y:Nat,G5 (y:Int) (2^(min (B2 2) (B1 .u64)))=((y/4:Nat):Int):=fun y=>Ie y 2 (by decide);have s4:∀y:Nat,G5 (y:Int) (2^(min (B2 4) (B1 .u64)))=((y/16:Nat):Int):=fun y=>Ie y 4 (by decide);have s8:∀y:Nat,G5 (y:Int) (2^(min (B2 8) (B1 .u64)))=((y/256:Nat):Int):=fun y=>Ie y 8 (by decide);have s16:∀y:Nat,G5 (y:Int) (2^(min (B2 16) (B1 .u64)))=((y/65536:Nat):Int):=fun y=>Ie y 16 (by decide);have s32:∀y:Nat,G5 (y:Int) (2^(min (B2 32) (B1 .u64)))=((y/4294967296:Nat):Int):=fun y=>Ie y 32 (by decide);have m0:∀y:Nat,y<2^64->bits .and .u64 (y:Int) 6148914691236517205=((y &&& 6148914691236517205:Nat):Int):=fun y h=>SY y 6148914691236517205 h (by decide);have m1:∀y:Nat,y<2^64->bits .and .u64 (y:Int) 3689348814741910323=((y &&& 3689348814741910323:Nat):Int):=fun y h=>SY y 3689348814741910323 h (by decide);have m2:∀y:Nat,y<2^64->bits .and .u64 (y:Int) 1085102592571150095=((y &&& 1085102592571150095:Nat):Int):=fun y h=>SY y 1085102592571150095 h (by decide);have wu:∀y z:Nat,y+z<2^64->A5 .u64 ((y:Int)+(z:Int))=((y+z:Nat):Int):=fun y z h=>by rw[lf (by omega) (by omega)];omega
 have le:∀y M:Nat,y &&& M<=y:=fun y M=>J4;have g1:=le (x/2) 6148914691236517205;have g2:=le x 6148914691236517205;have g3:=le (x1/4) 3689348814741910323;have g4:=le x1 3689348814741910323;unfold RT Vb oc6 oc5 oc4 oc3 oc2 oc1;rw[lf (n:=(x:Int)) (by omega) (by omega)];have E1:A5 .u64 ((bits .and .u64 (G5 (x:Int) (2^(min (B2 1) (B1 .u64)))) 6148914691236517205)+(bits .and .u64 (x:Int) 6148914691236517205))=(x1:Int):=by
  rw[s1,m0 _ (by omega),m0 _ (by omega),wu _ _ (by omega),p1]
 rw[E1];have E2:A5 .u64 ((bits .and .u64 (G5 (x1:Int) (2^(min (B2 2) (B1 .u64)))) 3689348814741910323)+(bits .and .u64 (x1:Int) 3689348814741910323))=(x2:Int):=by
  rw[s2,m1 _ (by omega),m1 _ (by omega),wu _ _ (by omega),p2]
 rw[E2];have E3:bits .and .u64 (A5 .u64 ((G5 (x2:Int) (2^(min (B2 4) (B1 .u64))))+(x2:Int))) 1085102592571150095=((by3 q0 q1 q2:Nat):Int):=by
  rw[s4,wu _ _ (by omega),m2 _ (by omega),p3]
 rw[E3];have E4:A5 .u64 (((by3 q0 q1 q2:Nat):Int)+(G5 ((by3 q0 q1 q2:Nat):Int) (2^(min (B2 8) (B1 .u64)))))=(((q0+q1)+256*(q1+q2)+65536*q2:Nat):Int):=by
  have:=CR (show q0<256 by omega) (show q1<256 by omega) (show q2<256 by omega);rw[s8,wu _ _ (by omega)];congr 1;unfold by3;omega
 rw[E4];have E5:A5 .u64 ((((q0+q1)+256*(q1+q2)+65536*q2:Nat):Int)+(G5 (((q0+q1)+256*(q1+q2)+65536*q2:Nat):Int) (2^(min (B2 16) (B1 .u64)))))=(((q0+q1+q2)+256*(q1+q2)+65536*q2:Nat):Int):=by
  rw[s16,wu _ _ (by omega)];congr 1;omega
 rw[E5];have E6:A5 .u64 ((((q0+q1+q2)+256*(q1+q2)+65536*q2:Nat):Int)+(G5 (((q0+q1+q2)+256*(q1+q2)+65536*q2:Nat):Int) (2^(min (B2 32) (B1 .u64)))))=(((q0+q1+q2)+256*(q1+q2)+65536*q2:Nat):Int):=by
  rw[s32,wu _ _ (by omega)];congr 1;omega
 rw[E6,az (by omega) (by omega),A0];have E7:bits .and .i64 (((q0+q1+q2)+256*(q1+q2)+65536*q2:Nat):Int) 127=((((q0+q1+q2)+256*(q1+q2)+65536*q2) &&& 127:Nat):Int):=Sa _ 127 (by omega) (by decide);rw[E7,show((q0+q1+q2)+256*(q1+q2)+65536*q2) &&& 127=((q0+q1+q2)+256*(q1+q2)+65536*q2)%128 from J2 _ 7];congr 2;omega
end Vs

namespace Vs
open Go
def jd{n:af}{s:ae}(hn:bA n=true)(h:eQ n s=true):mC n [] (rm s)/\mC n [] (fw s):=by
 have hi:=iM hn h;obtain⟨b1,b2⟩:=EO h;refine⟨⟨hi.wr,hi.wb,YA b1,fun x _=>L0⟩,⟨hi.sr,hi.sb,?_,fun x _=>L0⟩⟩;by_cases hc:s.W=0
 ·unfold eQ at h;simp only[A8] at h;have h2:=h.2;rw[u7 hc] at h2;simp only[A8,decide_eq_true_eq,beq_iff_eq] at h2;show s.L.N+s.L.F<=24;omega
 ·exact YA (b2 hc).1
theorem zZ(sel:ae->aj×aD)(f:Nat):∀(L:List ae)(k:Nat)(a:Int),dY (fun(_:Nat) s(a:Int)=>if decide ((f:Int)∈(sel s).1.F) then bits .or .i64 a (fJ (sel s).2) else a) k L a=(L.map sel).foldl (orA f) a
 |[],_,_=>rfl
 | s :: L, k, a => by
   simp only[dY,D8,M0];rw[zZ sel f L];rfl
def Dr{n:af}(sel:ae->aj×aD){L:List ae}(h:∀s∈L,mC n [] (sel s))(f:Nat):∃m:Nat,smF sel L f=(m:Int)/\m<2^24/\∀i,m.testBit i=(L.map sel).any fun q=>decide ((f:Int)∈q.1.F)&&gE q.2 i:=by
 obtain⟨m,h1,h2,h3⟩:=wX f (n:=n) (bP:=[]) (L.map sel) 0 (by decide) (fun q hq=>by grind);refine⟨m,?_,h2,fun i=>?_⟩
 ·grind [zZ,smF]
 simp_all
def ady{n:af}{L:List ae}(h:SvX n L)(f:Nat):bits .and .i64 (smF rm L f) (smF fw L f)=0:=by
 obtain⟨a,a1,a2,a3⟩:=Dr rm (fun s hs=>(jd h.net (h.ok s hs)).1) f;obtain⟨b,b1,b2,b3⟩:=Dr fw (fun s hs=>(jd h.net (h.ok s hs)).2) f;rw[a1,b1,Sa a b (by omega) (by omega)];have key:a &&& b=0:=by
  apply N4;intro i;rw[I2,a3,b3,O5,K4];intro hc;simp only[A8,C2,decide_eq_true_eq,D9] at hc;obtain⟨⟨q,⟨s,hs,rfl⟩,c1,c2⟩,q',⟨t,ht,rfl⟩,d1,d2⟩:=hc;have us:=(jd h.net (h.ok s hs)).1;have ut:=(jd h.net (h.ok t ht)).2;have fin:eA s.N s.P t.F t.L=false->False:=fun hcl=>by
   unfold eA at hcl;rw[vg (a:=s.N.F) (b:=t.F.F) c1 d1] at hcl;have:=SD us.bi us.b24 ut.bi ut.b24 (by simpa[rm,fw] using hcl) i;rw[c2,d2] at this;cases this
  obtain⟨x,hx⟩:=B5 hs;obtain⟨y,hy⟩:=B5 ht;obtain⟨xl,xe⟩:=A2.1 hx;obtain⟨yl,ye⟩:=A2.1 hy;have split3:∀{p q:ae},dZ n p q=true->eA p.N p.P q.F q.L=false/\eA p.F p.L q.N q.P=false:=fun hp=>by
   unfold dZ at hp;simp only[A8,D4,D5] at hp;exact⟨hp.1.1.2,hp.1.2⟩
  rcases H6 x y with e|e|e
  ·have:=B6.1 h.cmp x y xl yl e;rw[xe,ye] at this;exact fin (split3 this).1
  ·subst e;rw[hx] at hy;cases hy;by_cases hcl:s.W=0
   ·have h2:=h.ok s hs;unfold eQ at h2;simp only[A8] at h2;have h3:=h2.2;rw[u7 hcl] at h3;simp only[A8,decide_eq_true_eq] at h3;have:s.F.F=[]:=D6.1 h3.1.2;have d1':(f:Int)∈s.F.F:=d1;rw[this] at d1';cases d1'
   ·have:=adr ((EO (h.ok s hs)).2 hcl).2 (iM h.net (h.ok s hs)).wr.fib;rw[vg (a:=s.N.F) (b:=s.F.F) c1 d1] at this;cases this
  ·have:=B6.1 h.cmp y x yl xl e;rw[xe,ye] at this;exact fin (by rw[il];exact(split3 this).2)
 rw[key];rfl
theorem ud{α:Type}(q r:α->Bool):∀l:List α,l.countP (fun i=>q i||r i)<=l.countP q+l.countP r
 |[]=>by simp
 | x :: l => by
   have:=ud q r l
   grind
theorem Kv(f:Nat){n:af}:∀qs:List Use,(∀q∈qs,mC n [] q)->(((A9 24).countP fun i=>qs.any fun q=>decide ((f:Int)∈q.1.F)&&gE q.2 i:Nat):Int)<=(qs.map fun q=>if decide ((f:Int)∈q.1.F) then q.2.F else 0).sum
 |[],_=>by simp
 | q :: qs, hq => by
   have hq0:=hq q E8;have ih:=Kv f qs fun x hx=>hq x (F3 _ hx);have:=ud (fun i=>decide ((f:Int)∈q.1.F)&&gE q.2 i) (fun i=>qs.any fun q=>decide ((f:Int)∈q.1.F)&&gE q.2 i) (A9 24);simp only[List.any_cons,D8,H1];have h0:(((A9 24).countP fun i=>decide ((f:Int)∈q.1.F)&&gE q.2 i:Nat):Int)=if decide ((f:Int)∈q.1.F) then q.2.F else 0:=by
    by_cases c:(f:Int)∈q.1.F
    ·simp only[decide_eq_true c,B7,if_true];exact LM hq0.bi hq0.b24
    ·simp_all
   rw[<-h0];omega
def pF(L:List ae)(f:Nat):Int:=(((A9 24).countP fun i=>(L.map fw).any fun q=>decide ((f:Int)∈q.1.F)&&gE q.2 i:Nat):Int)
def OG(L:List ae)(f:Nat):0<=pF L f/\pF L f<=24:=by
 grind [List.countP_le_length,List.length_range,fw,decide,gE,List.range,pF]
theorem xr(f g:Nat->Int)(h:∀i,f i<=g i):∀N,((A9 N).map f).sum<=((A9 N).map g).sum
 |0=>by simp
 | N + 1 => by
   have:=xr f g h N
   grind [List.range_succ]
def aec{n:af}{L:List ae}(h:SvX n L):((A9 n.F.length).map (pF L)).sum<=kb (L.map fw):=by
 have hu:∀q∈L.map fw,mC n [] q:=fun q hq=>by obtain⟨s,hs,rfl⟩:=D9.1 hq;exact(jd h.net (h.ok s hs)).2
 rw[<-EH (L.map fw) hu];exact xr _ _ (fun f=>Kv f _ hu) _
theorem MC(L:List ae):∀k:Nat,0<=((A9 k).map (pF L)).sum/\((A9 k).map (pF L)).sum<=24*(k:Int)
 |0=>by simp
 | k + 1 => by
   have:=MC L k;have:=OG L k
   grind [List.range_succ]
theorem DH{n:af}:∀{L:List ae},(∀s∈L,mC n [] (fw s))->0<=kb (L.map fw)/\kb (L.map fw)<=288*(L.length:Int)
 |[],_=>by simp[kb]
 | s :: L, h => by
   have ih:=DH (L:=L) fun x hx=>h x (F3 _ hx);have hs:=h s E8;have:=Yy (c:=s.L.F) (l:=s.F.F.length) hs.bi.2.1 hs.bi.2.2 hs.rt.len
   grind [List.length_cons,kb,fw]
def SJ{n:af}{L:List ae}(h:SvX n L)(hz:bJ n<=1048576)(hl:bG L<=1048576):∃v,OS n L=some (v,true)/\0<=v:=by
 have ho:=vR.2 h;have hs:=od ho;have h8:=h.len;have hF:=(cU h.net).2.2;have hu:∀s∈L,mC n [] (fw s):=fun s hs=>(jd h.net (h.ok s hs)).2;have hsm:=gD n L hz hl;unfold JD at hsm;rw[cP n L hz hl,ho] at hsm;simp only[A0,B0,cond_false] at hsm;unfold OS;rw[cP n L hz hl,ho];simp only[A0,B0,cond_false];obtain⟨⟨W,S⟩,hm⟩:∃r,Bp n L=some r:=by
  cases hm:Bp n L with
  |none=>rw[hm] at hsm;cases hsm
  |some r=>exact⟨r,rfl⟩
 rw[hm] at hsm⊢;unfold smP at hsm;rw[u7 ho] at hsm;simp only[A0,Option.some.injEq,Prod.mk.injEq,and_true] at hsm;obtain⟨_,hS⟩:=hsm
 -- the sum
 have l1:=ij (f:=Ct L) L (fun i(a:Int)=>(a,(i:Int))) (fun(_:Nat) s a=>a+s.L.F*(s.F.F.length:Int)) id (fun i a=>0<=a/\a<=288*(i:Int)) (fun i a s hx hI=>by
  have hlt:=(A2.1 hx).1;have hus:=hu s (A3 hx);have:=Yy (c:=s.L.F) (l:=s.F.F.length) hus.bi.2.1 hus.bi.2.2 hus.rt.len;refine⟨by constructor<;>omega,?_⟩;unfold Ct;dsimp only;rw[g7 (by omega),g9,aV,hx,A0,Int.mul_comm,az (n:=s.L.F*(s.F.F.length:Int)) (by omega) (by omega),az (n:=a+_) (by omega) (by omega),dI i (by omega)]) (fun a _=>by unfold Ct;dsimp only;rw[u9 (by omega),g8];rfl) 0 ⟨by omega,by omega⟩ (by omega)
 have e1:∀(L:List ae)(k:Nat)(a:Int),dY (fun(_:Nat)(s:ae)(a:Int)=>a+s.L.F*(s.F.F.length:Int)) k L a=a+kb (L.map fw):=by
  intro L;induction L with
  |nil=>intro k a;simp[dY,kb]
  | cons s L ih =>
    intro k a;simp only[dY];rw[ih];unfold kb;simp only[D8,H1,fw];omega
 rw[e1] at l1;have tr:=DH hu;have l2:aZ (zj (W,S)) N0 (0+kb (L.map fw)-((A9 0).map (pF L)).sum,((0:Nat):Int))=some (kb (L.map fw)-((A9 n.F.length).map (pF L)).sum):=by
  have hSl:S.length=n.F.length:=by rw[hS];simp
  refine eN (f:=zj (W,S)) (fun j=>(0+kb (L.map fw)-((A9 j).map (pF L)).sum,(j:Int))) n.F.length _ (fun j hj=>?_) ?_ (by omega)
  ·unfold zj;dsimp only;obtain⟨m,m1,m2,m3⟩:=Dr fw hu j;have hat:S[j]?=some (m:Int):=by
    rw[hS,C0,J5 hj,<-m1];rfl
   have pe:(((A9 24).countP fun i=>m.testBit i:Nat):Int)=pF L j:=by
    unfold pF;congr 2;funext i;exact m3 i
   have q1:=MC L j;have q2:=OG L j;rw[g7 (by omega),g9,aW (by omega)];simp only[A0,A6];rw[hat,A0,Tx m2,A0,pe,az (by omega) (by omega),dI j (by omega),H5];simp only[G4,D8,J7,I3,H1,J8];congr 3;omega
  ·unfold zj;dsimp only;rw[u9 (by omega),g8];congr 2;omega
 have l1':aZ (Ct L) N0 (0,0)=some (0+kb (L.map fw)):=l1;have hp:=aec h;refine⟨kb (L.map fw)-((A9 n.F.length).map (pF L)).sum,?_,by omega⟩;rw[l1',A0,A0];have l2':aZ (zj (W,S)) N0 (0+kb (L.map fw),0)=some (kb (L.map fw)-((A9 n.F.length).map (pF L)).sum):=by
  simp only[List.range_zero,J7,J8,Int.sub_zero] at l2;exact l2
 rw[l2'];rfl
end Vs

namespace Vs
open Go
theorem DB{n:af}:∀{L:List ae},(∀s∈L,du n s)->(L.map fun x=>fK x).sum<=24*L.length
 |[],_=>by simp
 | s :: L, h => by
   have ih:=DB (L:=L) fun x hx=>h x (F3 _ hx);have hs:=h s E8;have a1:lp s.N=s.N.F.length:=rfl;have a2:lp s.F=s.F.F.length:=rfl;have h1:=hs.wr.len;have h2:=hs.sr.len;simp only[D8,H1,B4];unfold fK at ih⊢;omega
def SvX.z{n:af}{L:List ae}(h:SvX n L):bG L<=1048576:=by
 have:=DB (n:=n) (L:=L) fun s hs=>iM h.net (h.ok s hs);have:=h.len;unfold bG;omega
structure ZH(n:af)(list L:List ae)(id:Int):Prop where
 old:SvX n list
 new:SvX n L
 len:L.length=list.length+1
 back:(L.filter fun y=>y.Id !=id)=list
 has:(L.any fun y=>y.Id==id)=true
theorem xL{n:af}{list:List ae}(hz:bJ n<=1048576)(hl:bG list<=1048576)(ho:fC n list=true)(h8:list.length<8){fs:List aA}{d:aO}{w sp:aq}(hw:ChO n fs d w)(hsp:ph n sp.F)(q:Int)(hq:d.W≠0->ChO n fs d sp/\q=sp.N)(hap:d.W≠0->apP n w.F.F sp.F.F=true)(hc:d.W=0->sp.F=⟨0,[]⟩){i:Nat}(hi:i<=list.length)(h1:∀j y,j<i->list[j]?=some y->y.Id=(j:Int)+1)(h2:∀j y,i<=j->list[j]?=some y->(i:Int)+1<y.Id):
 ∃ (R : Option ae) (L : List ae) (id : Int) (ok : Bool) (s1 s2 : ae), ((Cm w.N n list ⟨(i : Int) + 1, 0, w.F, ⟨0, 0⟩, ⟨0, []⟩, ⟨0, 0⟩⟩).bind fun r => (cond (!r.2.1) (some true) (some (d.W == 0)) : Option Bool).bind fun o => cond o (some ((⟨r.2.2.2.2.Id, d.W, r.2.2.2.2.N, r.1, r.2.2.2.2.F, r.2.2.2.2.L⟩ : ae), r.2.1)) ((BJ sp.N r.2.2.1 r.2.2.2.1 ⟨r.2.2.2.2.Id, d.W, r.2.2.2.2.N, r.1, sp.F, r.2.2.2.2.L⟩).bind fun q => some ((⟨q.2.2.2.2.Id, q.2.2.2.2.W, q.2.2.2.2.N, q.2.2.2.2.P, q.2.2.2.2.F, q.1⟩ : ae), q.2.1))) = some (match R with | some s => (s, true) | none => (s1, false)) ∧
   yI n 0 list.length ⟨(i:Int)+1,d.W,w.F,⟨0,0⟩,sp.F,⟨0,0⟩⟩ w.N q list=some (match R with|some s=>(s,true,list)|none=>(s2,false,list))/\
   (match R with
    |some s=>id=s.Id/\ok=true/\(∀b,((wT list).bind fun rZ7=>(aZ (M_z list (s,b)) N0 0).bind fun oZ12=>bnd ([s]) fun lZ13=>(wT lZ13).bind fun rZ17=>(mG 112 rZ7 oZ12 rZ17).bind fun lZ18=>some (lZ18,s.Id,true))=some (L,id,ok))/\GB list s=some L/\ZH n list L id
    |none=>L=[]/\id=0/\ok=false):=by
 have hs:=od ho;obtain⟨R,s1,s2,e1,e2,e3⟩:=Cp hs.net (by omega) hs.svc hw d.W ((i:Int)+1) q hsp hq hc;cases R with
 |none=>exact⟨none,[],0,false,s1,s2,e1,e2,rfl,rfl,rfl⟩
 | some s =>
   obtain⟨hfit,hin,k,j,hk,hA,hB⟩:=e3 s rfl;have i1:s.Id=(i:Int)+1:=by
    by_cases c:d.W=0
    ·rw[hA c]
    ·rw[(hB c).2]
   have hok:eQ n s=true:=agm hw ⟨by omega,by omega⟩ (fun c=>⟨(hq c).1,hap c⟩) hk hA hB;have hX:=vR.1 ho;have hN:=TL hX h8 h1 h2 i1 hok hfit;have w1:=hin.wr.len;have w2:=hin.sr.len;refine⟨some s,list.take i++[s]++list.drop i,s.Id,true,s1,s2,e1,e2,rfl,rfl,fun b=>?_,aif (by omega) hi h1 h2 hl s i1 (by omega) (by omega),hX,hN,?_,JG h1 h2 i1,?_⟩
   ·have zs:bG [s]<=1048576:=by
     have a1:lp s.N=s.N.F.length:=rfl;have a2:lp s.F=s.F.F.length:=rfl;unfold bG fK;simp only[C1,D8,J7,H1,J8];omega
    refine eC (gZ list hl) (eC (p_at (by omega) hi h1 h2 s i1 b) ?_);simp only[bnd];refine eC (gZ [s] zs) ?_;unfold mG;rw[u7 ⟨by omega,by simpa using hi,by simp,by simp only[C1];omega⟩];simp
   ·simp only[A7,C5,J0,C1];omega
   ·rw[C2];exact⟨s,by simp,by simp⟩
def xz(n:af){fs fl:List aA}{st ln:Nat}(hfs:cY fl st ln=fs)(list:List ae)(d:aO)(hz:bJ n<=1048576)(hfl:fs.length<=1048576)(hl:bG list<=1048576):
 ∃L id ok,MU n fs list d=some (L,id,ok)/\AR n st ln 0 list.length d fl list=some (id,ok,L,fl,list)/\(ok=false->L=[])/\(ok=true->ZH n list L id):=by
 unfold MU AR;simp only[bnd,cV];rw[cP n list hz hl,Jl n list hz hl];simp only[A0];cases ho:fC n list with
 |false=>exact⟨[],0,false,rfl,rfl,fun _=>rfl,fun h=>by cases h⟩
 | true =>
   have hs:=od ho;have h8:=hs.len;by_cases hc8:list.length=8
   ·rw[show((list.length:Int)==8)=true by rw[hc8];rfl];exact⟨[],0,false,rfl,rfl,fun _=>rfl,fun h=>by cases h⟩
   ·rw[show((list.length:Int)==8)=false by rw[beq_eq_false_iff_ne];omega];simp only[B0,cond_false,A0];obtain⟨i,hi,h1,h2⟩:=UM ho;obtain⟨c,ok1,r1,r2,r3⟩:=Bs n d hfs hz hfl;have id1:=ahe h8 hi h1 h2;have id2:=aix h8 hi h1 h2 d.W;unfold Tr;rw[show aZ (M_k list) N0 (⟨1,0,(⟨0,[]⟩:aj),(⟨0,0⟩:aD),(⟨0,[]⟩:aj),(⟨0,0⟩:aD)⟩:ae)=some (wId ((i:Int)+1) 0) from id1,show aZ (M_d 0 list.length list) N0 (0,(⟨1,d.W,(⟨0,[]⟩:aj),(⟨0,0⟩:aD),(⟨0,[]⟩:aj),(⟨0,0⟩:aD)⟩:ae))=some (wId ((i:Int)+1) d.W) from id2,r1,r2];simp only[A0];by_cases hcl:d.W=0
    ·rw[show(d.W !=0)=false by simp[hcl]];simp only[cond_false,A0];cases ok1 with
     |false=>exact⟨[],0,false,rfl,rfl,fun _=>rfl,fun h=>by cases h⟩
     | true =>
       have hw:=r3 rfl;simp only[B0,cond_false];obtain⟨R,L,id,ok,s1,s2,t1,t2,t3⟩:=xL hz hl ho (by omega) hw (sp:=⟨⟨0,[]⟩,0⟩) (aeg n) 0 (fun h=>absurd hcl h) (fun h=>absurd hcl h) (fun _=>rfl) hi h1 h2;have q1:(py n c.F)=some (dq n c.F):=eL hw.rt;rw[q1,A0];simp only[hfs];rw[pN fs _ _ hw.fo hw.ra,<-hw.cn,A0];cases R with
       | none =>
         obtain⟨rfl,rfl,rfl⟩:=t3;exact⟨[],0,false,eC t1 rfl,eC t2 rfl,fun _=>rfl,fun h=>by cases h⟩
       | some s =>
         obtain⟨u1,u2,u3,u4,u5⟩:=t3;refine⟨L,id,ok,eC t1 (u3 true),eC t2 ?_,(fun h=>by rw[u2] at h;cases h),fun _=>u5⟩;simp only[B0,cond_false,cV];rw[u4,u1,u2];rfl
    ·rw[show(d.W !=0)=true by simp[hcl]];obtain⟨x,y,ok2,p1,p2,_,_,p5⟩:=GU n d hfs hz hfl;simp only[cond_true];rw[p1,p2];simp only[A0];cases ok2 with
     |false=>exact⟨[],0,false,rfl,rfl,fun _=>rfl,fun h=>by cases h⟩
     | true =>
       obtain⟨hw,hy,hap⟩:=p5 rfl;simp only[B0,cond_false];obtain⟨R,L,id,ok,s1,s2,t1,t2,t3⟩:=xL hz hl ho (by omega) hw (sp:=y) (DT hy) y.N (fun _=>⟨hy,rfl⟩) (fun _=>hap) (fun h=>absurd h hcl) hi h1 h2;have q1:(py n x.F)=some (dq n x.F):=eL hw.rt;have q2:(py n (⟨y.F.N,y.F.F⟩:aj))=some (dq n y.F):=eL hy.rt;rw[q2,q1,A0];simp only[hfs,A0];rw[pN fs _ _ hw.fo hw.ra,pN fs _ _ hy.fo hy.ra,<-hw.cn,<-hy.cn];simp only[A0];cases R with
       | none =>
         obtain⟨rfl,rfl,rfl⟩:=t3;exact⟨[],0,false,eC t1 rfl,eC t2 rfl,fun _=>rfl,fun h=>by cases h⟩
       | some s =>
         obtain⟨u1,u2,u3,u4,u5⟩:=t3;refine⟨L,id,ok,eC t1 (u3 true),eC t2 ?_,(fun h=>by rw[u2] at h;cases h),fun _=>u5⟩;simp only[B0,cond_false,cV];rw[u4,u1,u2];rfl
end Vs

namespace Vs
open Go
def agk(n:af)(d:aO)(list:List ae)(hz:bJ n<=1048576)(hl:bG list<=1048576)(hL:∀x∈list,SvL x):
 ∃id ok L,AR n 0 2 0 list.length d F2 list=some (id,ok,L,F2,list)/\(ok=true->L.length<=9/\∀x∈L,SvL x):=by
 obtain⟨L,id,ok,_,h2,_,h4⟩:=xz n (show cY F2 0 2=F2 from rfl) list d hz (by decide) hl;refine⟨id,ok,L,h2,fun h=>?_⟩;have hA:=(h4 h).new;have:=hA.len;refine⟨by omega,fun x hx=>?_⟩;have hi:=iM hA.net (hA.ok x hx);have h1:=hi.wr.len;have h2:=hi.sr.len;exact⟨by omega,by omega⟩
end Vs

namespace Vs
open Go
structure bw(c:aG)(m:Nat):Prop where
 by8:∀x∈c.N,0<=x/\x<=255
 len:c.N.length<=65536
 at0:0<=c.F
 atm:c.F<=(m:Int)
def aco(x:Int):0<=bits .and .u64 x 255/\bits .and .u64 x 255<=255:=by
 have h:(BitVec.ofInt (B1 .u64) x &&& BitVec.ofInt (B1 .u64) 255).toNat<=255:=by
  rw[BitVec.toNat_and];exact P8 Nat.and_le_right (by decide)
 unfold bits;simp only;generalize (BitVec.ofInt (B1 .u64) x &&& BitVec.ofInt (B1 .u64) 255).toNat=k at h;have:A5 .u64 (k:Int)=(k:Int):=by
  unfold A5;simp[B1,IntKind.signed];omega
 rw[this];omega
def OD{c:aG}{m:Nat}(h:bw c m)(hm:m<=1000000000000):∃b c',Jj c=some (b,c')/\0<=b/\b<=255/\bw c' (m+1):=by
 obtain⟨h1,h2,h3,h4⟩:=h;have hb:∃b,(cond (decide (c.F<(c.N.length:Int))) ((bC c.N c.F).bind fun yZ2=>some (A5 .i64 yZ2)) (some 0):Option Int)=some b/\0<=b/\b<=255:=by
  by_cases e:c.F<(c.N.length:Int)
  ·rw[g7 e,g9];have hlt:c.F.toNat<c.N.length:=by omega
   have hg:bC c.N c.F=some c.N[c.F.toNat]:=by
    unfold bC;rw[u7 h3];exact A1 hlt
   have:=h1 _ (F9 hlt);rw[hg];refine⟨c.N[c.F.toNat],?_,this.1,this.2⟩;simp only[A0];rw[az (by omega) (by omega)]
  ·rw[u9 e,g8];exact⟨0,rfl,by omega,by omega⟩
 obtain⟨b,b1,b2,b3⟩:=hb;unfold Jj;rw[b1];simp only[A0];rw[az (n:=c.F+1) (by omega) (by omega)];by_cases e:c.F+1<=(c.N.length:Int)
 ·rw[g7 e,g9];exact⟨_,_,rfl,b2,b3,⟨h1,h2,by simp only;omega,by simp only;omega⟩⟩
 ·rw[u9 e,g8];have h5:=aco (G5 (A5 .u64 ((A5 .u64 ((A5 .u64 (c.L*6364136223846793005))+(A5 .u64 b)))+897897)) (2^(min (B2 40) (B1 .u64))));refine⟨_,_,rfl,?_,?_,⟨h1,h2,by simp only;omega,by simp only;omega⟩⟩
  ·rw[az (by omega) (by omega)];exact h5.1
  ·rw[az (by omega) (by omega)];exact h5.2
def bL{c:aG}{m:Nat}(n:Int)(h:bw c m)(hm:m<=100000000000):∃x c',M_b n c=some (x,c')/\0<=x/\(x<n\/x=0)/\bw c' (m+2):=by
 unfold M_b;by_cases e:n<=1
 ·rw[g7 e,g9];exact⟨0,c,rfl,by omega,.inr rfl,⟨h.by8,h.len,h.at0,by have:=h.atm;omega⟩⟩
 ·rw[u9 e,g8];obtain⟨b,c1,g1,g2,g3,g4⟩:=OD h (by omega);rw[g1];simp only[A0];by_cases e2:200<n
  ·rw[g7 e2,g9];obtain⟨b',c2,k1,k2,k3,k4⟩:=OD g4 (by omega);rw[k1];simp only[A0];rw[aW (by omega)];simp only[A0];refine⟨_,_,rfl,?_,.inl ?_,k4⟩
   ·rw[az (n:=b*256) (by omega) (by omega),az (by omega) (by omega)];exact P0 _ (by omega)
   ·exact O1 _ (by omega)
  ·rw[u9 e2,g8,aW (by omega)];simp only[A0];exact⟨_,_,rfl,P0 _ g2,.inl (O1 _ (by omega)),⟨g4.by8,g4.len,g4.at0,by have:=g4.atm;omega⟩⟩
def bw.up{c:aG}{m k:Nat}(h:bw c m)(hk:m<=k):bw c k:=⟨h.by8,h.len,h.at0,by have:=h.atm;omega⟩
def ND{c:aG}{m:Nat}(n:Int)(h:bw c m)(hm:m<=100000000000):∃b c',yY n c=some (b,c')/\bw c' (m+2):=by
 obtain⟨x,c1,g1,g2,g3,g4⟩:=bL n h hm;unfold yY;rw[g1];exact⟨_,_,rfl,g4⟩
def dP{c:aG}{m:Nat}(l:List Int)(h:bw c m)(hm:m<=100000000000)(hl:0<l.length):∃x c',nF c l=some (x,c',l)/\x∈l/\bw c' (m+2):=by
 obtain⟨i,c1,g1,g2,g3,g4⟩:=bL (l.length:Int) h hm;unfold nF;rw[g1];simp only[A0];have hi:i.toNat<l.length:=by omega
 rw[aW (by omega)];simp only[A0,A1 hi];exact⟨_,_,rfl,F9 hi,g4⟩
def ahp{c:aG}{m:Nat}(l:List ByteArray)(h:bw c m)(hm:m<=100000000000)(hl:0<l.length):∃x c',PT c l=some (x,c',l)/\x∈l/\bw c' (m+2):=by
 obtain⟨i,c1,g1,g2,g3,g4⟩:=bL (l.length:Int) h hm;unfold PT;rw[g1];simp only[A0];have hi:i.toNat<l.length:=by omega
 rw[aW (by omega)];simp only[A0,A1 hi];exact⟨_,_,rfl,F9 hi,g4⟩
end Vs

namespace Vs
open Go
def Hy(f g:aH):∃r,zS f g=some r:=by
 unfold zS;cases(f.A !=g.A)
 ·cases(f.B !=g.B)
  ·cases(f.N !=g.N)<;>exact⟨_,rfl⟩
  ·exact⟨_,rfl⟩
 ·exact⟨_,rfl⟩
def Fa(a b:Int):∃r,IK a b=some r:=by
 unfold IK;cases decide (a<b)<;>exact⟨_,rfl⟩
def Oz(a b:Int):∃r,Jc a b=some r/\a<=r/\b<=r/\(r=a\/r=b):=by
 unfold Jc;by_cases h:b<a
 ·grind
 ·rw[u9 h,g8];exact⟨b,rfl,by omega,by omega,.inr rfl⟩
def DV(l:List aH)(f:aH)(hl:l.length<=1048576):∃l',Ij l f=some l'/\l'.length=l.length+1:=by
 obtain⟨o,o1,i,rfl,o3⟩:=bq (f:=Gd l f) (fun s=>∃i:Nat,s=i/\i<=l.length) (fun s=>l.length-s.toNat) (fun o=>∃i:Nat,o=(i:Int)/\i<=l.length) (fun s hI=>by
  obtain⟨i,rfl,hi⟩:=hI;by_cases h:i<l.length
  ·obtain⟨r,hr⟩:=Hy l[i] f;simp only[Gd,decide_eq_true (show(i:Int)<(l.length:Int) by omega),cond_true,aV,A1 h,A0,hr];by_cases h2:r<=0
   ·left;rw[g7 h2,g9,az (n:=(i:Int)+1) (by omega) (by omega)];exact⟨_,rfl,⟨i+1,by simp,by omega⟩,by omega⟩
   grind
  ·right;simp only[Gd,decide_eq_false (show¬(i:Int)<(l.length:Int) by omega),cond_false]
   grind) N0 0 ⟨0,rfl,by omega⟩ (cI (by omega))
 unfold Ij;rw[o1];simp only[A0,slT,slF,A6,bnd];rw[u7 ⟨by omega,o3⟩,u7 ⟨by omega,o3⟩];simp only[A0];rw[aW (by simp;omega),];simp only[A0];rw[aW (by simp;omega)];simp only[A0];rw[aW (by simp;omega)];exact⟨_,rfl,by simp;omega⟩
def HY{c:aG}{m:Nat}(x:Int)(c0:aG)(hx:0<=x/\x<5)(i:Int)(hi:0<=i/\i<2+x)(fs:List aH)(hf:fs.length<=1000)(h:bw c m)(hm:m<=10000000000):
 ∃fs' c',Cq (x,c0) (i,fs,c)=some (.inl (i+1,fs',c'))/\fs'.length<=fs.length+1/\bw c' (m+6):=by
 obtain⟨b,c1,hb,hc⟩:∃b c1,(cond (i==P5 (i+1) (2+x)) (some (true,c)) ((yY 10 c).bind fun rZ10=>some (rZ10.1,rZ10.2)):Option (Bool×aG))=some (b,c1)/\bw c1 (m+2):=by
  cases(i==P5 (i+1) (2+x))
  ·obtain⟨b,c1,g1,g2⟩:=ND 10 h (by omega)
   grind
  ·exact⟨true,c,rfl,h.up (by omega)⟩
 simp only[Cq,az (n:=2+x) (by omega) (by omega),az (n:=i+1) (by omega) (by omega),decide_eq_true hi.2,cond_true,aW (show(2+x)≠0 by omega),A0,hb];cases b with
 |true=>exact⟨fs,c1,rfl,by omega,hc.up (by omega)⟩
 | false =>
   obtain⟨a1,ha1⟩:=Fa i (P5 (i+1) (2+x));obtain⟨a2,ha2,_⟩:=Oz i (P5 (i+1) (2+x));obtain⟨x8,c2,g1,g2,g3,g4⟩:=bL 8 hc (by omega);obtain⟨rk,c3,k1,k2,k3⟩:=dP [0,0,0,1,2] g4 (by omega) (by simp);obtain⟨l',l1,l2⟩:=DV fs ⟨a1,a2,A5 .i64 (100*(A5 .i64 (1+x8))),rk⟩ (by omega);simp only[cond_false,ha1,ha2,g1,bnd,k1,l1,A0]
   grind
def Hb{c:aG}{m:Nat}(x:Int)(c0:aG)(hx:0<=x/\x<5)(i:Int)(hi:0<i/\i<=10)(fs:List aH)(hf:fs.length<=1000)(h:bw c m)(hm:m<=10000000000):
 ∃fs' c',BT (x,c0) (i,fs,c)=some (.inl (i-1,fs',c'))/\fs'.length<=fs.length+1/\bw c' (m+8):=by
 obtain⟨p,c1,p1,p2,p3,p4⟩:=bL (2+x) h (by omega);obtain⟨q,c2,q1,q2,q3,q4⟩:=bL (2+x) p4 (by omega);simp only[BT,az (n:=2+x) (by omega) (by omega),az (n:=i-1) (by omega) (by omega),decide_eq_true hi.1,cond_true,A0,p1,q1];cases(p !=q) with
 |false=>exact⟨fs,c2,rfl,by omega,q4.up (by omega)⟩
 | true =>
   obtain⟨a1,ha1⟩:=Fa p q;obtain⟨a2,ha2,_⟩:=Oz p q;obtain⟨x8,c2',g1,g2,g3,g4⟩:=bL 8 q4 (by omega);obtain⟨rk,c3,k1,k2,k3⟩:=dP [0,0,0,1,2] g4 (by omega) (by simp);obtain⟨l',l1,l2⟩:=DV fs ⟨a1,a2,A5 .i64 (100*(A5 .i64 (1+x8))),rk⟩ (by omega);simp only[cond_true,ha1,ha2,g1,bnd,k1,l1,A0]
   grind
def uh{c:aG}{m:Nat}(h:bw c m)(hm:m<=1000000000):∃(K:Nat)(nodes:List ByteArray)(fs:List aH)(c':aG),He c=some (0,K,nodes,fs,c')/\2<=K/\K<=6/\nodes.length=6/\(∀s∈nodes,s.size<=9)/\fs.length<=9/\bw c' (m+100):=by
 obtain⟨x,c1,x1,x2,x3,x4⟩:=bL 5 h (by omega);have hx:0<=x/\x<5:=by omega
 obtain⟨⟨f1,c2⟩,o1,o2,o3⟩:=bq (f:=Cq (x,c1)) (fun s=>0<=s.1/\s.1<=2+x/\(s.2.1.length:Int)<=s.1/\bw s.2.2 (m+2+6*s.1.toNat)) (fun s=>(2+x-s.1).toNat) (fun o=>o.1.length<=6/\bw o.2 (m+38)) (fun s hI=>by
  obtain⟨j,l,cc⟩:=s;obtain⟨i1,i2,i3,i4⟩:=hI;simp only at i1 i2 i3 i4;by_cases hj:j<2+x
  ·left;obtain⟨fs',c',g1,g2,g3⟩:=HY x c1 hx j ⟨i1,hj⟩ l (by omega) i4 (by omega)
   grind
  ·right;refine⟨(l,cc),?_,by simp only;omega,i4.up (by omega)⟩;simp only[Cq,az (n:=2+x) (by omega) (by omega),decide_eq_false hj,cond_false]) N0 (0,[],c1) ⟨by simp,by simp only;omega,by simp,x4.up (by simp)⟩ (cI (by simp only;omega))
 simp only at o2 o3;obtain⟨y,c3,y1,y2,y3,y4⟩:=bL 4 o3 (by omega);have hy:0<=y/\y<4:=by omega
 obtain⟨⟨f2,c4⟩,q1,q2,q3⟩:=bq (f:=BT (x,c1)) (fun s=>0<=s.1/\s.1<=3/\(s.2.1.length:Int)<=9-s.1/\bw s.2.2 (m+40+8*(3-s.1.toNat))) (fun s=>s.1.toNat) (fun o=>o.1.length<=9/\bw o.2 (m+64)) (fun s hI=>by
  obtain⟨j,l,cc⟩:=s;obtain⟨i1,i2,i3,i4⟩:=hI;simp only at i1 i2 i3 i4;by_cases hj:0<j
  ·left;obtain⟨fs',c',g1,g2,g3⟩:=Hb x c1 hx j ⟨hj,by omega⟩ l (by omega) i4 (by omega)
   grind
  ·right;refine⟨(l,cc),?_,by simp only;omega,i4.up (by omega)⟩;simp only[BT,decide_eq_false hj,cond_false]) N0 (y,f1,c3) ⟨by simp only;omega,by simp only;omega,by simp only;omega,y4.up (by simp only;omega)⟩ (cI (by simp only;omega))
 simp only at q2 q3;unfold He;simp only[x1,A0,bnd,az (n:=2+x) (by omega) (by omega)];rw[aW ⟨trivial,by omega,trivial,by omega⟩];simp only[A0,o1,y1,q1];exact⟨_,_,_,_,rfl,by omega,by omega,rfl,by decide,q2,q3.up (by omega)⟩
structure Xl(K:Nat)(nodes:List ByteArray)(fs:List aH):Prop where
 k1:1<=K
 k:K<=nodes.length
 n:nodes.length<=10
 z:∀s∈nodes,s.size<=9
 f:fs.length<=15
def Oo{c:aG}{m:Nat}(fs:List aH)(h0:0<fs.length)(h9:fs.length<=9)(h:bw c m)(hm:m<=10000000000):∃fs' c',aZ JX N0 (fs,c)=some (fs',c')/\fs'.length<=15/\bw c' (m+100):=by
 obtain⟨⟨f2,c4⟩,q1,q2,q3⟩:=bq (f:=JX) (fun s=>0<s.1.length/\s.1.length<=15/\bw s.2 (m+2*s.1.length)) (fun s=>16-s.1.length) (fun o=>o.1.length<=15/\bw o.2 (m+100)) (fun s hI=>by
  obtain⟨l,cc⟩:=s;obtain⟨i1,i2,i3⟩:=hI;simp only at i1 i2 i3;obtain⟨x,c1,x1,x2,x3,x4⟩:=bL 2 i3 (by omega);simp only[JX,x1,A0,az (n:=14+x) (by omega) (by omega),az (n:=(l.length:Int)-1) (by omega) (by omega)];by_cases hj:(l.length:Int)<14+x
  ·left;have e:((l.length:Int)-1).toNat<l.length:=by omega
   rw[g7 hj,g9,aW (by omega)];simp only[A0,A1 e,bnd];rw[aW (by omega)];exact⟨_,rfl,⟨by simp,by grind,x4.up (by grind)⟩,by grind⟩
  ·right;rw[u9 hj,g8];exact⟨_,rfl,by simp only;omega,x4.up (by omega)⟩) N0 (fs,c) ⟨by simp only;omega,by simp only;omega,h.up (by omega)⟩ (cI (by simp only;omega))
 grind
theorem My{α:Type}(xs:List α)(k:Nat)(h:k<=xs.length):cY xs 0 k=xs.take k:=by
 rw[eY];simp
def wo{c:aG}{m:Nat}(h:bw c m)(hm:m<=1000000000):∃(K:Nat)(nodes:List ByteArray)(fs:List aH)(c':aG),Pq c=some (0,K,nodes,fs,c')/\Xl K nodes fs/\bw c' (m+300):=by
 obtain⟨K,nodes,fs,c1,n1,n2,n3,n4,n5,n6,n7⟩:=uh h (by omega);have hD:Xl K nodes fs:=⟨by omega,by omega,by omega,n5,by omega⟩;unfold Pq;simp only[n1,A0];by_cases h0:fs.length=0
 ·rw[show((fs.length:Int)==0)=true by simp[h0],g9];exact⟨_,_,_,_,rfl,hD,n7.up (by omega)⟩
 rw[show((fs.length:Int)==0)=false by simp_all,g8];obtain⟨i,c2,i1,i2,i3,i4⟩:=bL (fs.length:Int) n7 (by omega);have hi:i.toNat<fs.length:=by omega
 obtain⟨r,c3,r1,r2,r3,r4⟩:=bL 24 i4 (by omega);simp only[i1,A0];rw[aW (by omega)];simp only[A0,A1 hi,r1];have fin:∀(K':Nat)(f:aH)(nodes':List ByteArray)(fs':List aH)(c':aG),Xl K' nodes' fs'->i.toNat<fs'.length->bw c' (m+300)->
  ∃(K'':Nat)(nodes'':List ByteArray)(fs'':List aH)(c'':aG),((grd (0<=i/\i<(fs'.length:Int))).bind fun _=>(fs'[(B2 i)]?).bind fun _=>bnd (fs'.set (B2 i) f) fun l=>some ((0:Nat),K',nodes',l,c'))=some (0,K'',nodes'',fs'',c'')/\Xl K'' nodes'' fs''/\bw c'' (m+300):=by
  intro K' f nodes' fs' c' hD' hi' hc';rw[aW (by omega)];simp only[A0,A1 hi',bnd];exact⟨_,_,_,_,rfl,⟨hD'.k1,hD'.k,hD'.n,hD'.z,by rw[M1];exact hD'.f⟩,hc'⟩
 rcases bt (r==0) with e|e
 ·obtain⟨x,c4,k1,k2,k3⟩:=ahp [(⟨#[98]⟩:ByteArray),(⟨#[]⟩:ByteArray),(⟨#[65]⟩:ByteArray),(⟨#[97,98,99,100,101,102,103,104]⟩:ByteArray),(⟨#[97,98,99,100,101,102,103,104,105]⟩:ByteArray),(⟨#[120,49]⟩:ByteArray)] r4 (by omega) (by simp);have hx:x.size<=9:=(show∀s∈[(⟨#[98]⟩:ByteArray),(⟨#[]⟩:ByteArray),(⟨#[65]⟩:ByteArray),(⟨#[97,98,99,100,101,102,103,104]⟩:ByteArray),(⟨#[97,98,99,100,101,102,103,104,105]⟩:ByteArray),(⟨#[120,49]⟩:ByteArray)],s.size<=9 by decide) x k2;have h00:0+B2 0<nodes.length:=by simp;omega
  simp only[e,cond_true,bnd,k1,A0];rw[aW (by omega)];simp only[A0,A1 h00];refine fin _ _ _ _ _ ⟨by omega,by simp_all,by simp_all,fun s hs=>?_,by omega⟩ hi (k3.up (by omega))
  grind
 rw[e,g8];rcases bt (r==1) with e|e
 ·obtain⟨x,c4,k1,k2,k3,k4⟩:=bL 8 r4 (by omega);simp only[e,cond_true,k1,A0];exact fin _ _ _ _ _ hD hi (k4.up (by omega))
 rw[e,g8];rcases bt (r==2) with e|e
 ·obtain⟨x,c4,k1,k2,k3,k4⟩:=bL 10 r4 (by omega);simp only[e,cond_true,k1,A0];exact fin _ _ _ _ _ hD hi (k4.up (by omega))
 rw[e,g8];rcases bt (r==3) with e|e
 ·obtain⟨x,c4,k1,k2,k3⟩:=dP [0,1,5000,5001] r4 (by omega) (by simp);simp only[e,cond_true,bnd,k1,A0];exact fin _ _ _ _ _ hD hi (k3.up (by omega))
 rw[e,g8];rcases bt (r==4) with e|e
 ·obtain⟨x,c4,k1,k2,k3⟩:=dP [(-1),9,10] r4 (by omega) (by simp);simp only[e,cond_true,bnd,k1,A0];exact fin _ _ _ _ _ hD hi (k3.up (by omega))
 rw[e,g8];rcases bt (r==5) with e|e
 ·have h00:B2 0<fs.length:=by simp;omega
  simp only[e,cond_true];rw[aW (by omega)];simp only[A0,A1 h00,bnd];rw[aW (by omega)];exact fin K _ nodes (fs++[fs[B2 0]]) _ ⟨hD.k1,hD.k,hD.n,hD.z,by simp;omega⟩ (by simp;omega) (r4.up (by omega))
 rw[e,g8];rcases bt (r==6) with e|e
 ·obtain⟨fs',c4,k1,k2,k3⟩:=Oo fs (by omega) n6 r4 (by omega);simp only[e,cond_true,k1,A0];exact⟨_,_,_,_,rfl,⟨by omega,by omega,by omega,n5,k2⟩,k3.up (by omega)⟩
 rw[e,g8];rcases bt (r==7) with e|e
 ·simp only[e,cond_true,bnd,My nodes K hD.k];rw[aW (by omega)];simp only[A0];refine fin _ _ _ _ _ ⟨by simp,(by simp_all),by simp;omega,fun s hs=>?_,by omega⟩ hi (r4.up (by omega));rcases C6.1 hs with h1|h1
  ·grind
  ·exact(show∀s∈[(⟨#[112]⟩:ByteArray),(⟨#[113]⟩:ByteArray),(⟨#[114]⟩:ByteArray),(⟨#[115]⟩:ByteArray)],s.size<=9 by decide) s h1
 rw[e,g8];exact fin _ _ _ _ _ hD hi (r4.up (by omega))
end Vs

namespace Vs
open Go
def uE{α:Type}(xs:List α)(k:Nat)(h:k<=xs.length):cY xs 0 k=xs.take k:=kM xs k h
def zG{K:Nat}{nodes:List ByteArray}{fs:List aH}(hK:K<=10)(h:∀s∈nodes,s.size<=9)(hf:fs.length<=20):bJ ⟨nodes.take K,fs⟩<=1048576:=by
 have hs:∀(l:List ByteArray),(∀s∈l,s.size<=9)->(l.map fun x=>x.size).sum<=9*l.length:=by
  intro l;induction l with
  |nil=>intro _;simp
  | cons a l ih =>
    grind
 grind [List.mem_of_mem_take,List.length_take,bJ,oe,sn]
def Ga{L:List ae}(h1:L.length<=20)(h2:∀x∈L,SvL x):bG L<=1048576:=by
 have hs:∀(l:List ae),(∀s∈l,SvL s)->(l.map fun x=>fK x).sum<=2000*l.length:=by
  intro l;induction l with
  |nil=>intro _;simp
  | cons a l ih =>
    intro hl;obtain⟨w1,w2⟩:=hl a (by simp);have w3:=ih fun s hs=>hl s (by simp[hs]);simp only[D8,H1,B4];have e:fK a=a.N.F.length+a.F.F.length:=rfl;omega
 grind [bG]
def LH{c:aG}{m:Nat}(h:bw c m)(hm:m<=1000000000):∃(K:Nat)(nodes:List ByteArray)(fs:List aH)(c':aG),NW c=some (0,K,nodes,fs,c')/\2<=K/\K<=6/\nodes.length=6/\(∀s∈nodes,s.size<=9)/\fs.length<=10/\bw c' (m+100):=by
 obtain⟨K,nodes,fs,c1,n1,n2,n3,n4,n5,n6,n7⟩:=uh h hm;unfold NW;rw[n1,A0];simp only[bnd];cases((fs.length:Int)==0) with
 |false=>grind
 | true =>
   rw[g9,aW (by omega),A0]
   grind
def JR{n:af}(hn:2<=n.N.length)(hn2:n.N.length<=20){c:aG}{m:Nat}(h:bw c m)(hm:m<=1000000000):∃d c',Ax n c=some (d,c')/\bw c' (m+20):=by
 unfold Ax;obtain⟨x1,c1,a1,a2,a3,a4⟩:=bL (n.N.length:Int) h (by omega);rw[a1,A0];obtain⟨x2,c2,b1,b2,b3,b4⟩:=bL (A5 .i64 ((n.N.length:Int)-1)) a4 (by omega);simp only[b1,A0,bnd];rw[aW (by omega),A0];obtain⟨x3,c3,d1,d2,d3⟩:=dP [10,20,40,50,90,120] b4 (by omega) (by simp);simp only[d1,A0];obtain⟨x4,c4,e1,e2,e3,e4⟩:=bL 3 d3 (by omega);simp only[e1,A0];obtain⟨x5,c5,f1,f2,f3,f4⟩:=bL 48 e4 (by omega);simp only[f1,A0];cases x5==0 with
 | true =>
   obtain⟨x6,c6,g1,g2,g3,g4⟩:=bL 10 f4 (by omega);simp only[cond_true,g1,A0];exact⟨_,_,rfl,g4.up (by omega)⟩
 | false =>
   rw[g8];cases x5==1 with
   | true =>
     obtain⟨x6,c6,g1,g2,g3⟩:=dP [0,1,1000,1001] f4 (by omega) (by simp);simp only[cond_true,g1,A0];exact⟨_,_,rfl,g3.up (by omega)⟩
   | false =>
     rw[g8];cases x5==2 with
     | true =>
       obtain⟨x6,c6,g1,g2,g3⟩:=dP [-1,3] f4 (by omega) (by simp);simp only[cond_true,g1,A0];exact⟨_,_,rfl,g3.up (by omega)⟩
     |false=>exact⟨_,_,rfl,f4.up (by omega)⟩
def AN{c:aG}{m:Nat}(h:bw c m)(hm:m<=10000000):∃(n:af)(L:List ae)(c':aG),Sb c=some (n,0,L.length,L,c')/\bJ n<=1048576/\2<=n.N.length/\n.N.length<=10/\n.F.length<=10/\L.length<=9/\(∀x∈L,SvL x)/\bw c' (m+500):=by
 obtain⟨K,nodes,fs,c1,n1,n2,n3,n4,n5,n6,n7⟩:=LH h (by omega);have hz:=zG (K:=K) (by omega) n5 (show fs.length<=20 by omega);have hk:(nodes.take K).length=K:=by rw[C5];omega
 unfold Sb;rw[n1,A0];simp only[bnd];obtain⟨x,c2,x1,x2,x3,x4⟩:=bL 6 n7 (by omega);rw[uE _ _ (by omega),x1,A0];obtain⟨o,o1,o2,o3,o4,o5⟩:=bq (f:=Rk (0,K,nodes,fs,c1) (nodes.take K)) (fun t=>t.2.1=2/\t.1=t.2.2.2.1.length/\t.2.2.2.2.1=F2/\0<=t.2.2.1/\t.2.2.1<=6/\t.2.2.2.1.length<=9/\(∀s∈t.2.2.2.1,SvL s)/\bw t.2.2.2.2.2 (m+102+20*(6-t.2.2.1.toNat))) (fun t=>t.2.2.1.toNat) (fun o=>o.1=o.2.1.length/\o.2.1.length<=9/\(∀s∈o.2.1,SvL s)/\bw o.2.2 (m+500)) (fun t hI=>by
  obtain⟨k,two,j,L,F,cc⟩:=t;obtain⟨i1,i2,i3,i4,i5,i6,i7,i8⟩:=hI;simp only at i1 i2 i3 i4 i5 i6 i7 i8;subst i1 i2 i3;unfold Rk;by_cases hj:0<j
  ·left;obtain⟨d,c3,d1,d2⟩:=JR (n:=⟨nodes.take K,fs⟩) (by rw[hk];exact n2) (by rw[hk];omega) i8 (by omega);obtain⟨id,ok,L',a1,a2⟩:=agk ⟨nodes.take K,fs⟩ d L hz (Ga (by omega) i7) i7;simp only[decide_eq_true hj,cond_true,d1,A0,a1];rw[az (by omega) (by omega)];cases ok with
   | true =>
     grind
   |false=>grind
  ·right;simp only[decide_eq_false hj,cond_false];exact⟨_,rfl,rfl,i6,i7,i8.up (by omega)⟩) N0 (0,2,x,[],F2,c2) ⟨rfl,rfl,rfl,x2,by simp only;omega,by simp,fun s hs=>(by cases hs),x4.up (by simp only;omega)⟩ (cI (by simp only;omega))
 have ef:([(⟨3000,10⟩:aA),(⟨900,20⟩:aA)])=F2:=rfl
 grind
def ago{n:af}(hF:n.F.length<=20)(s:Int×List Int×List Int×aG)(hq:0<s.2.1.length)(hq2:s.2.1.length<=100):∃l,aZ (Kf n s) N0 (0,[])=some l/\l.length<=20/\∀e∈l,0<=e/\e<(n.F.length:Int):=by
 obtain⟨o,o1,o2,o3⟩:=bq (f:=Kf n s) (fun t=>∃i:Nat,t.1=(i:Int)/\i<=n.F.length/\t.2.length<=i/\∀e∈t.2,0<=e/\e<(n.F.length:Int)) (fun t=>n.F.length-t.1.toNat) (fun o=>o.length<=20/\∀e∈o,0<=e/\e<(n.F.length:Int)) (fun t⟨i,e,hi,t1,t2⟩=>by
  obtain⟨x,acc⟩:=t;simp only at e t1 t2;subst e;unfold Kf;by_cases h3:i<n.F.length
  ·left;have e1:decide ((i:Int)<(n.F.length:Int))=true:=by simp[h3]
   have hix:A5 .i64 ((s.2.1.length:Int)-1)=((s.2.1.length-1:Nat):Int):=by rw[az (by omega) (by omega)];omega
   simp only[e1,cond_true,hix];rw[aW ⟨by omega,by omega⟩,A0,A6,A1 (show s.2.1.length-1<s.2.1.length by omega),A0,kX n (i:Int) _ (bQ.2 (by omega)),A0];generalize cG n (i:Int) (s.2.1[s.2.1.length-1]'(by omega))=v;have hc:∃c,(cond (decide (0<=v)) ((qx s.2.1 v).bind fun rZ14=>some (!rZ14)) (some false):Option Bool)=some c:=by
    rw[nt _ _ (show s.2.1.length<=1048576 by omega)];cases decide (0<=v)<;>exact⟨_,rfl⟩
   obtain⟨c,hc⟩:=hc;rw[hc,A0,az (by omega) (by omega)];cases c with
   |false=>exact⟨_,rfl,⟨i+1,rfl,by omega,by simp only;omega,t2⟩,by simp only;omega⟩
   | true =>
     simp only[cond_true,bnd];rw[aW (by omega),A0];exact⟨_,rfl,⟨i+1,rfl,by omega,by simp;omega,fun y hy=>by
      grind⟩,by simp only;omega⟩
  grind) N0 (0,[]) ⟨0,rfl,by omega,by simp,fun e he=>(by cases he)⟩ (cI (by simp only;omega))
 simp_all
def Rp{n:af}(hF:n.F.length<=20){c:aG}{m:Nat}(h:bw c m)(hm:m<=1000000000):∃s p c',Ly n c=some (s,p,c')/\p.length<=5/\bw c' (m+20):=by
 unfold Ly;obtain⟨x,c1,a1,a2,a3,a4⟩:=bL (n.N.length:Int) h (by omega);obtain⟨y,c2,b1,b2,b3,b4⟩:=bL 4 a4 (by omega);simp only[a1,A0,bnd,b1];rw[az (n:=1+y) (by omega) (by omega)];obtain⟨o,o1,o2,o3⟩:=bq (f:=RL n) (fun t=>0<=t.1/\t.1<=4/\0<t.2.1.length/\(t.2.1.length:Int)<=5-t.1/\(t.2.2.1.length:Int)<=4-t.1/\bw t.2.2.2 (m+4+2*(4-t.1.toNat))) (fun t=>t.1.toNat) (fun o=>o.1.length<=5/\bw o.2 (m+20)) (fun t hI=>by
  obtain⟨k,q,p,cc⟩:=t;obtain⟨i1,i2,i3,i4,i5,i6⟩:=hI;simp only at i1 i2 i3 i4 i5 i6;unfold RL;by_cases hk:0<k
  ·obtain⟨l,l1,l2,l3⟩:=ago hF (k,q,p,cc) i3 (by simp only;omega);simp only[decide_eq_true hk,cond_true,l1,A0];by_cases h0:l.length=0
   ·rw[show((l.length:Int)==0)=true by simp[h0],g9];exact .inr ⟨_,rfl,by simp only;omega,i6.up (by omega)⟩
   ·have e0:((l.length:Int)==0)=false:=by rw[beq_eq_false_iff_ne];omega
    obtain⟨z,c3,d1,d2,d3,d4⟩:=bL (l.length:Int) i6 (by omega);have hz:z.toNat<l.length:=by omega
    have hix:A5 .i64 ((q.length:Int)-1)=((q.length-1:Nat):Int):=by rw[az (by omega) (by omega)];omega
    obtain⟨g1,g2⟩:=l3 _ (F9 hz);rw[e0,g8,d1,A0];simp only;rw[aW ⟨d2,by omega⟩,A0,A1 hz,A0];simp only[bnd,hix];rw[aW (by omega),A0,aW ⟨by omega,by omega⟩,A0,A6,A1 (show q.length-1<q.length by omega),A0,kX n _ _ (bQ.2 (by omega)),A0,aW (by omega),A0,az (by omega) (by omega)]
    grind
  ·simp only[decide_eq_false hk,cond_false];exact .inr ⟨_,rfl,by simp only;omega,i6.up (by omega)⟩) N0 (1+y,[x],[],c2) ⟨by simp only;omega,by simp only;omega,by simp,by grind,by grind,b4.up (by simp only;omega)⟩ (cI (by simp only;omega))
 rw[o1,A0]
 grind
def pk{n:af}(hF:n.F.length<=20){c:aG}{m:Nat}(h:bw c m)(hm:m<=1000000000):∃s p c',Ho n c=some (s,p,c')/\p.length<=6/\bw c' (m+30):=by
 unfold Ho;obtain⟨s,p,c1,a1,a2,a3⟩:=Rp hF h hm;obtain⟨x,c2,b1,b2,b3,b4⟩:=bL 16 a3 (by omega);simp only[a1,A0,b1];obtain⟨y,c3,d1,d2,d3,d4⟩:=bL 8 b4 (by omega);cases x==0 with
 |true=>simp only[cond_true,d1,A0];exact⟨_,_,_,rfl,by omega,d4.up (by omega)⟩
 | false =>
   rw[g8];cases x==1 with
   | true =>
     simp only[cond_true,d1,A0,bnd];rw[aW (by omega),A0];exact⟨_,_,_,rfl,by simp;omega,d4.up (by omega)⟩
   | false =>
     rw[g8];cases x==2 with
     |true=>exact⟨_,_,_,rfl,by simp,b4.up (by omega)⟩
     | false =>
       rw[g8];cases x==3 with
       |false=>exact⟨_,_,_,rfl,by omega,b4.up (by omega)⟩
       | true =>
         rw[g9];by_cases h1:1<p.length
         ·have e1:decide ((1:Int)<(p.length:Int))=true:=by simp only[decide_eq_true_eq];omega
          have hix:A5 .i64 ((p.length:Int)-1)=((p.length-1:Nat):Int):=by rw[az (by omega) (by omega)];omega
          simp only[e1,cond_true,hix,bnd];rw[aW ⟨by omega,by omega⟩,A0,A6,A1 (show p.length-1<p.length by omega),A0,aW (by omega),A0];exact⟨_,_,_,rfl,by simp;omega,b4.up (by omega)⟩
         ·have e1:decide ((1:Int)<(p.length:Int))=false:=by simp only[decide_eq_false_iff_not];omega
          rw[e1];exact⟨_,_,_,rfl,by omega,b4.up (by omega)⟩
def yC{c:aG}{m:Nat}(h:bw c m)(hm:m<=1000000000):∃b c',Gh c=some (b,c')/\bw c' (m+10):=by
 unfold Gh;obtain⟨b,c1,a1,a2⟩:=ND 12 h (by omega);rw[a1,A0];cases b with
 | true =>
   obtain⟨x,c2,b1,b2,b3,b4⟩:=bL 26 a2 (by omega);obtain⟨y,c3,d1,d2,d3,d4⟩:=bL 27 b4 (by omega);simp only[cond_true,b1,A0,d1];exact⟨_,_,rfl,d4.up (by omega)⟩
 | false =>
   obtain⟨x,c2,b1,b2,b3,b4⟩:=bL 6 a2 (by omega);obtain⟨y,c3,d1,d2,d3,d4⟩:=bL (A5 .i64 ((A5 .i64 (24-(A5 .i64 (1+x))))+1)) b4 (by omega);simp only[cond_false,b1,A0,d1];exact⟨_,_,rfl,d4.up (by omega)⟩
end Vs

namespace Vs
open Go
def DI{α:Type}(xs:List α)(a k:Nat):(cY xs a k).length<=xs.length/\(cY xs a k).length<=k:=by
 unfold cY;split
 ·rename_i e;omega
 ·simp;omega
def PD{c:aG}{m:Nat}(st ln:Nat)(fl:List aA)(h4:ln<=4)(hfl:fl.length<=4)(h:bw c m)(hm:m<=1000000000):∃r,aZ Ju N0 (st,ln,0,fl,c)=some r/\r.2.2.1.length<=20/\bw r.2.2.2 (m+40):=by
 obtain⟨b,b1,b2⟩:=bq (f:=Ju) (fun t=>t.2.1<=8/\t.2.2.2.1.length<=9/\bw t.2.2.2.2 (m+2*t.2.1)) (fun t=>10-t.2.1) (fun r=>r.2.2.1.length<=20/\bw r.2.2.2 (m+40)) (fun t⟨i1,i2,i3⟩=>by
  obtain⟨st,ln,k,fl,c⟩:=t;simp only at i1 i2 i3;unfold Ju;obtain⟨x,c2,a1,a2,a3,a4⟩:=bL 2 i3 (by omega);simp only[a1,A0];rw[az (n:=6+x) (by omega) (by omega)];by_cases hc:(ln:Int)<6+x
  ·left;have hs:=DI fl st ln;simp only[decide_eq_true hc,cond_true,bnd];rw[aW (by omega),A0];refine⟨_,rfl,⟨by simp only;omega,by simp;omega,?_⟩,by simp only;omega⟩;simp only;exact a4.up (by omega)
  ·right;simp only[decide_eq_false hc,cond_false];exact⟨_,rfl,by simp only;omega,by simp only;exact a4.up (by omega)⟩) N0 (st,ln,0,fl,c) ⟨by simp only;omega,by simp only;omega,by simp only;exact h.up (by omega)⟩ (cI (by simp only;omega))
 exact⟨b,b1,b2⟩
def Ch{c:aG}{m:Nat}(h:bw c m)(hm:m<=100000000):∃st ln fl c',KF c=some (st,ln,fl,c')/\fl.length<=20/\bw c' (m+100):=by
 unfold KF;obtain⟨x1,c1,a1,a2,a3,a4⟩:=bL 4 h (by omega);simp only[bnd,a1,A0];rw[az (n:=1+x1) (by omega) (by omega)];obtain⟨y,hy⟩:=D3 a2;subst hy;have e1:B2 (1+(y:Int))=y+1:=by omega
 rw[e1,aW ⟨trivial,by omega,trivial,by omega⟩,A0];obtain⟨b,c2,b1,b2⟩:=ND 3 a4 (by omega);simp only[b1,A0];obtain⟨st,ln,hE,h1,h2⟩:∃st ln,(cond b (cond (decide (1<(((y+1):Nat):Int))) ((grd (0<=1/\True/\B2 1<=(y+1)/\True)).bind fun _=>some ((B2 1),((y+1)-(B2 1)),c2)) (some (0,(y+1),c2))) (some (0,(y+1),c2)):Option (Nat×Nat×aG))=some (st,ln,c2)/\1<=ln/\st+ln<=4:=by
  cases b with
  |false=>exact⟨0,y+1,rfl,by omega,by omega⟩
  | true =>
    by_cases c3:1<(((y+1):Nat):Int)
    ·rw[g9,g7 c3,g9,aW ⟨by omega,trivial,by simp,trivial⟩];exact⟨1,y,rfl,by omega,by omega⟩
    ·rw[g9,u9 c3];exact⟨0,y+1,rfl,by omega,by omega⟩
 rw[hE];simp only[A0];obtain⟨x2,c4,d1,d2,d3,d4⟩:=bL (ln:Int) b2 (by omega);simp only[d1,A0];rw[aW (by omega),A0];obtain⟨z,hz⟩:=D3 d2;subst hz;rw[A6,A1 (show st+z<[(⟨3000,10⟩:aA),⟨1200,20⟩,⟨600,40⟩,⟨250,80⟩].length by simp only[B4,B9];omega)];simp only[A0];obtain⟨x3,c5,f1,f2,f3,f4⟩:=bL 24 d4 (by omega);simp only[f1,A0];cases x3==0 with
 | true =>
   obtain⟨x6,c6,g1,g2,g3⟩:=dP [0,20000,20001,250] f4 (by omega) (by simp);simp only[cond_true,g1,A0];exact⟨_,_,_,_,rfl,by simp,g3.up (by omega)⟩
 | false =>
   rw[g8];cases x3==1 with
   | true =>
     obtain⟨x6,c6,g1,g2,g3⟩:=dP [0,1000,1001,10] f4 (by omega) (by simp);simp only[cond_true,g1,A0];exact⟨_,_,_,_,rfl,by simp,g3.up (by omega)⟩
   | false =>
     rw[g8];cases x3==2 with
     |true=>exact⟨_,_,_,_,rfl,by simp,f4.up (by omega)⟩
     | false =>
       rw[g8];cases x3==3 with
       | true =>
         obtain⟨r,r1,r2,r3⟩:=PD st ln [⟨3000,10⟩,⟨1200,20⟩,⟨600,40⟩,⟨250,80⟩] (by omega) (by simp) f4 (by omega);simp only[cond_true,r1,A0];exact⟨_,_,_,_,rfl,r2,r3.up (by omega)⟩
       |false=>exact⟨_,_,_,_,rfl,by simp,f4.up (by omega)⟩
end Vs

namespace Vs
open Go
def HG{n:af}(hn:1<=n.N.length)(hn2:n.N.length<=20){c:aG}{m:Nat}(h:bw c m)(hm:m<=1000000000):∃d c',Ax n c=some (d,c')/\bw c' (m+20):=by
 unfold Ax;obtain⟨x1,c1,a1,a2,a3,a4⟩:=bL (n.N.length:Int) h (by omega);rw[a1,A0];obtain⟨x2,c2,b1,b2,b3,b4⟩:=bL (A5 .i64 ((n.N.length:Int)-1)) a4 (by omega);simp only[b1,A0,bnd];rw[aW (by omega),A0];obtain⟨x3,c3,d1,d2,d3⟩:=dP [10,20,40,50,90,120] b4 (by omega) (by simp);simp only[d1,A0];obtain⟨x4,c4,e1,e2,e3,e4⟩:=bL 3 d3 (by omega);simp only[e1,A0];obtain⟨x5,c5,f1,f2,f3,f4⟩:=bL 48 e4 (by omega);simp only[f1,A0];cases x5==0 with
 | true =>
   obtain⟨x6,c6,g1,g2,g3,g4⟩:=bL 10 f4 (by omega);simp only[cond_true,g1,A0];exact⟨_,_,rfl,g4.up (by omega)⟩
 | false =>
   rw[g8];cases x5==1 with
   | true =>
     obtain⟨x6,c6,g1,g2,g3⟩:=dP [0,1,1000,1001] f4 (by omega) (by simp);simp only[cond_true,g1,A0];exact⟨_,_,rfl,g3.up (by omega)⟩
   | false =>
     rw[g8];cases x5==2 with
     | true =>
       obtain⟨x6,c6,g1,g2,g3⟩:=dP [-1,3] f4 (by omega) (by simp);simp only[cond_true,g1,A0];exact⟨_,_,rfl,g3.up (by omega)⟩
     |false=>exact⟨_,_,rfl,f4.up (by omega)⟩
def QJ(n:af)(L:List ae):Prop:=bJ n<=1048576/\n.F.length<=20/\L.length<=10/\(∀x∈L,SvL x)/\1<=n.N.length/\n.N.length<=20
def fR{x:Int}{L:List ae}{n:af}{s:ae}{c:aG}{m:Nat}(hx:0<=x/\x<(L.length:Int))(h:QJ n L)(hs:SvL s)(hc:bw c m):∃(n':af)(L':List ae)(c':aG),((grd (0<=x/\x<((L.length:Nat):Int))).bind fun _=>(L[(0+(B2 x))]?).bind fun _=>bnd (L.set (0+(B2 x)) s) fun lZ38=>some (n,0,L.length,lZ38,c))=some (n',0,L'.length,L',c')/\QJ n' L'/\bw c' m:=by
 rw[aW hx,A0,A1 (show 0+x.toNat<L.length by omega),A0];refine⟨n,L.set (0+x.toNat) s,c,by rw[M1];rfl,⟨h.1,h.2.1,by rw[M1];exact h.2.2.1,fun y hy=>?_,h.2.2.2.2⟩,hc⟩;rcases List.mem_or_eq_of_mem_set hy with h1|h1
 ·exact h.2.2.2.1 y h1
 ·rw[h1];exact hs
def qk{c:aG}{m:Nat}(h:bw c m)(hm:m<=1000000):∃(n:af)(L:List ae)(c':aG),MP c=some (n,0,L.length,L,c')/\QJ n L/\bw c' (m+2000):=by
 obtain⟨n,L,c1,s1,s2,s3,s4,s5,s6,s7,s8⟩:=AN h (by omega);have hD:QJ n L:=⟨s2,by omega,by omega,s7,by omega,by omega⟩;unfold MP;rw[s1,A0];simp only;by_cases h0:L.length=0
 ·rw[show(((L.length:Nat):Int)==0)=true by simp[h0],g9];exact⟨n,L,c1,rfl,hD,s8.up (by omega)⟩
 have e0:(((L.length:Nat):Int)==0)=false:=by rw[beq_eq_false_iff_ne];omega
 obtain⟨x,c2,x1,x2,x3,x4⟩:=bL (L.length:Int) s8 (by omega);have hx:0<=x/\x<(L.length:Int):=by omega
 have hxl:0+x.toNat<L.length:=by omega
 obtain⟨y,c3,y1,y2,y3,y4⟩:=bL 24 x4 (by omega);rw[e0,g8,x1,A0];simp only;rw[aW hx,A0,A1 hxl,A0,y1,A0];have hy:=s7 _ (F9 hxl);generalize L[0+x.toNat]=s at hy;have up:∀{k:Nat}{c:aG},bw c k->k<=m+2000->bw c (m+2000):=fun h hk=>h.up hk;simp only[bnd];cases y==0 with
 | true =>
   obtain⟨z,c4,z1,z2,z3⟩:=dP [0,999,1000,500,1] y4 (by omega) (by simp);simp only[cond_true,z1,A0];exact fR hx hD (by exact hy) (up z3 (by omega))
 | false =>
   rw[g8];cases y==1 with
   | true =>
     obtain⟨z,c4,z1,z2,z3,z4⟩:=bL 5 y4 (by omega);simp only[cond_true,z1,A0];exact fR hx hD (by exact hy) (up z4 (by omega))
   | false =>
     rw[g8];cases y==2 with
     | true =>
       obtain⟨a,p,c4,z1,z2,z3⟩:=pk hD.2.1 y4 (by omega);simp only[cond_true,z1,A0];exact fR hx hD ⟨by simp only;omega,hy.2⟩ (up z3 (by omega))
     | false =>
       rw[g8];cases y==3 with
       | true =>
         obtain⟨b,c4,z1,z2⟩:=yC y4 (by omega);simp only[cond_true,z1,A0];exact fR hx hD (by exact hy) (up z2 (by omega))
       | false =>
         rw[g8];cases y==4 with
         | true =>
           obtain⟨a,p,c4,z1,z2,z3⟩:=pk hD.2.1 y4 (by omega);simp only[cond_true,z1,A0];exact fR hx hD ⟨hy.1,by simp only;omega⟩ (up z3 (by omega))
         | false =>
           rw[g8];cases y==5 with
           | true =>
             obtain⟨b,c4,z1,z2⟩:=yC y4 (by omega);simp only[cond_true,z1,A0];exact fR hx hD (by exact hy) (up z2 (by omega))
           | false =>
             rw[g8];cases y==6 with
             | true =>
               simp only[cond_true,cV];rw[aW (by omega)];simp only[A0];have hl:(L.length+1)=(L++[s]).length:=by simp
               rw[hl];exact fR (by rw[<-hl];omega) ⟨hD.1,hD.2.1,by rw[<-hl];omega,fun z hz=>by
                rcases C6.1 hz with h4|h4
                ·exact s7 z h4
                ·simp only[C8] at h4;rw[h4];exact hy,hD.2.2.2.2⟩ hy (up y4 (by omega))
             | false =>
               rw[g8];cases y==7 with
               | true =>
                 obtain⟨K,nodes,fs,c4,z1,z2,z3⟩:=wo y4 (by omega);simp only[cond_true,z1,A0];rw[uE _ _ z2.k];have hz:=zG (K:=K) (by have:=z2.k;have:=z2.n;omega) z2.z (show fs.length<=20 by have:=z2.f;omega);exact fR hx ⟨hz,by have:=z2.f;simp only;omega,hD.2.2.1,s7,by have:=z2.k1;have:=z2.k;simp only[C5];omega,by have:=z2.n;simp only[C5];omega⟩ hy (up z3 (by omega))
               | false =>
                 simp only[cond_false,A0];exact fR hx hD hy (up y4 (by omega))
def JW{code:List Int}(h1:∀x∈code,0<=x/\x<=255)(h2:code.length<=65536):∃(n:af)(L:List ae)(st ln:Nat)(fl:List aA)(d:aO),MF code=some (n,st,ln,0,L.length,d,fl,L)/\QJ n L/\fl.length<=20:=by
 have h0:bw ⟨code,0,0⟩ 0:=⟨h1,h2,by simp,by simp⟩;obtain⟨n,L,c1,a1,a2,a3⟩:=qk h0 (by omega);obtain⟨st,ln,fl,c2,b1,b2,b3⟩:=Ch a3 (by omega);obtain⟨d,c3,e1,e2⟩:=HG a2.2.2.2.2.1 a2.2.2.2.2.2 b3 (by omega);refine⟨n,L,st,ln,fl,d,?_,a2,b2⟩;unfold MF;rw[a1,A0];dsimp only;rw[b1,A0];dsimp only;rw[e1];rfl
theorem Mt(r:aj)(h:r.F.length<=1048576):Ig r r=some true:=by
 unfold Ig;rw[beq_self_eq_true,g9,MT r.F h];rfl
def abd(s:ae)(h1:s.N.F.length<=1048576)(h2:s.F.F.length<=1048576):Qx s s=some true:=by
 unfold Qx;simp only[beq_self_eq_true,N8,cond_true,Mt s.N h1,Mt s.F h2,A0]
def sk(code:List Int)(o1:code.length<=9223372036854775807/\∀x∈code,0<=x/\x<=255):Uf code=some true:=by
 unfold Uf TM;by_cases hl:(65536:Int)<(code.length:Int)
 ·simp[hl]
 simp only[decide_eq_false hl,A0,cond_false];obtain⟨n,list,st,ln,fl,d,d1,d2,d3⟩:=JW o1.2 (by omega);obtain⟨hz,_,hL,hS,_⟩:=d2;have hzl:bG list<=1048576:=Ga (by omega) hS;have hfl:=(DI fl st ln).1;obtain⟨L,id,ok,a1,a2,a3,a4⟩:=xz n (rfl:cY fl st ln=cY fl st ln) list d hz (by omega) hzl;rw[d1,A0];simp only[bnd,cV];rw[a1,show Ta n st ln 0 list.length d fl list=_ from a2];simp only[A0,bne_self_eq_false,beq_self_eq_true,B0,cond_false];cases ok with
 |false=>rw[a3 rfl];rfl
 | true =>
   have hA:=a4 rfl;have hzL:=hA.new.z;have hoL:=vR.2 hA.new;have h8:=hA.new.len;have hlen:=hA.len;rw[cP n L hz hzL,hoL,mr n L id hz hzL];have hdp:dpP n L id=(list,true):=by
    unfold dpP;rw[hoL,hA.has,N8,u7 rfl,hA.back]
   rw[hdp,az (by omega) (by omega)];simp only[B0,cond_false,A0];rw[show((L.length:Int) !=(list.length:Int)+1)=false by rw[hlen];simp];simp only[cond_false,bne_self_eq_false];have l1:aZ (M_m (n,st,ln,0,list.length,d,fl,list) (id,true,L,fl,list) (list,true)) N0 ((0:Nat):Int)=some (.inl ()):=by
    refine eN (f:=M_m (n,st,ln,0,list.length,d,fl,list) (id,true,L,fl,list) (list,true)) (fun j=>(j:Int)) list.length _ (fun j hj=>?_) ?_ (by omega)
    ·unfold M_m;dsimp only;have hx:list[j]?=some list[j]:=A1 hj;have hx2:=uf hzl (A3 hx);rw[g7 (by omega),g9,aW (by omega)];simp only[A0,A6,D0];rw[hx,A0,A0,abd _ hx2.1 hx2.2,A0,B0,g8,dI j (by omega)]
    ·unfold M_m;dsimp only;rw[u9 (by omega),g8]
   have l1':aZ (M_m (n,st,ln,0,list.length,d,fl,list) (id,true,L,fl,list) (list,true)) N0 0=some (.inl ()):=l1;rw[l1',A0];simp only;rw[gD n L hz hzL];have hsm:smP n L=((A9 n.F.length).map (smF rm L),(A9 n.F.length).map (smF fw L),true):=by unfold smP;rw[u7 hoL]
   rw[hsm,A0];have hF:=(cU hA.new.net).2.2;have l2:aZ (M_n ((A9 n.F.length).map (smF rm L),(A9 n.F.length).map (smF fw L),true)) N0 ((0:Nat):Int)=some (.inl ()):=by
    refine eN (f:=M_n ((A9 n.F.length).map (smF rm L),(A9 n.F.length).map (smF fw L),true)) (fun j=>(j:Int)) n.F.length _ (fun j hj=>?_) ?_ (by omega)
    ·unfold M_n;dsimp only;rw[g7 (by simp;omega),g9,A0,g9,aW (by simp;omega),aW (by simp;omega)];simp only[A0,A6,C0,J5 hj,O7];rw[ady hA.new j,bne_self_eq_false,g8,dI j (by omega)]
    ·unfold M_n;dsimp only;rw[u9 (by simp),g8];rfl
   have l2':aZ (M_n ((A9 n.F.length).map (smF rm L),(A9 n.F.length).map (smF fw L),true)) N0 0=some (.inl ()):=l2;rw[l2',A0];simp only;obtain⟨v,v1,v2⟩:=SJ hA.new hz hzL;rw[v1,A0];simp only[cond_true];rw[g7 v2]
end Vs



