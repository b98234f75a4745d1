/-
  Part of the proof that FnExactRunEvents returns true at every input.
-/
import Derived.Test.YtgpbibgbfklikaaGreatTe
import Derived.Test.YtgpbibgbfklikaaGreatGa
set_option linter.defProp false
set_option linter.unusedSimpArgs false
set_option linter.unusedVariables false
open Option renaming bind_some -> A0, map_eq_some_iff -> C0, isSome_iff_exists -> F6, map_map -> K2
open List renaming getElem?_eq_some_iff -> A1, getElem?_eq_getElem -> A2, mem_of_getElem? -> A3, length_cons -> A8, getElem?_map -> B0, length_append -> B1, pairwise_iff_getElem -> B2, getElem?_of_mem -> B4, length_singleton -> B7, length_nil -> B8, any_eq_false -> B9, take_append_drop -> C1, mem_cons -> C2, getElem?_set_self -> C6, take_add_one -> C7, take_of_length_le -> D0, length_take -> D5, mem_singleton -> D6, mem_append -> D7, append_nil -> D8, length_map -> D9, pairwise_append -> E0, any_eq_true -> E1, getElem_mem -> E2, getElem?_take -> E4, mem_filter -> E5, drop_zero -> E8, zipIdx_cons -> E9, length_drop -> F1, getElem_inj -> F2, mem_or_eq_of_mem_set -> F3, mem_map_of_mem -> F4, filter_sublist -> F5, map_cons -> F7, find?_cons -> F8, nodup_cons -> F9, length_set -> G0, pairwise_cons -> G2, length_eq_zero_iff -> G3, append_assoc -> G4, mem_map -> G5, eraseIdx_eq_take_drop_succ -> G6, length_filter_le -> G7, take_length -> G8, getElem_map -> G9, mem_cons_of_mem -> H0, take_append_of_le_length -> H1, takeWhile_cons -> H2, set_set -> H3, filter_append -> H5, replicate -> H6, mem_take_iff_getElem -> H7, length_erase_of_mem -> H8, mem_of_mem_eraseIdx -> H9, getElem?_cons_zero -> I0, mem_flatMap -> I1, nil_append -> I4, singleton_append -> I5, length_mergeSort -> I6, mem_range -> I7, getElem_of_mem -> I9, mem_cons_self -> J2, filter_cons -> J6, getElem_set -> J7, zipIdx_nil -> J8, find?_nil -> K0, take_take -> K1, range -> K3, drop_drop -> K4, Pairwise -> K8, map_set -> L4
open Int renaming toNat_natCast -> A4, tdiv_eq_ediv_of_nonneg -> E7, eq_ofNat_of_zero_le -> I2, toNat -> I8, natCast_pow -> J9, reduceNeg -> K5, add_assoc -> K6, reduceAdd -> K7, mul_comm -> K9, reduceLT -> L0, pow_pos -> L6, one_mul -> L7
open Bool renaming not_true -> A5, and_eq_true -> A6, true_and -> A9, not_eq_true' -> B3, not_false -> B5, eq_iff_iff -> C3, false_eq_true -> C4, or_eq_false_iff -> C5, false_or -> D4, not_eq_false' -> G1, false_and -> H4, or_eq_true -> I3, and_true -> J0, not_not -> J3, not_eq_false -> J4, eq_false_iff -> J5
open Go.IntKind renaming wrap -> A7, bits -> C8
open Nat renaming le_refl -> B6, pow_le_pow_right -> C9, le_trans -> D3, zero_le -> E3, or_lt_two_pow -> E6, zero_add -> F0, one_le_two_pow -> J1, min_self -> L3, sub_self -> L5
namespace Vs
open Go
theorem Fz:∀(ns:List Int)(r:ByteArray),(ns.foldl (fun r n=>r.push (UInt8.ofNat n.toNat)) r).size=r.size+ns.length
 |[],r=>by simp
 | n :: ns, r => by
   simp only[List.foldl_cons,Fz ns,A8,ByteArray.size_push];omega
theorem sN(ns:List Int):(b2s ns).size=ns.length:=by
 unfold b2s;rw[Fz];simp
def txt(k:Int):ByteArray:=(zB k).getD ⟨#[]⟩
theorem rU(k:Int)(h0:0<=k)(h1:k<=1000000000000):zB k=some (txt k):=by
 have:∃r,zB k=some r:=by
  unfold zB;by_cases h:k<=0
  ·exact⟨_,by rw[decide_eq_true h,cond_true]⟩
  ·rw[decide_eq_false h,cond_false];obtain⟨b,hb,hq⟩:=dq (f:=HG) (fun s=>0<=s.1/\s.2.size<=13/\s.1*10^s.2.size<=1000000000000) (fun s=>s.1.toNat) (fun b=>b.size<=13) (fun s hI=>by
    obtain⟨a,z⟩:=s;obtain⟨i1,i2,i3⟩:=hI;simp only at i1 i2 i3;by_cases hp:0<a
    ·left;have hz:z.size<=12:=by
      apply Decidable.byContradiction;intro hc;have e:z.size=13:=by omega
      rw[e] at i3;omega
     have hd:10*(a.tdiv 10)<=a:=by rw[E7 i1];omega
     have hd2:a.tdiv 10<a:=by rw[E7 i1];omega
     have hd3:0<=a.tdiv 10:=by rw[E7 i1];omega
     have hpow:(0:Int)<=10^z.size:=Int.le_of_lt (L6 (by omega));have ha:a<=1000000000000:=by
      have h1:(1:Int)<=10^z.size:=L6 (by omega);have:=Int.mul_le_mul_of_nonneg_left h1 i1;omega
     refine⟨(a.tdiv 10,b2s [A7 .u8 (A7 .i64 (48+(Int.tmod a 10)))]++z),?_,⟨hd3,?_,?_⟩,by simp only;omega⟩
     ·simp only[HG,decide_eq_true hp,cond_true,bnd];rw[aQ (by omega),aQ (by rw[sN];simp;omega)];simp only[A0];rw[aC (n:=Int.tdiv a 10) (by omega) (by omega)]
     ·simp only[ByteArray.size_append,sN,A8,B8];omega
     ·simp only[ByteArray.size_append,sN,A8,B8];rw[show 0+1+z.size=z.size+1 by omega,Int.pow_succ,K9 (10^z.size) 10,<-Int.mul_assoc,K9 (a.tdiv 10) 10];exact Int.le_trans (Int.mul_le_mul_of_nonneg_right hd hpow) i3
    ·right;exact⟨z,by simp only[HG,decide_eq_false hp,cond_false],i2⟩) N0 (k,⟨#[]⟩) ⟨h0,by show(0:Nat)<=13;omega,by show k*10^0<=1000000000000;simpa using h1⟩ (fj (by simp;omega))
   rw[hb];simp only[A0];rw[aQ (by have:(⟨#[109]⟩:ByteArray).size=1:=rfl;omega)];exact⟨_,rfl⟩
 obtain⟨r,hr⟩:=this;unfold txt;rw[hr];rfl
def bB(xs:(List ByteArray)):Nat:=xs.length+(xs.map fun x=>x.size).sum
def ne(xs:(List ByteArray)):Prop:=xs.length<=9223372036854775807/\∀x∈xs,x.size<=9223372036854775807
def yJ(xs:(List ByteArray))(l:Int)(h1:0<=l)(h2:l<=1048576)(hs:ne xs):LA xs l=some (if l-bB xs<0 then(-1:Int) else l-bB xs):=by
 unfold LA;have hs1:=hs.1;rw[aC (by omega) (by omega)];simp only[gE,decide_eq_true_eq];by_cases h:l-(xs.length:Int)<0
 ·rw[if_pos h,if_pos (by unfold bB;omega)]
 ·rw[if_neg h,wI (f:=M_c xs) xs (fun x=>x.size) (fun i x l' hx h3 h4=>by
   have hlt:=(A1.1 hx).1;have h1:decide ((i:Int)<xs.length)=true:=by simp[hlt]
   have hx2:=hs.2 x (A3 hx);simp only[M_c,h1,cond_true,aO,hx,A0,gE,decide_eq_true_eq];rw[aC (by omega) (by omega),aC (by omega) (by omega)];by_cases h5:l'-(x.size:Int)<0
   ·simp only[if_pos h5,if_true]
   ·simp only[if_neg h5,if_true];rfl) (fun l=>by simp[M_c]) _ (by omega) (by omega) (by omega)]
  have e:l-(xs.length:Int)-((xs.map fun x=>x.size).sum:Nat)=l-(bB xs:Int):=by unfold bB;omega
  rw[e];by_cases h5:l-(bB xs:Int)<0
  ·simp only[if_pos h5,A0]
  ·simp only[if_neg h5,A0]
theorem Ag(xs:(List ByteArray))(hl:bB xs<=1048576):Sr xs=some xs:=by
 unfold Sr;have hlen:xs.length<=1048576:=by unfold bB at hl;omega
 have key:=fun l0(h0:l0.length=xs.length)=>jR (f:=GG xs) xs id l0 h0 (fun i l x y hx hy hll=>by
  have hlt:=(A1.1 hx).1;have h1:decide ((i:Int)<xs.length)=true:=by simp[hlt]
  have h2:(0<=(i:Int)/\(i:Int)<(l.length:Int)):=by omega
  simp only[GG,h1,cond_true,aO,hx,A0,aQ h2,A4,hy,bnd,id]
  grind [aC]) (fun l=>by simp[GG]) (by omega)
 rw[aQ (by omega)]
 simp_all [A0,bnd]
theorem zt(xs:(List ByteArray))(hl:bB xs<=1048576):Qx xs xs=some true:=by
 unfold Qx;have hlen:xs.length<=1048576:=by unfold bB at hl;omega
 rw[oP (f:=JR xs xs) xs (fun i x hx=>by
  have hlt:=(A1.1 hx).1;have h1:decide ((i:Int)<xs.length)=true:=by simp[hlt]
  simp only[JR,h1,cond_true,aO,hx,A0,beq_self_eq_true,A5,cond_false];rw[aC (by omega) (by omega)];rfl) (by simp[JR]) (by omega)]
 simp
def Jk(x:aw):Jb x=some x:=by unfold Jb;rfl
def Jz(x:aw):IU x x=some true:=by unfold IU;simp
def bR(xs:(List aw)):Nat:=xs.length
def jM(xs:(List aw)):Prop:=xs.length<=9223372036854775807
def Cr(xs:(List aw))(l:Int)(h1:0<=l)(h2:l<=1048576)(hs:jM xs):Sa xs l=some (if l-bR xs<0 then(-1:Int) else l-bR xs):=by
 unfold Sa;unfold jM at hs;rw[aC (by omega) (by omega)];simp only[gE,decide_eq_true_eq];by_cases h:l-(xs.length:Int)<0
 ·simp_all [if_pos,bR]
 ·rw[if_neg h,if_neg (show¬l-(bR xs:Int)<0 from h)];rfl
def CA(xs:(List aw))(hl:bR xs<=1048576):Qr xs=some xs:=by
 unfold Qr;have hlen:xs.length<=1048576:=by unfold bR at hl;omega
 have key:=fun l0(h0:l0.length=xs.length)=>jR (f:=HW xs) xs id l0 h0 (fun i l x y hx hy hll=>by
  have hlt:=(A1.1 hx).1;have h1:decide ((i:Int)<xs.length)=true:=by simp[hlt]
  have h2:(0<=(i:Int)/\(i:Int)<(l.length:Int)):=by omega
  have hto:Jb x=some x:=Jk x;simp only[HW,h1,cond_true,aO,hx,A0,aQ h2,A4,hy,hto,bnd,id]
  grind [aC]) (fun l=>by simp[HW]) (by omega)
 rw[aQ (by omega)]
 simp_all [A0,bnd]
theorem BX(xs:(List aw))(hl:bR xs<=1048576):Pr xs xs=some true:=by
 unfold Pr;have hlen:xs.length<=1048576:=by unfold bR at hl;omega
 rw[oP (f:=IM xs xs) xs (fun i x hx=>by
  have hlt:=(A1.1 hx).1;have h1:decide ((i:Int)<xs.length)=true:=by simp[hlt]
  have he:IU x x=some true:=Jz x;simp only[IM,h1,cond_true,aO,hx,A0,he,A5,cond_false];rw[aC (by omega) (by omega)];rfl) (by simp[IM]) (by omega)]
 simp
def aR(x:ah):Nat:=bB x.N+bR x.F
def rr(x:ah):Prop:=ne x.N/\jM x.F
def Az(x:ah)(l:Int)(h1:0<=l)(h2:l<=1048576)(hs:rr x):PL x l=some (if l-aR x<0 then(-1:Int) else l-aR x):=by
 unfold PL;obtain⟨hs0,hs1⟩:=hs;rw[yJ _ _ (by omega) (by omega) hs0];simp only[A0];by_cases h10:l-(bB x.N:Int)<0
 ·rw[if_pos h10,if_pos (show l-(aR x:Int)<0 by unfold aR;omega)];simp
 ·simp only[if_neg h10];simp only[h10,decide_false,cond_false];rw[Cr _ _ (by omega) (by omega) hs1];simp only[A0];by_cases h11:l-(bB x.N:Int)-(bR x.F:Int)<0
  ·rw[if_pos h11,if_pos (show l-(aR x:Int)<0 by unfold aR;omega)];simp
  ·simp only[if_neg h11];simp only[h11,decide_false,cond_false];have e:l-(bB x.N:Int)-(bR x.F:Int)=l-(aR x:Int):=by unfold aR;omega
   grind
theorem Ax(x:ah)(hl:aR x<=1048576):SK x=some x:=by
 unfold SK;simp only[Ag x.N (by grind [aR]),CA x.F (by grind [aR]),A0]
theorem zV(x:ah)(hl:aR x<=1048576):Ou x x=some true:=by
 grind [zt,BX,Ou,aR]
def bU(xs:(List Int)):Nat:=xs.length
def iW(xs:(List Int)):Prop:=xs.length<=9223372036854775807
def zy(xs:(List Int))(l:Int)(h1:0<=l)(h2:l<=1048576)(hs:iW xs):GZ xs l=some (if l-bU xs<0 then(-1:Int) else l-bU xs):=by
 unfold GZ;unfold iW at hs;rw[aC (by omega) (by omega)];simp only[gE,decide_eq_true_eq];by_cases h:l-(xs.length:Int)<0
 ·simp_all [if_pos,bU]
 ·rw[if_neg h,if_neg (show¬l-(bU xs:Int)<0 from h)];rfl
theorem yS(xs:(List Int))(hl:bU xs<=1048576):Iv xs=some xs:=by
 unfold Iv;have hlen:xs.length<=1048576:=by unfold bU at hl;omega
 have key:=fun l0(h0:l0.length=xs.length)=>jR (f:=M_g xs) xs id l0 h0 (fun i l x y hx hy hll=>by
  have hlt:=(A1.1 hx).1;have h1:decide ((i:Int)<xs.length)=true:=by simp[hlt]
  have h2:(0<=(i:Int)/\(i:Int)<(l.length:Int)):=by omega
  simp only[M_g,h1,cond_true,aO,hx,A0,aQ h2,A4,hy,bnd,id]
  grind [aC]) (fun l=>by simp[M_g]) (by omega)
 rw[aQ (by omega)]
 simp_all [A0,bnd]
theorem oJ(xs:(List Int))(hl:bU xs<=1048576):uc xs xs=some true:=by
 unfold uc;have hlen:xs.length<=1048576:=by unfold bU at hl;omega
 rw[oP (f:=JS xs xs) xs (fun i x hx=>by
  have hlt:=(A1.1 hx).1;have h1:decide ((i:Int)<xs.length)=true:=by simp[hlt]
  simp only[JS,h1,cond_true,aO,hx,A0,bne_self_eq_false,cond_false];rw[aC (by omega) (by omega)];rfl) (by simp[JS]) (by omega)]
 simp
def eB(x:aj):Nat:=bU x.F
def qZ(x:aj):Prop:=iW x.F
def Iz(x:aj)(l:Int)(h1:0<=l)(h2:l<=1048576)(hs:qZ x):Sq x l=some (if l-eB x<0 then(-1:Int) else l-eB x):=by
 unfold Sq;have hs0:iW x.F:=hs;rw[zy _ _ (by omega) (by omega) hs0];simp only[A0];by_cases h10:l-(bU x.F:Int)<0
 ·simp_all [if_pos,eB]
 ·simp only[if_neg h10];simp only[h10,decide_false,cond_false];have e:l-(bU x.F:Int)=l-(eB x:Int):=by unfold eB;omega
  grind
theorem Ke(x:aj)(hl:eB x<=1048576):QD x=some x:=by
 simp_all [yS,A0,QD,eB]
theorem JT(x:aj)(hl:eB x<=1048576):Qn x x=some true:=by
 simp_all [oJ,Qn,eB]
theorem Jt(x:aX):NI x=some x:=by unfold NI;rfl
theorem Jq(x:aX):Lo x x=some true:=by unfold Lo;simp
def cu(x:af):Nat:=eB x.F
def sd(x:af):Prop:=qZ x.F
theorem Ig(x:af)(l:Int)(h1:0<=l)(h2:l<=1048576)(hs:sd x):MR x l=some (if l-cu x<0 then(-1:Int) else l-cu x):=by
 unfold MR;have hs0:qZ x.F:=hs;rw[Iz _ _ (by omega) (by omega) hs0];simp only[A0];by_cases h10:l-(eB x.F:Int)<0
 ·simp_all [if_pos,cu]
 ·simp only[if_neg h10];simp only[h10,decide_false,cond_false];have e:l-(eB x.F:Int)=l-(cu x:Int):=by unfold cu;omega
  grind
def Ks(x:af)(hl:cu x<=1048576):IH x=some x:=by
 simp_all [Ke,Jt,A0,IH,cu]
def GA(x:af)(hl:cu x<=1048576):IZ x x=some true:=by
 simp_all [JT,Jq,IZ,cu]
def aW(xs:(List af)):Nat:=xs.length+(xs.map fun x=>cu x).sum
def pA(xs:(List af)):Prop:=xs.length<=9223372036854775807/\∀x∈xs,sd x
def Ci(xs:(List af))(l:Int)(h1:0<=l)(h2:l<=1048576)(hs:pA xs):SQ xs l=some (if l-aW xs<0 then(-1:Int) else l-aW xs):=by
 unfold SQ;have hs1:=hs.1;rw[aC (by omega) (by omega)];simp only[gE,decide_eq_true_eq];by_cases h:l-(xs.length:Int)<0
 ·rw[if_pos h,if_pos (by unfold aW;omega)]
 ·rw[if_neg h,wI (f:=Hx xs) xs (fun x=>cu x) (fun i x l' hx h3 h4=>by
   have hlt:=(A1.1 hx).1;have h1:decide ((i:Int)<xs.length)=true:=by simp[hlt]
   simp only[Hx,h1,cond_true,aO,hx,A0,Ig x l' h3 h4 (hs.2 x (A3 hx)),gE,decide_eq_true_eq];rw[aC (by omega) (by omega)];by_cases h5:l'-(cu x:Int)<0
   ·simp only[if_pos h5,if_true,K5,L0]
   ·simp only[if_neg h5,if_true];rfl) (fun l=>by simp[Hx]) _ (by omega) (by omega) (by omega)]
  have e:l-(xs.length:Int)-((xs.map fun x=>cu x).sum:Nat)=l-(aW xs:Int):=by unfold aW;omega
  rw[e];by_cases h5:l-(aW xs:Int)<0
  ·simp only[if_pos h5,A0]
  ·simp only[if_neg h5,A0]
def Ce(xs:(List af))(hl:aW xs<=1048576):OC xs=some xs:=by
 unfold OC;have hlen:xs.length<=1048576:=by unfold aW at hl;omega
 have key:=fun l0(h0:l0.length=xs.length)=>jR (f:=M_q xs) xs id l0 h0 (fun i l x y hx hy hll=>by
  have hlt:=(A1.1 hx).1;have h1:decide ((i:Int)<xs.length)=true:=by simp[hlt]
  have h2:(0<=(i:Int)/\(i:Int)<(l.length:Int)):=by omega
  have hto:IH x=some x:=Ks x (by grind [iv,cu,aW]);simp only[M_q,h1,cond_true,aO,hx,A0,aQ h2,A4,hy,hto,bnd,id];rw[aC (by omega) (by omega)];rfl) (fun l=>by simp[M_q]) (by omega)
 rw[aQ (by omega)]
 simp_all [A0,bnd]
theorem tx(xs:(List af))(hl:aW xs<=1048576):IK xs xs=some true:=by
 unfold IK;have hlen:xs.length<=1048576:=by unfold aW at hl;omega
 rw[oP (f:=Kz xs xs) xs (fun i x hx=>by
  have hlt:=(A1.1 hx).1;have h1:decide ((i:Int)<xs.length)=true:=by simp[hlt]
  have he:IZ x x=some true:=GA x (by have:=iv (fun x=>cu x) hx;unfold aW at hl;omega);simp only[Kz,h1,cond_true,aO,hx,A0,he,A5,cond_false];rw[aC (by omega) (by omega)];rfl) (by simp[Kz]) (by omega)]
 simp
def bW(x:aB):Nat:=aR x.F+aW x.N
def vU(x:aB):Prop:=rr x.F/\pA x.N
def OE(x:aB)(l:Int)(h1:0<=l)(h2:l<=1048576)(hs:vU x):MD x l=some (if l-bW x<0 then(-1:Int) else l-bW x):=by
 unfold MD;obtain⟨hs0,hs1⟩:=hs;rw[Az _ _ (by omega) (by omega) hs0];simp only[A0];by_cases h10:l-(aR x.F:Int)<0
 ·rw[if_pos h10,if_pos (show l-(bW x:Int)<0 by unfold bW;omega)];simp
 ·simp only[if_neg h10];simp only[h10,decide_false,cond_false];rw[Ci _ _ (by omega) (by omega) hs1];simp only[A0];by_cases h11:l-(aR x.F:Int)-(aW x.N:Int)<0
  ·rw[if_pos h11,if_pos (show l-(bW x:Int)<0 by unfold bW;omega)];simp
  ·simp only[if_neg h11];simp only[h11,decide_false,cond_false];have e:l-(aR x.F:Int)-(aW x.N:Int)=l-(bW x:Int):=by unfold bW;omega
   grind
theorem Md(x:aB)(hl:bW x<=1048576):Ae x=some x:=by
 unfold Ae;simp only[Ax x.F (by grind [bW]),Ce x.N (by grind [bW]),A0]
theorem Ad(x:aB)(hl:bW x<=1048576):JQ x x=some true:=by
 grind [zV,tx,JQ,bW]
def bA(x:ax):Nat:=bU x.F
def jk(x:ax):Prop:=iW x.F
theorem sw(x:ax)(l:Int)(h1:0<=l)(h2:l<=1048576)(hs:jk x):Ny x l=some (if l-bA x<0 then(-1:Int) else l-bA x):=by
 unfold Ny;have hs0:iW x.F:=hs;rw[zy _ _ (by omega) (by omega) hs0];simp only[A0];by_cases h10:l-(bU x.F:Int)<0
 ·simp_all [if_pos,bA]
 ·simp only[if_neg h10];simp only[h10,decide_false,cond_false];have e:l-(bU x.F:Int)=l-(bA x:Int):=by unfold bA;omega
  grind
def sW(x:ax)(hl:bA x<=1048576):Kb x=some x:=by
 simp_all [yS,A0,Kb,bA]
def rP(x:ax)(hl:bA x<=1048576):Km x x=some true:=by
 simp_all [oJ,Km,bA]
def be(xs:(List ax)):Nat:=xs.length+(xs.map fun x=>bA x).sum
def iu(xs:(List ax)):Prop:=xs.length<=9223372036854775807/\∀x∈xs,jk x
def qo(xs:(List ax))(l:Int)(h1:0<=l)(h2:l<=1048576)(hs:iu xs):Pz xs l=some (if l-be xs<0 then(-1:Int) else l-be xs):=by
 unfold Pz;have hs1:=hs.1;rw[aC (by omega) (by omega)];simp only[gE,decide_eq_true_eq];by_cases h:l-(xs.length:Int)<0
 ·rw[if_pos h,if_pos (by unfold be;omega)]
 ·rw[if_neg h,wI (f:=Hk xs) xs (fun x=>bA x) (fun i x l' hx h3 h4=>by
   have hlt:=(A1.1 hx).1;have h1:decide ((i:Int)<xs.length)=true:=by simp[hlt]
   simp only[Hk,h1,cond_true,aO,hx,A0,sw x l' h3 h4 (hs.2 x (A3 hx)),gE,decide_eq_true_eq];rw[aC (by omega) (by omega)];by_cases h5:l'-(bA x:Int)<0
   ·simp only[if_pos h5,if_true,K5,L0]
   ·simp only[if_neg h5,if_true];rfl) (fun l=>by simp[Hk]) _ (by omega) (by omega) (by omega)]
  have e:l-(xs.length:Int)-((xs.map fun x=>bA x).sum:Nat)=l-(be xs:Int):=by unfold be;omega
  rw[e];by_cases h5:l-(be xs:Int)<0
  ·simp only[if_pos h5,A0]
  ·simp only[if_neg h5,A0]
theorem ql(xs:(List ax))(hl:be xs<=1048576):zY xs=some xs:=by
 unfold zY;have hlen:xs.length<=1048576:=by unfold be at hl;omega
 have key:=fun l0(h0:l0.length=xs.length)=>jR (f:=Ja xs) xs id l0 h0 (fun i l x y hx hy hll=>by
  have hlt:=(A1.1 hx).1;have h1:decide ((i:Int)<xs.length)=true:=by simp[hlt]
  have h2:(0<=(i:Int)/\(i:Int)<(l.length:Int)):=by omega
  have hto:Kb x=some x:=sW x (by grind [iv,bA,be]);simp only[Ja,h1,cond_true,aO,hx,A0,aQ h2,A4,hy,hto,bnd,id];rw[aC (by omega) (by omega)];rfl) (fun l=>by simp[Ja]) (by omega)
 rw[aQ (by omega)]
 simp_all [A0,bnd]
theorem qv(xs:(List ax))(hl:be xs<=1048576):QG xs xs=some true:=by
 unfold QG;have hlen:xs.length<=1048576:=by unfold be at hl;omega
 rw[oP (f:=IR xs xs) xs (fun i x hx=>by
  have hlt:=(A1.1 hx).1;have h1:decide ((i:Int)<xs.length)=true:=by simp[hlt]
  have he:Km x x=some true:=rP x (by have:=iv (fun x=>bA x) hx;unfold be at hl;omega);simp only[IR,h1,cond_true,aO,hx,A0,he,A5,cond_false];rw[aC (by omega) (by omega)];rfl) (by simp[IR]) (by omega)]
 simp
def bc(x:ae):Nat:=bW x.F+aW x.N+bU x.L
theorem qC(x:ae)(hl:bc x<=1048576):BL x x=some true:=by
 grind [Ad,tx,oJ,BL,bc]
def aD(k:Int)(_:ByteArray):Int×ByteArray:=(k+1,txt k)
def w_d(_:ByteArray):Nat:=1
theorem dQ(k:Int)(x:ByteArray):(aD k x).1=k+(w_d x:Int):=rfl
theorem w_jy(xs:(List ByteArray)):(xs.map w_d).sum<=16*bB xs:=by
 unfold bB;induction xs with
 |nil=>simp
 |cons x xs ih=>grind [List.length_cons,w_d]
def tQ(xs:(List ByteArray))(k0:Int)(hk:0<=k0)(hK:k0+((xs.map w_d).sum:Nat)<=1000000000000)(hl:bB xs<=1048576):KQ k0 xs=some (aA aD k0 xs):=by
 unfold KQ;have hlen:xs.length<=1048576:=by unfold bB at hl;omega
 rw[jF (f:=HN) xs aD w_d dQ 1000000000000 (fun i x k l hll hi hx hli h0 hK2=>by
  have hw1:w_d x=w_d x:=rfl;have h1:decide ((i:Int)<(l.length:Int))=true:=decide_eq_true (by omega);have h2:0<=(i:Int)/\(i:Int)<(l.length:Int):=by omega
  simp only[HN,h1,cond_true,aQ h2,A0,A4,hli,bnd,rU k h0 (by omega)];rw[aC (n:=k+1) (by unfold w_d at hK2;omega) (by unfold w_d at hK2;omega),aC (n:=(i:Int)+1) (by unfold w_d at hK2;omega) (by unfold w_d at hK2;omega)];rfl) (fun k l hll=>by simp[HN,hll]) k0 hk hK (by omega)]
 rfl
def uo(xs:(List ByteArray))(k0:Int)(hk:0<=k0)(hK:k0+((xs.map w_d).sum:Nat)<=1000000000000)(hl:bB xs<=1048576):GR (aA aD k0 xs).2 k0=some (aA aD k0 xs).1:=by
 unfold GR;have hlen:xs.length<=1048576:=by unfold bB at hl;omega
 rw[mr (f:=Jl (aA aD k0 xs).2) xs aD w_d dQ 1000000000000 k0 (fun i x k hx hm h0 hK2=>by
  have hi:=(A1.1 hx).1;have h1:decide ((i:Int)<((aA aD k0 xs).2.length:Int))=true:=decide_eq_true (by rw[bT];omega);simp only[Jl,h1,cond_true,aO,hm,A0,aD,rU k h0 (by omega),beq_self_eq_true,A5,cond_false];rw[aC (n:=k+1) (by unfold w_d at hK2;omega) (by unfold w_d at hK2;omega),aC (n:=(i:Int)+1) (by unfold w_d at hK2;omega) (by unfold w_d at hK2;omega)];rfl) (fun k=>by simp[Jl,bT]) hk hK (by omega)]
 rfl
def aN(k:Int)(_:aw):Int×aw:=(k+4,⟨k,k+1,k+2,k+3⟩)
def w_b(_:aw):Nat:=4
theorem eJ(k:Int)(x:aw):(aN k x).1=k+(w_b x:Int):=rfl
theorem w_jz(xs:(List aw)):(xs.map w_b).sum<=16*bR xs:=by
 unfold bR;induction xs with
 |nil=>simp
 |cons x xs ih=>grind [List.length_cons,w_b]
def wK(xs:(List aw))(k0:Int)(hk:0<=k0)(hK:k0+((xs.map w_b).sum:Nat)<=1000000000000)(hl:bR xs<=1048576):Mp k0 xs=some (aA aN k0 xs):=by
 unfold Mp;have hlen:xs.length<=1048576:=by unfold bR at hl;omega
 rw[jF (f:=JO) xs aN w_b eJ 1000000000000 (fun i x k l hll hi hx hli h0 hK2=>by
  have hw1:w_b x=w_b x:=rfl;have h1:decide ((i:Int)<(l.length:Int))=true:=decide_eq_true (by omega);have h2:0<=(i:Int)/\(i:Int)<(l.length:Int):=by omega
  simp only[JO,h1,cond_true,aQ h2,A0,A4,hli,bnd,C6 (show i<l.length by omega),H3];rw[aC (n:=k+1) (by unfold w_b at hK2;omega) (by unfold w_b at hK2;omega),aC (n:=k+1+1) (by unfold w_b at hK2;omega) (by unfold w_b at hK2;omega),aC (n:=k+1+1+1) (by unfold w_b at hK2;omega) (by unfold w_b at hK2;omega),aC (n:=k+1+1+1+1) (by unfold w_b at hK2;omega) (by unfold w_b at hK2;omega),aC (n:=(i:Int)+1) (by unfold w_b at hK2;omega) (by unfold w_b at hK2;omega)];simp only[K6,K7,aN];rfl) (fun k l hll=>by simp[JO,hll]) k0 hk hK (by omega)]
 rfl
def vQ(xs:(List aw))(k0:Int)(hk:0<=k0)(hK:k0+((xs.map w_b).sum:Nat)<=1000000000000)(hl:bR xs<=1048576):Ka (aA aN k0 xs).2 k0=some (aA aN k0 xs).1:=by
 unfold Ka;have hlen:xs.length<=1048576:=by unfold bR at hl;omega
 rw[mr (f:=Kd (aA aN k0 xs).2) xs aN w_b eJ 1000000000000 k0 (fun i x k hx hm h0 hK2=>by
  have hi:=(A1.1 hx).1;have h1:decide ((i:Int)<((aA aN k0 xs).2.length:Int))=true:=decide_eq_true (by rw[bT];omega);simp only[Kd,h1,cond_true,aO,hm,A0,aN];rw[aC (n:=k+1) (by unfold w_b at hK2;omega) (by unfold w_b at hK2;omega),aC (n:=k+1+1) (by unfold w_b at hK2;omega) (by unfold w_b at hK2;omega),aC (n:=k+1+1+1) (by unfold w_b at hK2;omega) (by unfold w_b at hK2;omega),aC (n:=k+1+1+1+1) (by unfold w_b at hK2;omega) (by unfold w_b at hK2;omega),aC (n:=(i:Int)+1) (by unfold w_b at hK2;omega) (by unfold w_b at hK2;omega)];simp only[K6,K7,bne_self_eq_false,cond_false];rfl) (fun k=>by simp[Kd,bT]) hk hK (by omega)]
 rfl
def la(k:Int)(x:ah):Int×List ByteArray×List aw:=((aA aN (aA aD k x.N).1 x.F).1,(aA aD k x.N).2,(aA aN (aA aD k x.N).1 x.F).2)
def gA(x:ah):Nat:=(x.N.map w_d).sum+(x.F.map w_b).sum
def kV(k:Int)(x:ah):ah:=⟨(aA aD k x.N).2,(aA aN (aA aD k x.N).1 x.F).2⟩
def tR(x:ah)(k0:Int)(hk:0<=k0)(hK:k0+(gA x:Int)<=1000000000000)(hl:aR x<=1048576):Mv k0 x.N x.F=some (la k0 x):=by
 unfold Mv;unfold gA at hK;have hz:aR x=bB x.N+bR x.F:=by unfold aR;omega
 have f0:=bx aD w_d dQ x.N k0;have f1:=bx aN w_b eJ x.F ((aA aD k0 x.N).1);rw[tQ x.N k0 (by omega) (by omega) (by omega)];simp only[A0];rw[wK x.F ((aA aD k0 x.N).1) (by omega) (by omega) (by omega)];simp only[A0];rfl
def tT(x:ah)(k0:Int)(hk:0<=k0)(hK:k0+(gA x:Int)<=1000000000000)(hl:aR x<=1048576):HE (kV k0 x) k0=some (la k0 x).1:=by
 unfold gA at hK;have hz:aR x=bB x.N+bR x.F:=by unfold aR;omega
 have f0:=bx aD w_d dQ x.N k0;have f1:=bx aN w_b eJ x.F ((aA aD k0 x.N).1);have h0:GR (kV k0 x).N k0=some (aA aD k0 x.N).1:=uo x.N k0 (by omega) (by omega) (by omega);have n0:decide ((aA aD k0 x.N).1<0)=false:=decide_eq_false (by omega);have h1:Ka (kV k0 x).F ((aA aD k0 x.N).1)=some (aA aN (aA aD k0 x.N).1 x.F).1:=vQ x.F ((aA aD k0 x.N).1) (by omega) (by omega) (by omega);have n1:decide ((aA aN (aA aD k0 x.N).1 x.F).1<0)=false:=decide_eq_false (by omega);unfold HE;simp only[h0,n0,h1,n1,A0,cond_false];rfl
def aZ(k:Int)(_:Int):Int×Int:=(k+1,k)
def cW(_:Int):Nat:=1
theorem gc(k:Int)(x:Int):(aZ k x).1=k+(cW x:Int):=rfl
theorem CE(xs:(List Int)):(xs.map cW).sum<=16*bU xs:=by
 unfold bU;induction xs with
 |nil=>simp
 |cons x xs ih=>grind [List.length_cons,cW]
def km(xs:(List Int))(k0:Int)(hk:0<=k0)(hK:k0+((xs.map cW).sum:Nat)<=1000000000000)(hl:bU xs<=1048576):vM k0 xs=some (aA aZ k0 xs):=by
 unfold vM;have hlen:xs.length<=1048576:=by unfold bU at hl;omega
 rw[jF (f:=Kl) xs aZ cW gc 1000000000000 (fun i x k l hll hi hx hli h0 hK2=>by
  have hw1:cW x=cW x:=rfl;have h1:decide ((i:Int)<(l.length:Int))=true:=decide_eq_true (by omega);have h2:0<=(i:Int)/\(i:Int)<(l.length:Int):=by omega
  simp only[Kl,h1,cond_true,aQ h2,A0,A4,hli,bnd];rw[aC (n:=k+1) (by unfold cW at hK2;omega) (by unfold cW at hK2;omega),aC (n:=(i:Int)+1) (by unfold cW at hK2;omega) (by unfold cW at hK2;omega)];rfl) (fun k l hll=>by simp[Kl,hll]) k0 hk hK (by omega)]
 rfl
def ka(xs:(List Int))(k0:Int)(hk:0<=k0)(hK:k0+((xs.map cW).sum:Nat)<=1000000000000)(hl:bU xs<=1048576):tU (aA aZ k0 xs).2 k0=some (aA aZ k0 xs).1:=by
 unfold tU;have hlen:xs.length<=1048576:=by unfold bU at hl;omega
 rw[mr (f:=Jj (aA aZ k0 xs).2) xs aZ cW gc 1000000000000 k0 (fun i x k hx hm h0 hK2=>by
  have hi:=(A1.1 hx).1;have h1:decide ((i:Int)<((aA aZ k0 xs).2.length:Int))=true:=decide_eq_true (by rw[bT];omega);simp only[Jj,h1,cond_true,aO,hm,A0,aZ,bne_self_eq_false,cond_false];rw[aC (n:=k+1) (by unfold cW at hK2;omega) (by unfold cW at hK2;omega),aC (n:=(i:Int)+1) (by unfold cW at hK2;omega) (by unfold cW at hK2;omega)];rfl) (fun k=>by simp[Jj,bT]) hk hK (by omega)]
 rfl
def aP(k:Int)(x:af):Int×af:=((aA aZ (k+1+1) x.F.F).1+1+1,⟨k,⟨k+1,(aA aZ (k+1+1) x.F.F).2⟩,⟨(aA aZ (k+1+1) x.F.F).1,(aA aZ (k+1+1) x.F.F).1+1⟩⟩)
def w_i(x:af):Nat:=4+(x.F.F.map cW).sum
theorem eI(k:Int)(x:af):(aP k x).1=k+(w_i x:Int):=by
 grind [bx,gc,aP,w_i,aZ,cW]
theorem w_ka(xs:(List af)):(xs.map w_i).sum<=16*aW xs:=by
 unfold aW;induction xs with
 |nil=>simp
 | cons x xs ih =>
   grind [CE,List.length_cons,bU,w_i,cu,eB]
def oq(xs:(List af))(k0:Int)(hk:0<=k0)(hK:k0+((xs.map w_i).sum:Nat)<=1000000000000)(hl:aW xs<=1048576):JE k0 xs=some (aA aP k0 xs):=by
 unfold JE;have hlen:xs.length<=1048576:=by unfold aW at hl;omega
 rw[jF (f:=HT) xs aP w_i eI 1000000000000 (fun i x k l hll hi hx hli h0 hK2=>by
  have hw1:w_i x=w_i x:=rfl;have h1:decide ((i:Int)<(l.length:Int))=true:=decide_eq_true (by omega);have h2:0<=(i:Int)/\(i:Int)<(l.length:Int):=by omega
  have hb:cu x<=1048576:=by have:=iv (fun x=>cu x) hx;unfold aW at hl;omega
  unfold cu eB bU at hb;unfold w_i at hK2;simp only[HT,h1,cond_true,aQ h2,A0,A4,hli,bnd,C6 (show i<l.length by omega),H3];rw[aC (n:=k+1) (by omega) (by omega),aC (n:=k+1+1) (by omega) (by omega)];have f0:=bx aZ cW gc x.F.F (k+1+1);have g0:=CE x.F.F;unfold bU at g0;rw[km x.F.F (k+1+1) (by omega) (by omega) (by unfold bU;omega)];simp only[A0,C6 (show i<l.length by omega),H3];rw[aC (n:=(aA aZ (k+1+1) x.F.F).1+1) (by omega) (by omega),aC (n:=(aA aZ (k+1+1) x.F.F).1+1+1) (by omega) (by omega)];rw[aC (n:=(i:Int)+1) (by omega) (by omega)];rfl) (fun k l hll=>by simp[HT,hll]) k0 hk hK (by omega)]
 rfl
def nW(xs:(List af))(k0:Int)(hk:0<=k0)(hK:k0+((xs.map w_i).sum:Nat)<=1000000000000)(hl:aW xs<=1048576):yU (aA aP k0 xs).2 k0=some (aA aP k0 xs).1:=by
 unfold yU;have hlen:xs.length<=1048576:=by unfold aW at hl;omega
 rw[mr (f:=Kc (aA aP k0 xs).2) xs aP w_i eI 1000000000000 k0 (fun i x k hx hm h0 hK2=>by
  have hi:=(A1.1 hx).1;have h1:decide ((i:Int)<((aA aP k0 xs).2.length:Int))=true:=decide_eq_true (by rw[bT];omega);have hb:cu x<=1048576:=by have:=iv (fun x=>cu x) hx;unfold aW at hl;omega
  unfold cu eB bU at hb;unfold w_i at hK2;simp only[Kc,h1,cond_true,aO,hm,A0,aP];rw[aC (n:=k+1) (by omega) (by omega),aC (n:=k+1+1) (by omega) (by omega)];have f0:=bx aZ cW gc x.F.F (k+1+1);have g0:=CE x.F.F;unfold bU at g0;have hh0:tU (aA aZ (k+1+1) x.F.F).2 (k+1+1)=some (aA aZ (k+1+1) x.F.F).1:=ka x.F.F (k+1+1) (by omega) (by omega) (by unfold bU;omega);have hn0:decide ((aA aZ (k+1+1) x.F.F).1<0)=false:=decide_eq_false (by omega);simp only[bne_self_eq_false,cond_false,hh0,A0,hn0];rw[aC (n:=(aA aZ (k+1+1) x.F.F).1+1) (by omega) (by omega),aC (n:=(aA aZ (k+1+1) x.F.F).1+1+1) (by omega) (by omega)];rw[aC (n:=(i:Int)+1) (by omega) (by omega)];try simp only[bne_self_eq_false,cond_false]
  rfl) (fun k=>by simp[Kc,bT]) hk hK (by omega)]
 rfl
def ge(k:Int)(x:aB):Int×List ByteArray×List aw×List af:=((aA aP (aA aN (aA aD k x.F.N).1 x.F.F).1 x.N).1,(aA aD k x.F.N).2,(aA aN (aA aD k x.F.N).1 x.F.F).2,(aA aP (aA aN (aA aD k x.F.N).1 x.F.F).1 x.N).2)
def gD(x:aB):Nat:=(x.F.N.map w_d).sum+(x.F.F.map w_b).sum+(x.N.map w_i).sum
def nI(k:Int)(x:aB):aB:=⟨⟨(aA aD k x.F.N).2,(aA aN (aA aD k x.F.N).1 x.F.F).2⟩,(aA aP (aA aN (aA aD k x.F.N).1 x.F.F).1 x.N).2⟩
def xB(k:Int)(x:aB):(ge k x).1=k+(gD x:Int):=by
 unfold ge gD
 grind [bx,dQ,eJ,eI]
def w_kb(x:aB):gD x<=16*bW x:=by
 unfold gD
 grind [w_jy,w_jz,w_ka,bW,bB,bR,aW,aR]
def sQ(x:aB)(k0:Int)(hk:0<=k0)(hK:k0+(gD x:Int)<=1000000000000)(hl:bW x<=1048576):Ij k0 x.F.N x.F.F x.N=some (ge k0 x):=by
 unfold Ij;unfold gD at hK;have hz:bW x=bB x.F.N+bR x.F.F+aW x.N:=by unfold bW aR;omega
 have f0:=bx aD w_d dQ x.F.N k0;have f1:=bx aN w_b eJ x.F.F ((aA aD k0 x.F.N).1);have f2:=bx aP w_i eI x.N ((aA aN (aA aD k0 x.F.N).1 x.F.F).1);rw[tR x.F k0 (by omega) (by unfold gA;omega) (by unfold aR;omega)];simp only[A0,la];rw[oq x.N ((aA aN (aA aD k0 x.F.N).1 x.F.F).1) (by omega) (by omega) (by omega)];simp only[A0];rfl
def DA(x:aB)(k0:Int)(hk:0<=k0)(hK:k0+(gD x:Int)<=1000000000000)(hl:bW x<=1048576):JG (nI k0 x) k0=some (ge k0 x).1:=by
 unfold gD at hK;have hz:bW x=bB x.F.N+bR x.F.F+aW x.N:=by unfold bW aR;omega
 have f0:=bx aD w_d dQ x.F.N k0;have f1:=bx aN w_b eJ x.F.F ((aA aD k0 x.F.N).1);have f2:=bx aP w_i eI x.N ((aA aN (aA aD k0 x.F.N).1 x.F.F).1);have h0:HE (⟨(nI k0 x).F.N,(nI k0 x).F.F⟩:ah) k0=some (aA aN (aA aD k0 x.F.N).1 x.F.F).1:=tT x.F k0 (by omega) (by unfold gA;omega) (by unfold aR;omega);have n0:decide ((aA aN (aA aD k0 x.F.N).1 x.F.F).1<0)=false:=decide_eq_false (by omega);have h1:yU (nI k0 x).N ((aA aN (aA aD k0 x.F.N).1 x.F.F).1)=some (aA aP (aA aN (aA aD k0 x.F.N).1 x.F.F).1 x.N).1:=nW x.N ((aA aN (aA aD k0 x.F.N).1 x.F.F).1) (by omega) (by omega) (by omega);have n1:decide ((aA aP (aA aN (aA aD k0 x.F.N).1 x.F.F).1 x.N).1<0)=false:=decide_eq_false (by omega);unfold JG;simp only[h0,n0,h1,n1,A0,cond_false];rfl
def ee(k:Int)(x:ax):Int×ax:=((aA aZ (k+1) x.F).1,⟨(Int.tmod k 3)==0,(aA aZ (k+1) x.F).2⟩)
def uv(x:ax):Nat:=1+(x.F.map cW).sum
def lN(k:Int)(x:ax):(ee k x).1=k+(uv x:Int):=by
 grind [bx,gc,ee,uv,aZ,cW]
def w_kc(xs:(List ax)):(xs.map uv).sum<=16*be xs:=by
 unfold be;induction xs with
 |nil=>simp
 | cons x xs ih =>
   grind [CE,List.length_cons,bU,uv,bA]
def oB(xs:(List ax))(k0:Int)(hk:0<=k0)(hK:k0+((xs.map uv).sum:Nat)<=1000000000000)(hl:be xs<=1048576):Np k0 xs=some (aA ee k0 xs):=by
 unfold Np;have hlen:xs.length<=1048576:=by unfold be at hl;omega
 rw[jF (f:=JC) xs ee uv lN 1000000000000 (fun i x k l hll hi hx hli h0 hK2=>by
  have hw1:uv x=uv x:=rfl;have h1:decide ((i:Int)<(l.length:Int))=true:=decide_eq_true (by omega);have h2:0<=(i:Int)/\(i:Int)<(l.length:Int):=by omega
  have hb:bA x<=1048576:=by have:=iv (fun x=>bA x) hx;unfold be at hl;omega
  unfold bA bU at hb;unfold uv at hK2;simp only[JC,h1,cond_true,aQ h2,aQ (show(3:Int)≠0 by decide),A0,A4,hli,bnd,C6 (show i<l.length by omega),H3];rw[aC (n:=k+1) (by omega) (by omega)];have f0:=bx aZ cW gc x.F (k+1);have g0:=CE x.F;unfold bU at g0;rw[km x.F (k+1) (by omega) (by omega) (by unfold bU;omega)];simp only[A0,C6 (show i<l.length by omega),H3];rw[aC (n:=(i:Int)+1) (by omega) (by omega)];rfl) (fun k l hll=>by simp[JC,hll]) k0 hk hK (by omega)]
 rfl
def bd(k:Int)(x:ae):Int×List ByteArray×List aw×List af×List af×List Int:=((aA aZ (aA aP (aA aP (aA aN (aA aD k x.F.F.N).1 x.F.F.F).1 x.F.N).1 x.N).1 x.L).1,(aA aD k x.F.F.N).2,(aA aN (aA aD k x.F.F.N).1 x.F.F.F).2,(aA aP (aA aN (aA aD k x.F.F.N).1 x.F.F.F).1 x.F.N).2,(aA aP (aA aP (aA aN (aA aD k x.F.F.N).1 x.F.F.F).1 x.F.N).1 x.N).2,(aA aZ (aA aP (aA aP (aA aN (aA aD k x.F.F.N).1 x.F.F.F).1 x.F.N).1 x.N).1 x.L).2)
theorem lz(k:Int)(x:ae):(bd k x).2.1.length=x.F.F.N.length:=bT aD _ _
theorem lM(k:Int)(x:ae):(bd k x).2.2.1.length=x.F.F.F.length:=bT aN _ _
theorem lc(k:Int)(x:ae):(bd k x).2.2.2.1.length=x.F.N.length:=bT aP _ _
theorem ln(k:Int)(x:ae):(bd k x).2.2.2.2.1.length=x.N.length:=bT aP _ _
theorem lG(k:Int)(x:ae):(bd k x).2.2.2.2.2.length=x.L.length:=bT aZ _ _
def dh(x:ae):Nat:=(x.F.F.N.map w_d).sum+(x.F.F.F.map w_b).sum+(x.F.N.map w_i).sum+(x.N.map w_i).sum+(x.L.map cW).sum
def dD(k:Int)(x:ae):ae:=⟨⟨⟨(aA aD k x.F.F.N).2,(aA aN (aA aD k x.F.F.N).1 x.F.F.F).2⟩,(aA aP (aA aN (aA aD k x.F.F.N).1 x.F.F.F).1 x.F.N).2⟩,(aA aP (aA aP (aA aN (aA aD k x.F.F.N).1 x.F.F.F).1 x.F.N).1 x.N).2,(aA aZ (aA aP (aA aP (aA aN (aA aD k x.F.F.N).1 x.F.F.F).1 x.F.N).1 x.N).1 x.L).2⟩
def mC(k:Int)(x:ae):(bd k x).1=k+(dh x:Int):=by
 unfold bd dh
 grind [bx,dQ,eJ,eI,gc]
def w_kd(x:ae):dh x<=16*bc x:=by
 unfold dh;have hz:bc x=bB x.F.F.N+bR x.F.F.F+aW x.F.N+aW x.N+bU x.L:=by unfold bc bW aR;omega
 grind [w_jy,w_jz,w_ka,CE]
def oY(x:ae)(k0:Int)(hk:0<=k0)(hK:k0+(dh x:Int)<=1000000000000)(hl:bc x<=1048576):LM k0 x.F.F.N x.F.F.F x.F.N x.N x.L=some (bd k0 x):=by
 unfold LM;unfold dh at hK;have hz:bc x=bB x.F.F.N+bR x.F.F.F+aW x.F.N+aW x.N+bU x.L:=by unfold bc bW aR;omega
 have f0:=bx aD w_d dQ x.F.F.N k0;have f1:=bx aN w_b eJ x.F.F.F ((aA aD k0 x.F.F.N).1);have f2:=bx aP w_i eI x.F.N ((aA aN (aA aD k0 x.F.F.N).1 x.F.F.F).1);have f3:=bx aP w_i eI x.N ((aA aP (aA aN (aA aD k0 x.F.F.N).1 x.F.F.F).1 x.F.N).1);have f4:=bx aZ cW gc x.L ((aA aP (aA aP (aA aN (aA aD k0 x.F.F.N).1 x.F.F.F).1 x.F.N).1 x.N).1);rw[sQ x.F k0 (by omega) (by unfold gD;omega) (by unfold bW aR;omega)];simp only[A0,ge];rw[oq x.N ((aA aP (aA aN (aA aD k0 x.F.F.N).1 x.F.F.F).1 x.F.N).1) (by omega) (by omega) (by omega)];simp only[A0];rw[km x.L ((aA aP (aA aP (aA aN (aA aD k0 x.F.F.N).1 x.F.F.F).1 x.F.N).1 x.N).1) (by omega) (by omega) (by omega)];simp only[A0];rfl
def iP(x:ae)(k0:Int)(hk:0<=k0)(hK:k0+(dh x:Int)<=1000000000000)(hl:bc x<=1048576):yf (dD k0 x) k0=some (bd k0 x).1:=by
 unfold dh at hK;have hz:bc x=bB x.F.F.N+bR x.F.F.F+aW x.F.N+aW x.N+bU x.L:=by unfold bc bW aR;omega
 have f0:=bx aD w_d dQ x.F.F.N k0;have f1:=bx aN w_b eJ x.F.F.F ((aA aD k0 x.F.F.N).1);have f2:=bx aP w_i eI x.F.N ((aA aN (aA aD k0 x.F.F.N).1 x.F.F.F).1);have f3:=bx aP w_i eI x.N ((aA aP (aA aN (aA aD k0 x.F.F.N).1 x.F.F.F).1 x.F.N).1);have f4:=bx aZ cW gc x.L ((aA aP (aA aP (aA aN (aA aD k0 x.F.F.N).1 x.F.F.F).1 x.F.N).1 x.N).1);have h0:JG (⟨(⟨(dD k0 x).F.F.N,(dD k0 x).F.F.F⟩:ah),(dD k0 x).F.N⟩:aB) k0=some (aA aP (aA aN (aA aD k0 x.F.F.N).1 x.F.F.F).1 x.F.N).1:=DA x.F k0 (by omega) (by unfold gD;omega) (by unfold bW aR;omega);have n0:decide ((aA aP (aA aN (aA aD k0 x.F.F.N).1 x.F.F.F).1 x.F.N).1<0)=false:=decide_eq_false (by omega);have h1:yU (dD k0 x).N ((aA aP (aA aN (aA aD k0 x.F.F.N).1 x.F.F.F).1 x.F.N).1)=some (aA aP (aA aP (aA aN (aA aD k0 x.F.F.N).1 x.F.F.F).1 x.F.N).1 x.N).1:=nW x.N ((aA aP (aA aN (aA aD k0 x.F.F.N).1 x.F.F.F).1 x.F.N).1) (by omega) (by omega) (by omega);have n1:decide ((aA aP (aA aP (aA aN (aA aD k0 x.F.F.N).1 x.F.F.F).1 x.F.N).1 x.N).1<0)=false:=decide_eq_false (by omega);have h2:tU (dD k0 x).L ((aA aP (aA aP (aA aN (aA aD k0 x.F.F.N).1 x.F.F.F).1 x.F.N).1 x.N).1)=some (aA aZ (aA aP (aA aP (aA aN (aA aD k0 x.F.F.N).1 x.F.F.F).1 x.F.N).1 x.N).1 x.L).1:=ka x.L ((aA aP (aA aP (aA aN (aA aD k0 x.F.F.N).1 x.F.F.F).1 x.F.N).1 x.N).1) (by omega) (by omega) (by omega);have n2:decide ((aA aZ (aA aP (aA aP (aA aN (aA aD k0 x.F.F.N).1 x.F.F.F).1 x.F.N).1 x.N).1 x.L).1<0)=false:=decide_eq_false (by omega);unfold yf;simp only[h0,n0,h1,n1,h2,n2,A0,cond_false];rfl
end Vs

namespace Vs
open Go
def wi(x a b:Int):Bool:=decide (a<=x)&&decide (x<=b)
theorem cx{x a b:Int}:wi x a b=true↔a<=x/\x<=b:=by simp[wi]
def su{x a b:Int}:wi x a b=false↔¬(a<=x/\x<=b):=by rw[<-cx];simp
theorem eP(x a b:Int):mF x a b=some (wi x a b):=by
 grind [mF,wi]
theorem jv(x a b:Int):M_u x a b=some (wi x a b):=by
 grind [M_u,wi]
def ul(c:UInt8):Bool:=decide (97<=c.toNat)&&decide (c.toNat<=122)
def zj(c:UInt8):Bool:=decide (48<=c.toNat)&&decide (c.toNat<=57)
def hZ(i:Nat)(c:UInt8):Bool:=!ul c&&(!zj c||i==0)
def pZ(s:ByteArray):Bool:=!fM hZ s.data.toList&&wi s.size 1 8
theorem si(s:ByteArray)(i:Nat):wG s (i:Int)=s.data.toList[i]?:=by
 unfold wG;rw[if_pos (by omega),A4];by_cases h:i<s.size
 ·have h2:i<s.data.toList.length:=by simpa using h
  rw[getElem?_pos s i h,A2 h2];rfl
 simp_all
def gl(s:ByteArray):s.size=s.data.toList.length:=by simp_all
theorem Cl(c:UInt8):ul c=(decide (97<=(c.toNat:Int))&&decide ((c.toNat:Int)<=122)):=by
 unfold ul
 grind
theorem Lw(c:UInt8):zj c=(decide (48<=(c.toNat:Int))&&decide ((c.toNat:Int)<=57)):=by
 unfold zj
 grind
theorem NT(s:ByteArray)(hl:s.size<=1048576):Nw s=some (pZ s):=by
 unfold Nw pZ;rw[gl] at*
 rw[dY (f:=HY s) s.data.toList hZ (.inr false) (.inl ()) (fun i c hc _=>by
  have hlt:=(A1.1 hc).1;have h1:decide ((i:Int)<s.size)=true:=decide_eq_true (by rw[gl];omega);simp only[HY,h1,cond_true,si,hc,A0,hZ,Cl,Lw];rw[aC (by omega) (by omega)];have hi:((i:Int)==0)=(i==0):=by rw[C3];simp
  rw[hi];cases decide (97<=(c.toNat:Int))<;>cases decide ((c.toNat:Int)<=122)<;>cases decide (48<=(c.toNat:Int))<;>cases decide ((c.toNat:Int)<=57)<;>cases(i==0)<;>rfl) (by simp[HY]) (by omega)]
 rw[<-gl];cases fM hZ s.data.toList<;>simp[eP]
theorem Se(c:UInt8):Ro (c.toNat:Int)=some (ul c||zj c):=by
 grind [Cl,Lw,Ro,decide]
def fstc(c:UInt8):(cond (decide ((c.toNat:Int)<97)) (some true) (some (decide (122<(c.toNat:Int)))):Option Bool)=some (!ul c):=by
 rw[Cl];by_cases h1:(c.toNat:Int)<97
 ·simp_all
 ·have h2:97<=(c.toNat:Int):=by omega
  simp only[h1,decide_false,cond_false,h2,decide_true,A9];by_cases h3:122<(c.toNat:Int)
  ·simp_all
  simp_all
theorem KN(s:ByteArray)(hl:s.size<=1048576):Sj s=some (pZ s):=by
 unfold Sj pZ;simp only[jv,A0];rcases bt (wi s.size 1 8) with hw|hw
 ·simp only[hw,A5,cond_false,J0];have hs:0<s.data.toList.length:=by rw[<-gl];have:=(cx.1 hw).1;omega
  have h0:s.data.toList[0]?=some s.data.toList[0]:=A2 hs;have g0:wG s 0=some s.data.toList[0]:=by rw[<-h0];exact si s 0
  simp only[g0,A0];have key:=dY (f:=M_a s) s.data.toList (fun _ c=>!(ul c||zj c)) (.inr false) (.inl ()) (fun i c hc _=>by
   have hlt:=(A1.1 hc).1;have h1:decide ((i:Int)<s.size)=true:=decide_eq_true (by rw[gl];omega);rw[gl] at hl;simp only[M_a,h1,cond_true,si,hc,A0,Se];rw[aC (by omega) (by omega)];cases ul c<;>cases zj c<;>rfl) (by simp[M_a]) (by rw[gl] at hl;omega)
  rw[fstc];simp only[A0,key];rcases bt (ul s.data.toList[0]) with hL|hL
  ·simp only[hL,A5,cond_false];have e:fM (fun _ c=>!(ul c||zj c)) s.data.toList=fM hZ s.data.toList:=by
    refine CD fun i c hc _=>?_;unfold hZ;by_cases hi:i=0
    ·subst hi;rw[h0] at hc;cases hc;rw[hL];rfl
    ·have:(i==0)=false:=by simpa using hi
     rw[this];cases ul c<;>cases zj c<;>rfl
   rw[e];cases fM hZ s.data.toList<;>rfl
  ·have:fM hZ s.data.toList=true:=iK.2 ⟨0,_,h0,by unfold hZ;rw[hL];simp⟩;simp only[hL,this,B5,cond_true,A5]
 ·simp[hw]
def afu(v:ByteArray)(xs:List ByteArray):Option (Nat×ByteArray):=dv (fun _ x=>x.toList==v.toList) xs
def Xy(v:ByteArray)(xs:List ByteArray):Int:=match afu v xs with|some q=>(q.1:Int)|none=>-1
theorem PQ(xs:List ByteArray)(v:ByteArray)(hl:xs.length<=1048576):Qg xs v=some (Xy v xs):=by
 unfold Qg Xy;rw[cN (f:=Jd xs v) xs (fun _ x=>x.toList==v.toList) (fun i _=>(i:Int)) () (fun i x hx _=>by
  have hlt:=(A1.1 hx).1;have h1:decide ((i:Int)<xs.length)=true:=by simp[hlt]
  simp only[Jd,h1,cond_true,aO,hx,A0]
  grind [aC]) (by simp[Jd]) (by omega)]
 grind [afu,dv]
theorem xJ(xs:List ByteArray)(v:ByteArray)(hl:xs.length<=1048576):RS xs v=some (xs.any fun x=>x.toList==v.toList):=by
 unfold RS Ww;rw[cN (f:=GF xs v) xs (fun _ x=>x.toList==v.toList) (fun i _=>(i:Int)) () (fun i x hx _=>by
  have hlt:=(A1.1 hx).1;have h1:decide ((i:Int)<xs.length)=true:=by simp[hlt]
  simp only[GF,h1,cond_true,aO,hx,A0];rw[aC (by omega) (by omega),show(v.toList==x.toList)=(x.toList==v.toList) from Bool.beq_comm ..];cases x.toList==v.toList<;>rfl) (by simp[GF]) (by omega)]
 cases e:dv (fun _ x=>x.toList==v.toList) xs with
 | none =>
   have:=eu.1 e;have h:(xs.any fun x=>x.toList==v.toList)=false:=by
    rw[<-sG (fun x:ByteArray=>x.toList==v.toList),cy];exact this
   rw[h];rfl
 | some q =>
   obtain⟨i,x⟩:=q;obtain⟨h1,h2,_⟩:=cw.1 e;have h:(xs.any fun x=>x.toList==v.toList)=true:=E1.2 ⟨x,A3 h1,h2⟩;rw[h];simp
def eh(x y:Int):Int:=if x<y then -1 else if y<x then 1 else 0
theorem Nr(x y:Int):qn x y=some (eh x y):=by
 grind [qn,OY,eh]
def Ch(f g:aw):Int:=if f.A≠g.A then eh f.A g.A else if f.B≠g.B then eh f.B g.B else if f.F≠g.F then eh f.F g.F else eh f.N g.N
theorem dl{x y:Int}:eh x y=0↔x=y:=by
 grind [eh]
theorem qy(f g:aw):Ra f g=some (Ch f g):=by
 unfold Ra;simp only[Nr,A0,bnd];unfold CH;have key:=cN (f:=M_y [eh f.A g.A,eh f.B g.B,eh f.F g.F,eh f.N g.N]) [eh f.A g.A,eh f.B g.B,eh f.F g.F,eh f.N g.N] (fun _ x=>x !=0) (fun _ x=>x) () (fun i x hx _=>by
  have hlt:=(A1.1 hx).1;have h1:decide ((i:Int)<([eh f.A g.A,eh f.B g.B,eh f.F g.F,eh f.N g.N].length:Nat))=true:=decide_eq_true (by omega);simp only[A8,B8] at hlt;simp only[M_y,h1,cond_true,aO,hx,A0]
  grind [aC]) (by simp[M_y]) (by simp)
 rw[key];unfold Ch dv;simp only[E9,J8,F8,K0];by_cases h1:f.A=g.A
 ·rw[dl.2 h1];by_cases h2:f.B=g.B
  ·rw[dl.2 h2];by_cases h3:f.F=g.F
   ·rw[dl.2 h3]
    grind
   ·have:(eh f.F g.F !=0)=true:=bne_iff_ne.2 fun e=>h3 (dl.1 e);simp[h1,h2,h3,this]
  ·have:(eh f.B g.B !=0)=true:=bne_iff_ne.2 fun e=>h2 (dl.1 e);simp[h1,h2,this]
 ·have:(eh f.A g.A !=0)=true:=bne_iff_ne.2 fun e=>h1 (dl.1 e);simp[h1,this]
end Vs

namespace Vs
open Go
theorem DZ{α:Type}(xs:List α)(i:Nat)(h:i<=xs.length):slT xs (i:Int)=some (xs.take i):=by
 simp_all [if_pos,slT]
def tL{n:ah}(h:aR n<=1048576):n.N.length<=1048576/\n.F.length<=1048576/\∀x∈n.N,x.size<=1048576:=by
 unfold aR bB bR at h;refine⟨by omega,by omega,fun x hx=>?_⟩;obtain⟨i,hi,rfl⟩:=I9 hx;have:n.N[i].size<=(n.N.map fun x:ByteArray=>x.size).sum:=iv (fun x:ByteArray=>x.size) (xs:=n.N) (i:=i) (x:=n.N[i]) (by simp[hi]);omega
def jb(n:ah)(i:Nat)(x:ByteArray):Bool:=!pZ x||(n.N.take i).any fun y=>y.toList==x.toList
def Cv(m:Nat)(f:aw):Bool:=decide (f.A<0)||decide (f.B<=f.A)||decide ((m:Int)<=f.B)||!wi f.F 1 5000||!wi f.N 0 9
def kn(n:ah)(i:Nat)(f:aw):Bool:=Cv n.N.length f||(decide (0<i)&&match n.F[i-1]? with|some g=>decide (0<Ch g f)|none=>false)
def bM(n:ah):Bool:=!fM (jb n) n.N&&!fM (kn n) n.F&&wi n.N.length 2 8&&decide (n.F.length<=14)
def jW(n:ah)(hz:aR n<=1048576):Hn n=some (bM n):=by
 obtain⟨h1,h2,h3⟩:=tL hz;unfold Hn bM;rw[dY (f:=HP n) n.N (jb n) (.inr false) (.inl ()) (fun i x hx _=>by
  have hlt:=(A1.1 hx).1;have e1:decide ((i:Int)<n.N.length)=true:=by simp[hlt]
  simp only[HP,e1,cond_true,aO,hx,A0,NT x (h3 x (A3 hx)),DZ n.N i (Nat.le_of_lt hlt),xJ (n.N.take i) x (by simp;omega),jb];rw[aC (by omega) (by omega)];rcases bt (pZ x) with e|e<;>rcases bt ((n.N.take i).any (fun y=>y.toList==x.toList)) with e'|e'<;>simp only[e,e']<;>rfl) (by simp[HP]) (by omega)]
 rcases bt (fM (jb n) n.N) with hN|hN
 ·simp[hN]
 ·simp only[hN,C4,if_false,A0,B5,A9];rw[dY (f:=Gn n) n.F (kn n) (.inr false) (.inl ()) (fun i x hx _=>by
   have hlt:=(A1.1 hx).1;have e1:decide ((i:Int)<n.F.length)=true:=by simp[hlt]
   simp only[Gn,e1,cond_true,aO,hx,A0,eP];rw[aC (n:=(i:Int)+1) (by omega) (by omega)];unfold kn Cv;cases decide (x.A<0)
   ·cases decide (x.B<=x.A)
    ·cases decide ((n.N.length:Int)<=x.B)
     ·cases wi x.F 1 5000
      ·rfl
      ·cases wi x.N 0 9
       ·rfl
       ·by_cases hi:0<i
        ·have hi':decide ((0:Int)<(i:Int))=true:=by simp[hi]
         have hp:n.F[i-1]?=some n.F[i-1]:=A2 (by omega);have hw:A7 .i64 ((i:Int)-1)=((i-1:Nat):Int):=by rw[aC (by omega) (by omega)];omega
         simp only[hi',cond_true,cond_false,A5,hw,aO,hp,A0,qy,hi,decide_true,A9,D4];cases decide (0<Ch n.F[i-1] x)<;>rfl
        ·have hi':decide ((0:Int)<(i:Int))=false:=by simp;omega
         simp[hi',hi]
     ·rfl
    ·rfl
   ·rfl) (by simp[Gn]) (by omega)]
  rcases bt (fM (kn n) n.F) with hF|hF
  ·simp[hF]
  ·simp only[hF,C4,if_false,A0,B5,A9,eP];have e:decide ((n.F.length:Int)<=14)=decide (n.F.length<=14):=decide_eq_decide.2 (by omega);rw[e];cases wi n.N.length 2 8<;>rfl
theorem Pq(n:ah)(i:Nat)(x:ByteArray)(hx:n.N[i]?=some x):
 (Xy x n.N !=(i:Int))=(n.N.take i).any fun y=>y.toList==x.toList:=by
 unfold Xy;cases e:afu x n.N with
 | none =>
   have:=eu.1 e i x hx;simp at this
 | some q =>
   obtain⟨j,y⟩:=q;obtain⟨h1,h2,h3⟩:=cw.1 e;simp only;by_cases hj:j=i
   ·subst hj;have:((n.N.take j).any fun y=>y.toList==x.toList)=false:=by
     rw[B9];intro z hz;obtain⟨k,hk,rfl⟩:=I9 hz;simp only[D5] at hk;have:=h3 k (n.N.take j)[k] (by omega) (by rw[List.getElem_take];exact A2 (by omega));rw[this];simp
    rw[this];simp
   ·have hji:j<i:=by
     rcases Nat.lt_trichotomy j i with h|h|h
     ·exact h
     ·exact(hj h).elim
     ·have:=h3 i x h hx;simp at this
    have:((n.N.take i).any fun y=>y.toList==x.toList)=true:=E1.2 ⟨y,by
     have:(n.N.take i)[j]?=some y:=by rw[E4,if_pos hji];exact h1
     exact A3 this,h2⟩
    rw[this];simp;omega
theorem IJ(f:aw)(m:Nat)(hm:m<=8)(hm2:2<=m):Sk f (m:Int)=some (!Cv m f):=by
 unfold Sk Cv;simp only[jv,A0];rw[aC (n:=(m:Int)-1) (by omega) (by omega)];rcases bt (wi f.A 0 ((m:Int)-1)) with h1|h1
 ·have h2:=cx.1 h1;rw[aC (n:=f.A+1) (by omega) (by omega)];rcases bt (wi f.B (f.A+1) ((m:Int)-1)) with h3|h3
  ·have h4:=cx.1 h3;have a1:decide (f.A<0)=false:=by simp;omega
   have a2:decide (f.B<=f.A)=false:=by simp;omega
   have a3:decide ((m:Int)<=f.B)=false:=by simp;omega
   simp only[h1,h3,a1,a2,a3,cond_true,D4]
   grind [wi]
  ·have h4:=su.1 h3
   grind
 ·have h2:=su.1 h1;simp only[h1,cond_false];by_cases a1:f.A<0
  ·simp[a1]
  ·by_cases a2:f.B<=f.A
   ·simp[a2]
   grind
structure Fj(m:Int)(f:aw):Prop where
 a0:0<=f.A
 ab:f.A<f.B
 bm:f.B<m
 l1:1<=f.F
 l2:f.F<=5000
 r0:0<=f.N
 r9:f.N<=9
def xf{m:Nat}{f:aw}(h:Cv m f=false):Fj m f:=by
 unfold Cv at h;simp only[C5,decide_eq_false_iff_not,G1,cx] at h;obtain⟨⟨⟨⟨h1,h2⟩,h3⟩,h4,h5⟩,h6,h7⟩:=h;exact⟨by omega,by omega,by omega,h4,h5,h6,h7⟩
def Ri(f g:aw)(m:Nat)(hm:m<=8)(hf:Fj m f)(hg:Fj m g):∃r,Lp f g=some r/\decide (0<r)=decide (0<Ch f g):=by
 obtain⟨a1,a2,a3,a4,a5,a6,a7⟩:=hf;obtain⟨b1,b2,b3,b4,b5,b6,b7⟩:=hg;have sgn:∀x y:Int,decide (0<x-y)=decide (0<eh x y):=by
  intro x y;unfold eh;by_cases h:x<y
  ·rw[if_pos h];exact decide_eq_decide.2 (by omega)
  ·rw[if_neg h];by_cases h2:y<x
   ·rw[if_pos h2];exact decide_eq_decide.2 (by omega)
   ·rw[if_neg h2];exact decide_eq_decide.2 (by omega)
 unfold Lp Ch;rw[aC (n:=f.A-g.A) (by omega) (by omega),aC (n:=f.B-g.B) (by omega) (by omega),aC (n:=f.F-g.F) (by omega) (by omega),aC (n:=f.N-g.N) (by omega) (by omega)];by_cases h1:f.A=g.A
 ·have e1:(f.A !=g.A)=false:=by rw[h1];simp
  by_cases h2:f.B=g.B
  ·have e2:(f.B !=g.B)=false:=by rw[h2];simp
   by_cases h3:f.F=g.F
   ·have e3:(f.F !=g.F)=false:=by rw[h3];simp
    exact⟨f.N-g.N,by simp only[e1,e2,e3,cond_false],by simp only[h1,h2,h3,ne_eq,not_true,if_false];exact sgn _ _⟩
   ·have e3:(f.F !=g.F)=true:=bne_iff_ne.2 h3;exact⟨f.F-g.F,by simp only[e1,e2,e3,cond_false,cond_true],by simp only[h1,h2,h3,ne_eq,not_true,not_false_eq_true,if_false,if_true];exact sgn _ _⟩
  ·have e2:(f.B !=g.B)=true:=bne_iff_ne.2 h2;exact⟨f.B-g.B,by simp only[e1,e2,cond_false,cond_true],by simp only[h1,h2,ne_eq,not_true,not_false_eq_true,if_false,if_true];exact sgn _ _⟩
 ·have e1:(f.A !=g.A)=true:=bne_iff_ne.2 h1;exact⟨f.A-g.A,by simp only[e1,cond_true],by simp only[h1,ne_eq,not_false_eq_true,if_true];exact sgn _ _⟩
def sy(n:ah)(hz:aR n<=1048576):BF n=some (bM n):=by
 obtain⟨z1,z2,z3⟩:=tL hz;unfold BF bM;simp only[jv,A0];rcases bt (wi n.N.length 2 8) with hw|hw
 ·have hw2:=cx.1 hw;have e:decide (14<(n.F.length:Int))=!decide (n.F.length<=14):=by
   rw[<-decide_not];exact decide_eq_decide.2 (by omega)
  simp only[hw,e,A5,cond_false,A0,J0];rcases bt (decide (n.F.length<=14)) with h14|h14
  ·simp only[h14,A5,cond_false,J0];rw[dY (f:=M_k n) n.N (jb n) (.inr false) (.inl ()) (fun i x hx _=>by
    have hlt:=(A1.1 hx).1;have e1:decide ((i:Int)<n.N.length)=true:=by simp[hlt]
    simp only[M_k,e1,cond_true,aO,hx,A0,KN x (z3 x (A3 hx)),PQ n.N x z1,Pq n i x hx,jb];rw[aC (by omega) (by omega)];rcases bt (pZ x) with e|e<;>rcases bt ((n.N.take i).any (fun y=>y.toList==x.toList)) with e'|e'<;>simp only[e,e']<;>rfl) (by simp[M_k]) (by omega)]
   rcases bt (fM (jb n) n.N) with hN|hN
   ·simp[hN]
   ·simp only[hN,C4,if_false,A0,B5,A9];rw[dY (f:=IY n) n.F (kn n) (.inr false) (.inl ()) (fun i x hx hprev=>by
     have hlt:=(A1.1 hx).1;have e1:decide ((i:Int)<n.F.length)=true:=by simp[hlt]
     simp only[IY,e1,cond_true,aO,hx,A0,IJ x n.N.length (by omega) (by omega),J3];rw[aC (n:=(i:Int)+1) (by omega) (by omega)];unfold kn;rcases bt (Cv n.N.length x) with h1|h1
     ·simp[h1]
     ·simp only[h1,cond_false,D4];by_cases hi:0<i
      ·have hi':decide ((0:Int)<(i:Int))=true:=by simp[hi]
       have hp:n.F[i-1]?=some n.F[i-1]:=A2 (by omega);have hw:A7 .i64 ((i:Int)-1)=((i-1:Nat):Int):=by rw[aC (by omega) (by omega)];omega
       have hb:=hprev (i-1) n.F[i-1] (by omega) hp;unfold kn at hb;simp only[C5] at hb;obtain⟨r,r1,r2⟩:=Ri n.F[i-1] x n.N.length (by omega) (xf hb.1) (xf h1);simp only[hi',cond_true,hw,aO,hp,A0,r1,r2,hi,decide_true,A9];cases decide (0<Ch n.F[i-1] x)<;>rfl
      ·have hi':decide ((0:Int)<(i:Int))=false:=by simp;omega
       simp[hi',hi]) (by simp[IY]) (by omega)]
    cases fM (kn n) n.F<;>rfl
  ·simp[h14]
 ·simp[hw]
end Vs

namespace Vs
open Go
def de{n:ah}(h:bM n=true):2<=n.N.length/\n.N.length<=8/\n.F.length<=14:=by
 unfold bM at h;simp only[A6,decide_eq_true_eq,cx] at h;omega
def po{n:ah}(h:bM n=true){i:Nat}{f:aw}(hf:n.F[i]?=some f):Fj n.N.length f:=by
 unfold bM at h;simp only[A6,B3] at h;have:=cy.1 h.1.1.2 i f hf;unfold kn at this;simp only[C5] at this;exact xf this.1
end Vs

namespace Vs
open Go
def za{n:ah}(h:bM n=true):∀f∈n.F,f.A<n.N.length/\f.B<n.N.length:=by
 intro f hf;obtain⟨i,hi⟩:=B4 hf;obtain⟨h1,h2,h3⟩:=po h hi;omega
def fibI(n:ah)(e:Int):Prop:=0<=e/\e<(n.F.length:Int)
end Vs

namespace Vs
open Go
def kg(f:aw)(v:Int):Int:=if v=f.A then f.B else if v=f.B then f.A else -1
def cT(n:ah)(e v:Int):Int:=match n.F[e.toNat]? with|some f=>kg f v|none=>-1
end Vs

namespace Vs
open Go
theorem nP(l:List Int)(x:Int)(hl:l.length<=1048576):tV l x=some (l.any fun y=>y==x):=by
 unfold tV;rw[oS (f:=GH l x) l (fun y=>y==x) (.inr true) (.inl ()) (fun i y hy=>by
  have hlt:=(A1.1 hy).1;have h1:decide ((i:Int)<l.length)=true:=by simp[hlt]
  simp only[GH,h1,cond_true,aO,hy,A0];rw[aC (by omega) (by omega)];cases y==x<;>rfl) (by simp[GH]) (by omega)]
 cases l.any fun y=>y==x<;>rfl
def sm{n:ah}{e:Int}(h:wi e 0 ((n.F.length:Int)-1)=true):∃f,bG n.F e=some f/\n.F[e.toNat]?=some f:=by
 rw[cx] at h;have hlt:e.toNat<n.F.length:=by omega
 refine⟨n.F[e.toNat],?_,A2 hlt⟩;have h3:=aO n.F e.toNat;rw[Int.toNat_of_nonneg h.1] at h3;rw[h3];exact A2 hlt
theorem vr(n:ah)(e v:Int)(h:wi e 0 ((n.F.length:Int)-1)=true):BQ n e v=some (cT n e v):=by
 obtain⟨f,h1,h2⟩:=sm h;unfold BQ cT kg;rw[h1,h2];simp only[A0];by_cases a:v=f.A
 ·rw[show(v==f.A)=true from by simpa using a,cond_true,if_pos a]
 ·rw[show(v==f.A)=false from by simpa using a,cond_false,if_neg a];by_cases b:v=f.B
  ·rw[show(v==f.B)=true from by simpa using b,cond_true,if_pos b]
  ·rw[show(v==f.B)=false from by simpa using b,cond_false,if_neg b]
end Vs

namespace Vs
open Go
theorem wR(xs:List Int)(v:Int)(hl:xs.length<=1048576):CT xs v=some (decide (v∈xs)):=by
 unfold CT Vn;rw[cN (f:=JK xs v) xs (fun _ x=>v==x) (fun i _=>(i:Int)) () (fun i x hx _=>by
  have hlt:=(A1.1 hx).1;have h1:decide ((i:Int)<xs.length)=true:=by simp[hlt]
  simp only[JK,h1,cond_true,aO,hx,A0];rw[aC (by omega) (by omega)];cases v==x<;>rfl) (by simp[JK]) (by omega)]
 cases e:dv (fun _ x=>v==x) xs with
 | none =>
   have:=eu.1 e;have h:¬v∈xs:=fun hm=>by
    obtain⟨i,hi⟩:=B4 hm;have:=this i v hi;simp at this
   rw[decide_eq_false h];rfl
 | some q =>
   obtain⟨i,x⟩:=q;obtain⟨h1,h2,_⟩:=cw.1 e;have h:v∈xs:=by
    have:=eq_of_beq h2;rw[this];exact A3 h1
   rw[decide_eq_true h];simp
theorem tn(f:aw)(v:Int):Dn f v=some (kg f v):=by
 unfold Dn kg;by_cases a:v=f.A
 ·rw[show(v==f.A)=true from by simpa using a,cond_true,if_pos a]
 ·rw[show(v==f.A)=false from by simpa using a,cond_false,if_neg a];by_cases b:v=f.B
  ·rw[show(v==f.B)=true from by simpa using b,cond_true,if_pos b]
  ·rw[show(v==f.B)=false from by simpa using b,cond_false,if_neg b]
theorem qI(l:List Int)(e:Int):decide (e∈l)=l.any fun x=>x==e:=by
 rw[C3,decide_eq_true_iff,E1];constructor
 ·intro h;exact⟨e,h,by simp⟩
 ·rintro⟨x,hx,he⟩;rw[<-eq_of_beq he];exact hx
end Vs

namespace Vs
open Go
theorem pd{α A B C:Type}(s1:Nat->α->A->A⊕B)(s2:Nat->α->A->A⊕C)(f1:A->B)(f2:A->C)(R:B->C->Prop)(h:∀i x a,(∃a',s1 i x a=.inl a'/\s2 i x a=.inl a')\/∃b c,s1 i x a=.inr b/\s2 i x a=.inr c/\R b c)(hf:∀a,R (f1 a) (f2 a)):
 ∀(xs:List α)(i:Nat)(a:A),R (bH s1 f1 i xs a) (bH s2 f2 i xs a)
 |[],_,a=>hf a
 | x :: xs, i, a => by
   simp only[bH];rcases h i x a with⟨a',h1,h2⟩|⟨b,c,h1,h2,h3⟩
   ·rw[h1,h2];exact pd s1 s2 f1 f2 R h hf xs (i+1) a'
   simp_all
def um(n:ah)(e:Int)(a:Int×List Int):Bool:=!wi e 0 ((n.F.length:Int)-1)||decide (cT n e a.1<0)||decide (cT n e a.1∈a.2)
def pG(n:ah)(_:Nat)(e:Int)(a:Int×List Int):(Int×List Int)⊕Option (List Int):=if um n e a then .inr none else .inl (cT n e a.1,a.2++[cT n e a.1])
def jD(n:ah)(r:aj):Option (List Int):=if !wi r.N 0 ((n.N.length:Int)-1)||decide (r.F.length=0) then none else bH (pG n) (fun a=>some a.2) 0 r.F (r.N,[r.N])
def XV(n:ah)(_:Nat)(e:Int)(a:Int×List Int):(Int×List Int)⊕((List Int)⊕(List Int×Bool)):=if um n e a then .inr (.inr ([],false)) else .inl (cT n e a.1,a.2++[cT n e a.1])
def Lx(n:ah)(_:Nat)(e:Int)(a:Int×List Int):(Int×List Int)⊕((List Int)⊕(List Int×Bool)):=if um n e a then .inr (.inr (a.2,false)) else .inl (cT n e a.1,a.2++[cT n e a.1])
theorem len0(l:List Int):((l.length:Int)==0)=decide (l.length=0):=by
 grind
theorem uO(n:ah)(r:aj)(hN:n.N.length<=1048576)(hF:n.F.length<=1048576)(hr:r.F.length<=1048576):GS n r=some (match jD n r with|some l=>(l,true)|none=>([],false)):=by
 unfold GS jD;simp only[eP,A0,len0];rw[aC (n:=(n.N.length:Int)-1) (by omega) (by omega)];have hc:(cond (!wi r.N 0 ((n.N.length:Int)-1)) (some true) (some (decide (r.F.length=0))):Option Bool)=some (!wi r.N 0 ((n.N.length:Int)-1)||decide (r.F.length=0)):=by
  cases wi r.N 0 ((n.N.length:Int)-1)<;>rfl
 rw[hc];simp only[A0];rcases bt (!wi r.N 0 ((n.N.length:Int)-1)||decide (r.F.length=0)) with e|e
 ·rw[e];rfl
 rw[e];simp only[cond_false,bnd,C4,if_false];have key:=dj (f:=Gu n r) r.F (fun i(a:Int×List Int)=>(a.1,(i:Int),a.2)) (XV n) (fun a=>.inl a.2) (fun i a=>a.2.length=i+1) (fun i a x hx hI=>by
  have hlt:=(A1.1 hx).1;have h1:decide ((i:Int)<r.F.length)=true:=by simp[hlt]
  simp only[Gu,h1,cond_true,aO,hx,A0,eP];rw[aC (n:=(n.F.length:Int)-1) (by omega) (by omega),aC (n:=(i:Int)+1) (by omega) (by omega)];unfold XV um;rcases bt (wi x 0 ((n.F.length:Int)-1)) with e1|e1
  ·obtain⟨f,f1,f2⟩:=sm e1;have ho:cT n x a.1=kg f a.1:=by unfold cT;rw[f2]
   simp only[e1,A5,cond_false,f1,A0,tn,<-ho,wR a.2 (cT n x a.1) (by omega),D4];by_cases h3:cT n x a.1<0
   ·simp_all
   ·by_cases h4:cT n x a.1∈a.2
    ·simp_all
    ·refine .inl ⟨(cT n x a.1,a.2++[cT n x a.1]),by simp[h3,h4],by simp[hI],?_⟩;simp only[decide_eq_false h3,decide_eq_false h4,cond_false,A0,bnd]
     grind [aQ]
  simp_all) (fun a _=>by simp[Gu]) (r.N,[r.N]) rfl (by omega)
 have e0:((0:Nat):Int)=0:=rfl;simp only[e0] at key;rw[key];have:=pd (pG n) (XV n) (fun a=>some a.2) (fun a=>(.inl a.2:(List Int)⊕(List Int×Bool))) (fun b c=>match b with|some l=>c=.inl l|none=>c=.inr ([],false)) (fun i x a=>by
  unfold pG XV;cases um n x a
  ·exact .inl ⟨_,rfl,rfl⟩
  ·exact .inr ⟨_,_,rfl,rfl,rfl⟩) (fun a=>rfl) r.F 0 (r.N,[r.N])
 grind
def yA(n:ah)(r:aj)(hN:n.N.length<=1048576)(hF:n.F.length<=1048576)(hr:r.F.length<=1048576):∃o,Hj n r=some (o,(jD n r).isSome)/\∀l,jD n r=some l->o=l:=by
 unfold Hj jD;simp only[jv,A0,len0,bnd];rw[aC (n:=(n.N.length:Int)-1) (by omega) (by omega)];have hc:(cond (!wi r.N 0 ((n.N.length:Int)-1)) (some true) (some (decide (r.F.length=0))):Option Bool)=some (!wi r.N 0 ((n.N.length:Int)-1)||decide (r.F.length=0)):=by
  cases wi r.N 0 ((n.N.length:Int)-1)<;>rfl
 rw[hc];simp only[A0];rcases bt (!wi r.N 0 ((n.N.length:Int)-1)||decide (r.F.length=0)) with e|e
 ·rw[e];exact⟨[r.N],rfl,fun l h=>by simp at h⟩
 rw[e];simp only[cond_false,C4,if_false];have key:=dj (f:=M_v n r) r.F (fun i(a:Int×List Int)=>((i:Int),a.2)) (Lx n) (fun a=>.inl a.2) (fun i a=>a.2.length=i+1/\a.2[i]?=some a.1) (fun i a x hx hI=>by
  have hlt:=(A1.1 hx).1;have h1:decide ((i:Int)<r.F.length)=true:=by simp[hlt]
  simp only[M_v,h1,cond_true,aO,hx,A0,jv];have hl1:A7 .i64 ((a.2.length:Int)-1)=(i:Int):=by rw[aC (by omega) (by omega)];omega
  rw[aC (n:=(n.F.length:Int)-1) (by omega) (by omega),aC (n:=(i:Int)+1) (by omega) (by omega),hl1];unfold Lx um;rcases bt (wi x 0 ((n.F.length:Int)-1)) with e1|e1
  ·simp only[e1,A5,cond_false,A0,D4,A4,hI.2];rw[aQ (by omega)];simp only[A0,vr n x a.1 e1,nP a.2 (cT n x a.1) (by omega)];have hm:(a.2.any fun y=>y==cT n x a.1)=decide (cT n x a.1∈a.2):=by
    rw[C3];simp
   rw[hm];by_cases h3:cT n x a.1<0
   ·exact .inr ⟨_,by simp[h3];rfl,by simp[h3]⟩
   ·by_cases h4:cT n x a.1∈a.2
    ·exact .inr ⟨_,by simp[h4];rfl,by simp[h3,h4]⟩
    ·refine .inl ⟨(cT n x a.1,a.2++[cT n x a.1]),by simp[h3,h4],⟨by simp[hI.1],by rw[<-hI.1];simp⟩,?_⟩;simp only[decide_eq_false h3,decide_eq_false h4,cond_false,A0];rw[aQ (by omega)];rfl
  ·exact .inr ⟨_,by simp[e1];rfl,by simp[e1]⟩) (fun a _=>by simp[M_v]) (r.N,[r.N]) ⟨rfl,rfl⟩ (by omega)
 have e0:((0:Nat):Int)=0:=rfl;simp only[e0] at key;rw[key];have:=pd (pG n) (Lx n) (fun a=>some a.2) (fun a=>(.inl a.2:(List Int)⊕(List Int×Bool))) (fun b c=>match b with|some l=>c=.inl l|none=>∃o,c=.inr (o,false)) (fun i x a=>by
  unfold pG Lx;cases um n x a
  ·exact .inl ⟨_,rfl,rfl⟩
  ·exact .inr ⟨_,_,rfl,rfl,_,rfl⟩) (fun a=>rfl) r.F 0 (r.N,[r.N])
 revert this
 generalize bH (Lx n) (fun a=>(.inl a.2:(List Int)⊕(List Int×Bool))) 0 r.F (r.N,[r.N])=c;cases bH (pG n) (fun a=>some a.2) 0 r.F (r.N,[r.N]) with
 |none=>rintro⟨o,h⟩;rw[h];exact⟨o,rfl,fun l h=>by cases h⟩
 |some l=>intro h;rw[h];exact⟨l,rfl,fun l' h=>by cases h;rfl⟩
def Pe(n:ah)(r:aj):Bool:=bM n&&(jD n r).isSome
def PS(n:ah)(r:aj)(hz:aR n<=1048576)(hr:r.F.length<=1048576):Ga n r=some (Pe n r):=by
 obtain⟨h1,h2,_⟩:=tL hz;unfold Ga Pe;rw[sy n hz];simp only[A0];rcases bt (bM n) with e|e
 ·obtain⟨o,o1,_⟩:=yA n r (by omega) (by omega) hr
  simp_all
 ·rw[e];rfl
theorem vm{n:ah}(hE:∀f∈n.F,f.A<n.N.length/\f.B<n.N.length):∀(xs:List Int)(i:Nat)(a:Int×List Int)(l:List Int),bH (pG n) (fun a=>some a.2) i xs a=some l->a.2.Nodup->(∀v∈a.2,0<=v/\v<(n.N.length:Int))->a.1∈a.2->
 l.Nodup/\(∀v∈l,0<=v/\v<(n.N.length:Int))/\l.length=a.2.length+xs.length/\(∀e∈xs,0<=e/\e<(n.F.length:Int))/\xs.Nodup/\∀e∈xs,∀f,n.F[e.toNat]?=some f->¬(f.A∈a.2/\f.B∈a.2)
 |[],_,a,l,h,hd,hv,_=>by simp_all [Option.some.injEq,bH]
 | x :: xs, i, a, l, h, hd, hv, ha => by
   simp only[bH,pG] at h;rcases bt (um n x a) with e|e
   ·rw[e] at h;cases h
   ·rw[e] at h;simp only[C4,if_false] at h;simp only[um,C5,G1,decide_eq_false_iff_not,cx] at e;obtain⟨⟨e1,e2⟩,e3⟩:=e;have hi:x.toNat<n.F.length:=by omega
    have hf:=hE _ (E2 hi);have hg:=A2 hi;generalize n.F[x.toNat]=f at hf hg;have ho:cT n x a.1=kg f a.1:=by unfold cT;rw[hg]
    have hend:(f.A=a.1/\f.B=cT n x a.1)\/(f.B=a.1/\f.A=cT n x a.1):=by
     rw[ho] at e2⊢;unfold kg at e2⊢;split
     ·omega
     ·omega
    have hlt:cT n x a.1<n.N.length:=by omega
    obtain⟨g1,g2,g3,g4,g5,g6⟩:=vm hE xs (i+1) _ l h (by
     grind) (fun v hv2=>by
     grind) (by simp)
    refine⟨g1,g2,by rw[g3];simp;omega,fun e he=>?_,F9.2 ⟨fun hm=>?_,g5⟩,fun e he f' hf'=>?_⟩
    ·grind
    ·grind
    grind
def vB{n:ah}{r:aj}(hE:∀f∈n.F,f.A<n.N.length/\f.B<n.N.length){l:List Int}(h:jD n r=some l):l.Nodup/\(∀v∈l,0<=v/\v<(n.N.length:Int))/\l.length=r.F.length+1/\(∀e∈r.F,0<=e/\e<(n.F.length:Int))/\r.F.Nodup:=by
 unfold jD at h;split at h
 ·cases h
 ·rename_i hc;simp only[I3,B3,decide_eq_true_eq,not_or,J4,cx] at hc;obtain⟨g1,g2,g3,g4,g5,_⟩:=vm hE _ _ _ _ h (by simp) (fun v hv=>by grind) (by simp)
  grind
theorem lh:∀(m:Nat)(l:List Int),l.Nodup->(∀x∈l,0<=x/\x<(m:Int))->l.length<=m
 | 0, l, _, h => by
   cases l with
   |nil=>simp
   |cons x l=>have:=h x (by simp);omega
 | m + 1, l, hn, h => by
   by_cases hm:(m:Int)∈l
   ·have:=lh m (l.erase (m:Int)) (hn.erase _) (fun x hx=>by
     have h1:=(hn.mem_erase_iff).1 hx;have:=h x h1.2;have h3:=h1.1;omega)
    rw[H8 hm] at this;omega
   ·have:=lh m l hn (fun x hx=>by
     have:=h x hx;have:x≠(m:Int):=fun e=>hm (e▸hx);omega)
    omega
end Vs

namespace Vs
open Go
def gz(l:List Int)(p:Nat):Int:=(l[p]?).getD 0
theorem Ar{l:List Int}{p:Nat}(h:p<l.length):l[p]?=some (gz l p):=by
 unfold gz;rw[A2 h];rfl
def aav{l:List Int}{p q:Nat}{x:Int}(h:p<l.length):gz (l.set p x) q=if q=p then x else gz l q:=by
 unfold gz;rw[List.getElem?_set];by_cases e:p=q
 ·rw[if_pos e,if_pos h,if_pos e.symm];rfl
 ·rw[if_neg e,if_neg (Ne.symm e)]
def UM(xs:List Int)(h:xs.length<=1048576):∃l,oA xs=some l/\l.Perm xs/\l.Pairwise (·<=·):=ado xs (by omega)
theorem xg:∀(xs ys:List Int),xs.Pairwise (·<·)->ys.Pairwise (·<·)->(∀x,x∈xs↔x∈ys)->xs=ys
 |[],[],_,_,_=>rfl
 |[],y::ys,_,_,h=>by have:=(h y).2 (by simp);cases this
 |x::xs,[],_,_,h=>by have:=(h x).1 (by simp);cases this
 | x :: xs, y :: ys, hx, hy, h => by
   rw[G2] at hx hy;have e:x=y:=by
    have h1:=(h x).1 (by simp);have h2:=(h y).2 (by simp);rcases C2.1 h1 with h1|h1
    ·exact h1
    ·rcases C2.1 h2 with h2|h2
     ·exact h2.symm
     ·have:=hx.1 y h2;have:=hy.1 x h1;omega
   subst e;congr 1;refine xg xs ys hx.2 hy.2 fun z=>?_;have:=h z;constructor
   ·intro hz;rcases C2.1 (this.1 (H0 _ hz)) with e|e
    ·subst e;have:=hx.1 z hz;omega
    ·exact e
   ·intro hz;rcases C2.1 (this.2 (H0 _ hz)) with e|e
    ·subst e;have:=hy.1 z hz;omega
    ·exact e
end Vs

namespace Vs
open Go
def TR(a cd:List Int):List Int:=a.filter fun x=>decide (x∈cd)
theorem qY(p:Int->Bool):∀(xs:List Int)(i:Nat)(l:List Int),bH (fun(_:Nat)(x:Int)(l:List Int)=>(.inl (if p x then l++[x] else l):List Int⊕List Int)) (fun l=>l) i xs l=l++xs.filter p
 |[],_,l=>by simp[bH]
 | x :: xs, i, l => by
   simp only[bH];rw[qY p xs (i+1)];by_cases h:p x=true
   ·simp[h]
   ·simp[h]
def agr(a cd:List Int)(ha:a.length<=1048576)(hg:cd.length<=1048576):aY (BN a cd) N0 (0,[])=some (TR a cd):=by
 have key:=dj (f:=BN a cd) a (fun i(l:List Int)=>((i:Int),l)) (fun _ x l=>.inl (if decide (x∈cd) then l++[x] else l)) (fun l=>l) (fun i l=>l.length<=i) (fun i l x hx hI=>by
  have hlt:=(A1.1 hx).1;have h1:decide ((i:Int)<a.length)=true:=by simp[hlt]
  refine .inl ⟨_,rfl,by grind,?_⟩;simp only[BN,h1,cond_true,aO,hx,A0,wR cd x hg,bnd];rw[aC (n:=(i:Int)+1) (by omega) (by omega)];by_cases h:x∈cd
  ·rw[decide_eq_true h,cond_true,aQ (by omega),if_pos rfl];rfl
  simp_all) (fun l _=>by simp[BN]) [] (B6 0) (by omega)
 have e0:((0:Nat):Int)=0:=rfl;simp only[e0] at key;rw[key,qY];rfl
def ddp(ys:List Int):Nat->List Int
 |0=>[]
 |j+1=>if 0<j/\ys[j]?=ys[j-1]? then ddp ys j else ddp ys j++(ys[j]?).toList
theorem ri(ys:List Int):∀k,(∀i,1<=i->i<k->ys[i]?≠ys[i-1]?)->ddp ys k=ys.take k
 |0,_=>by simp[ddp]
 | k + 1, h => by
   unfold ddp;rw[if_neg (fun e=>h k (by omega) (by omega) e.2),ri ys k (fun i h1 h2=>h i h1 (by omega)),C7]
theorem vt{l:List Int}{k:Nat}(y:Int)(h:k<l.length):(l.set k y).take (k+1)=l.take k++[y]:=by
 rw[C7,C6 h,List.take_set_of_le (B6 k)];rfl
theorem nk{ys:List Int}(hs:ys.Pairwise (·<=·)):∀j,j<=ys.length->(ddp ys j).Pairwise (·<·)/\(∀x∈ddp ys j,∀y,ys[j-1]?=some y->x<=y)/\∀x,x∈ddp ys j↔x∈ys.take j
 |0,_=>by simp[ddp]
 | j + 1, h => by
   obtain⟨h1,h2,h3⟩:=nk hs j (by omega);have hy:ys[j]?=some (ys[j]'(by omega)):=A2 (by omega);generalize ys[j]'(by omega)=y at hy;unfold ddp;rw[C7,hy];by_cases c:0<j/\some y=ys[j-1]?
   ·rw[if_pos c]
    grind [Nat.add_sub_cancel,Option.some.injEq,List.mem_take_iff_getElem,List.getElem?_eq_some_iff,Option.toList_some,List.mem_singleton]
   ·rw[if_neg c];have hlt:∀x∈ddp ys j,x<y:=fun x hx=>by
     by_cases hj:0<j
     ·have hz:ys[j-1]?=some (ys[j-1]'(by omega)):=A2 (by omega);have:=h2 x hx _ hz;have h5:ys[j-1]'(by omega)<=ys[j]'(by omega):=B2.1 hs (j-1) j (by omega) (by omega) (by omega);have h6:ys[j]'(by omega)=y:=(A1.1 hy).2;have h7:ys[j-1]'(by omega)≠y:=fun e=>c ⟨hj,by rw[hz,e]⟩;omega
     ·have:j=0:=by omega
      subst this;simp[ddp] at hx
    grind
def Oq(ys:List Int)(hl:ys.length<=1048576)(k0:Nat)(h0:1<=k0)(hk:k0<ys.length)(hd:ddp ys (k0+1)=ys.take k0):
 ∃(k:Nat)(l:List Int),aY (BS 0 ys.length (k0:Int)) N0 ((k0:Int),1,ys)=some ((k:Int),l)/\l.length=ys.length/\k<=ys.length/\l.take k=ddp ys ys.length:=by
 obtain⟨o,o1,o2⟩:=dq (f:=BS 0 ys.length (k0:Int)) (fun s=>∃(k k2:Nat)(l:List Int),s=((k:Int),(k2:Int),l)/\1<=k2/\k0+k2<=ys.length/\l.length=ys.length/\k+1<=k0+k2/\(∀p,k0+k2<=p+1->l[p]?=ys[p]?)/\l.take k=ddp ys (k0+k2))
  (fun s=>ys.length-s.2.1.toNat) (fun o=>∃(k:Nat)(l:List Int),o=((k:Int),l)/\l.length=ys.length/\k<=ys.length/\l.take k=ddp ys ys.length) (fun s hI=>by
  obtain⟨k,k2,l,rfl,i1,i2,i3,i4,i5,i6⟩:=hI;by_cases hc:k0+k2<ys.length
  ·left;have e1:decide ((k2:Int)<((ys.length-k0:Nat):Int))=true:=decide_eq_true (by omega);have ew:A7 .i64 ((k2:Int)-1)=((k2-1:Nat):Int):=by rw[aC (by omega) (by omega)];omega
   have g1:l[0+k0+k2]?=some (ys[k0+k2]'hc):=by rw[F0,i5 _ (by omega)];exact A2 hc
   have g2:l[0+k0+(k2-1)]?=some (ys[k0+k2-1]'(by omega)):=by
    rw[show 0+k0+(k2-1)=k0+k2-1 by omega,i5 _ (by omega)];exact A2 (by omega)
   have g3:l[0+k]?=some (l[k]'(by omega)):=by rw[F0];exact A2 (by omega)
   have hddp:ddp ys (k0+k2+1)=if ys[k0+k2]'hc=ys[k0+k2-1]'(by omega) then ddp ys (k0+k2) else ddp ys (k0+k2)++[ys[k0+k2]'hc]:=by
    rw[ddp,A2 hc,A2 (show k0+k2-1<ys.length by omega)];by_cases e:ys[k0+k2]'hc=ys[k0+k2-1]'(by omega)
    ·rw[if_pos ⟨by omega,by rw[e]⟩,if_pos e]
    ·rw[if_neg (fun q=>e (Option.some.inj q.2)),if_neg e];rfl
   simp only[BS,A4,e1,cond_true,ew,g1,g2,g3];rw[aQ (by omega),aQ (by omega),aQ (by omega)];simp only[A0,bnd];rw[aC (n:=(k:Int)+1) (by omega) (by omega),aC (n:=(k2:Int)+1) (by omega) (by omega)];by_cases e:ys[k0+k2]'hc=ys[k0+k2-1]'(by omega)
   ·rw[if_pos e] at hddp;rw[show(ys[k0+k2]'hc !=ys[k0+k2-1]'(by omega))=false by simpa using e,cond_false];exact⟨_,rfl,⟨k,k2+1,l,by simp,by omega,by omega,i3,by omega,fun p hp=>i5 p (by omega),by rw[show k0+(k2+1)=k0+k2+1 by omega,hddp];exact i6⟩,by simp only[];omega⟩
   ·rw[if_neg e] at hddp;rw[show(ys[k0+k2]'hc !=ys[k0+k2-1]'(by omega))=true by simpa using e,cond_true];refine⟨_,rfl,⟨k+1,k2+1,l.set k (ys[k0+k2]'hc),by simp,by omega,by omega,by simpa using i3,by omega,fun p hp=>?_,?_⟩,by simp only[];omega⟩
    ·rw[List.getElem?_set_ne (by omega)];exact i5 p (by omega)
    ·rw[show k0+(k2+1)=k0+k2+1 by omega,hddp,vt _ (by omega),i6]
  ·right;have e1:decide ((k2:Int)<((ys.length-k0:Nat):Int))=false:=decide_eq_false (by omega);refine⟨_,by simp only[BS,A4,e1,cond_false],k,l,rfl,i3,by omega,?_⟩;rw[i6,show k0+k2=ys.length by omega]) N0 ((k0:Int),((1:Nat):Int),ys) ⟨k0,1,ys,rfl,by omega,by omega,rfl,by omega,fun p _=>rfl,hd.symm⟩ (fj (by simp;omega))
 obtain⟨k,l,rfl,q1,q2,q3⟩:=o2;exact⟨k,l,o1,q1,q2,q3⟩
def uR(ys:List Int)(hl:ys.length<=1048576):∃k l,JD 0 ys.length ys=some (0,k,l)/\ca l 0 k=ddp ys ys.length:=by
 unfold JD;by_cases h:(ys.length:Int)<2
 ·rw[decide_eq_true h,cond_true];refine⟨_,_,rfl,?_⟩;rw[dJ,ri ys _ (fun i h1 h2=>by omega),G8]
 rw[decide_eq_false h,cond_false];obtain⟨o,o1,o2⟩:=dq (f:=Jr 0 ys.length ys) (fun s=>∃i:Nat,s=i/\1<=i/\i<=ys.length/\ddp ys i=ys.take i) (fun s=>ys.length-s.toNat)
  (fun o=>(o=.inl ()/\ddp ys ys.length=ys)\/∃k l,o=.inr (0,k,l)/\ca l 0 k=ddp ys ys.length) (fun s hI=>by
  obtain⟨i,rfl,h1,h2,h3⟩:=hI;by_cases hi:i<ys.length
  ·have e1:decide ((i:Int)<(ys.length:Int))=true:=decide_eq_true (by omega);have ew:A7 .i64 ((i:Int)-1)=((i-1:Nat):Int):=by rw[aC (by omega) (by omega)];omega
   have g1:ys[0+i]?=some (ys[i]'hi):=by rw[F0];exact A2 hi
   have g2:ys[0+(i-1)]?=some (ys[i-1]'(by omega)):=by rw[F0];exact A2 (by omega)
   simp only[Jr,e1,cond_true,A4,g1,ew,g2];rw[aQ (by omega),aQ (by omega)];simp only[A0];by_cases e:ys[i]'hi=ys[i-1]'(by omega)
   ·right;have hd:ddp ys (i+1)=ys.take i:=by
     rw[ddp,if_pos ⟨by omega,by rw[A2 hi,A2 (show i-1<ys.length by omega),e]⟩,h3]
    obtain⟨k,l,k1,k2,k3,k4⟩:=Oq ys hl i h1 hi hd;rw[show(ys[i]'hi==ys[i-1]'(by omega))=true by simpa using e,cond_true];simp only[A4,and_true,true_and];rw[aQ (by omega)];simp only[A0,k1,bnd,A4,and_true,true_and];rw[aQ (by omega)];simp only[A0];refine⟨_,rfl,.inr ⟨k,_,rfl,?_⟩⟩;rw[<-k4,cB,E8];unfold dz;rw[if_pos (by simp;omega),F0];rw[G4,H1 (by simp;omega),K1,L3]
   ·left;rw[show(ys[i]'hi==ys[i-1]'(by omega))=false by simpa using e,cond_false,aC (by omega) (by omega)];refine⟨_,rfl,⟨i+1,rfl,by omega,by omega,?_⟩,by omega⟩;rw[ddp,if_neg (fun q=>e (by
     have:=q.2;rw[A2 hi,A2 (show i-1<ys.length by omega)] at this;exact Option.some.inj this)),h3,C7]
  ·right;have e1:decide ((i:Int)<(ys.length:Int))=false:=decide_eq_false (by omega);refine⟨_,by simp only[Jr,e1,cond_false],.inl ⟨rfl,?_⟩⟩;rw[show ys.length=i by omega,h3,show i=ys.length by omega,G8]) N0 ((1:Nat):Int) ⟨1,rfl,by omega,by omega,by
    rw[ri ys 1 (fun i h1 h2=>by omega)]⟩ (fj (by simp;omega))
 have e1:((1:Nat):Int)=1:=rfl;rw[e1] at o1;rw[o1];rcases o2 with⟨rfl,q⟩|⟨k,l,rfl,q⟩
 ·exact⟨_,_,rfl,by rw[dJ,q]⟩
 ·exact⟨k,l,rfl,q⟩
def lR(a cd:List Int)(ha:a.length<=12)(hg:cd.length<=1048576):∃l,wy a cd=some l/\l.Pairwise (·<·)/\∀x,x∈l↔x∈a/\x∈cd:=by
 unfold wy;have hc:(TR a cd).length<=a.length:=G7 ..;rw[agr a cd (by omega) hg];simp only[A0];obtain⟨l,l1,l2,l3⟩:=UM (TR a cd) (by omega);have hln:=l2.length_eq;obtain⟨k,l',k1,k2⟩:=uR l (by omega);rw[l1];simp only[A0];rw[<-hln,k1];simp only[A0,bnd,k2];obtain⟨s1,_,s3⟩:=nk l3 l.length (B6 _);refine⟨_,rfl,s1,fun x=>?_⟩
 grind [List.take_length,TR]
def fA(a cd:List Int):Bool:=!a.any fun x=>decide (x∈cd)
theorem FT{a cd l:List Int}(h:∀x,x∈l↔x∈a/\x∈cd):((l.length:Int)==0)=fA a cd:=by
 rw[C3];simp only[beq_iff_eq,fA,B3,B9,decide_eq_true_eq];constructor
 ·grind
 ·intro hn;cases l with
  |nil=>rfl
  |cons x l=>exact(hn x ((h x).1 (by simp)).1 ((h x).1 (by simp)).2).elim
theorem xp{a cd l:List Int}(h:∀x,x∈l↔x∈a/\x∈cd):decide ((0:Int)<(l.length:Int))=!fA a cd:=by
 rw[<-FT h,C3]
 grind
end Vs

namespace Vs
open Go
def oa(b:aX):Bool:=wi b.N 0 23&&wi b.F 1 (24-b.N)
theorem Rx(b:aX):NU b=some (oa b):=by
 unfold NU oa;simp only[jv,A0];rcases bt (wi b.N 0 23) with e|e
 ·have:=cx.1 e;rw[e,cond_true,aC (by omega) (by omega),A9]
 ·rw[e];rfl
theorem sr(b:aX):KA b=some (oa b):=by
 unfold KA oa;simp only[eP,A0];by_cases h1:0<=b.N
 ·rw[decide_eq_true h1,cond_true];rcases bt (wi b.F 1 24) with e|e
  ·have:=cx.1 e;rw[e,cond_true,aC (by omega) (by omega)];congr 1;rw[C3];simp only[decide_eq_true_eq,A6,cx];omega
  ·rw[e,cond_false];congr 1;symm;rw[J5];intro h;simp only[A6,cx] at h;have:=su.1 e;omega
 ·rw[decide_eq_false h1,cond_false];congr 1;symm;rw[J5];intro h;simp only[A6,cx] at h;omega
def kJ(b:aX):Prop:=(0<=b.N/\b.N<=24)/\0<=b.F/\b.F<=24
def aca{b:aX}(h:oa b=true):kJ b:=by
 unfold oa at h;simp only[A6,cx] at h;unfold kJ;omega
def dF(b:aX):Int:=A7 .i64 ((A7 .i64 ((A7 .i64 (1*2^(min (I8 b.F) (C8 .i64))))-1))*2^(min (I8 b.N) (C8 .i64)))
theorem oi{b:aX}(h:kJ b):zg b=some (dF b):=by
 unfold zg;rw[aQ h.2.1];simp only[A0];rw[aQ h.1.1];rfl
theorem jN{b:aX}(h:kJ b):rJ b=some (dF b):=by
 unfold rJ;have h1:=h.1;have h2:=h.2;rw[Ed (n:=b.F) (by omega) (by omega),Ed (n:=b.N) (by omega) (by omega),aQ h2.1];simp only[A0];rw[aQ h1.1];rfl
def and0(y:Int):bits .and .i64 0 y=0:=by
 show A7 .i64 ((BitVec.ofInt 64 0 &&& BitVec.ofInt 64 y).toNat:Int)=0;have:BitVec.ofInt 64 0=0#64:=rfl;rw[this,BitVec.zero_and];rfl
def Df(x y:Int):bits .and .i64 x y=bits .and .i64 y x:=by
 show A7 .i64 ((BitVec.ofInt 64 x &&& BitVec.ofInt 64 y).toNat:Int)=A7 .i64 ((BitVec.ofInt 64 y &&& BitVec.ofInt 64 x).toNat:Int);rw[BitVec.and_comm]
theorem kS(r:aj)(g:List Int)(hr:r.F.length<=1048576)(hg:g.length<=1048576):vW r g=some (!fA r.F g):=by
 unfold vW;rw[oS (f:=GM r g) r.F (fun x=>decide (x∈g)) (.inr true) (.inl ()) (fun i y hy=>by
  have hlt:=(A1.1 hy).1;have h1:decide ((i:Int)<r.F.length)=true:=by simp[hlt]
  simp only[GM,h1,cond_true,aO,hy,A0,nP g y hg,<-qI];rw[aC (by omega) (by omega)];cases decide (y∈g)<;>rfl) (by simp[GM]) (by omega)]
 unfold fA;rw[J3];cases(r.F.any fun x=>decide (x∈g))<;>rfl
def cH(a:aj)(x:aX)(b:aj)(y:aX):Bool:=(bits .and .i64 (dF x) (dF y) !=0)&&!fA a.F b.F
def JA(a b:List Int):fA a b=fA b a:=by
 unfold fA;congr 1;rw[C3];simp only[E1,decide_eq_true_eq];exact⟨fun⟨x,h1,h2⟩=>⟨x,h2,h1⟩,fun⟨x,h1,h2⟩=>⟨x,h2,h1⟩⟩
theorem rT(a:aj)(x:aX)(b:aj)(y:aX):cH a x b y=cH b y a x:=by
 unfold cH;rw[Df,JA]
end Vs

namespace Vs
open Go
def fE(n:ah)(r:aj):Int:=match jD n r with|some l=>gz l (l.length-1)|none=>0
structure PG(n:ah)(r:aj):Prop where
 len:r.F.length<=12
 fib:∀x∈r.F,fibI n x
 nod:r.F.Nodup
def vP{n:ah}(h:bM n=true){r:aj}{l:List Int}(hl:jD n r=some l):PG n r/\l.length=r.F.length+1:=by
 obtain⟨g1,g2,g3,g4,g5⟩:=vB (za h) hl;have:=lh n.N.length l g1 g2;have:=de h;exact⟨⟨by omega,g4,g5⟩,g3⟩
def Vv{n:ah}{r:aj}{l:List Int}(h:bM n=true)(hr:r.F.length<=1048576)(hl:jD n r=some l):RN n r=some (fE n r):=by
 have hb:=de h;obtain⟨o,o1,o2⟩:=yA n r (by omega) (by omega) hr;obtain rfl:=o2 l hl;obtain⟨hi,hlen⟩:=vP h hl;have:=hi.len;unfold RN Tj fE
 grind [aC,aQ,Int.toNat_natCast,Ar]
end Vs

namespace Vs
open Go
def lC(l:List Int)(N:Int)(i:Nat)(k:Int):Bool:=!wi k 0 (N-1)||(decide (0<i)&&match l[i-1]? with|some p=>decide (k<=p)|none=>false)
def eE(l:List Int)(N:Int):Bool:=!fM (lC l N) l
theorem Eu(l:List Int)(N:Nat)(hN:N<=1048576)(hl:l.length<=1048576):JV l (N:Int)=some (eE l N):=by
 unfold JV eE;rw[dY (f:=Kx l (N:Int)) l (lC l N) (.inr false) (.inl ()) (fun i x hx hprev=>by
  have hlt:=(A1.1 hx).1;have h1:decide ((i:Int)<l.length)=true:=by simp[hlt]
  simp only[Kx,h1,cond_true,aO,hx,A0,eP];rw[aC (n:=(N:Int)-1) (by omega) (by omega),aC (n:=(i:Int)+1) (by omega) (by omega)];unfold lC;by_cases h0:0<i
  ·have e0:decide ((0:Int)<(i:Int))=true:=decide_eq_true (by omega);have ew:A7 .i64 ((i:Int)-1)=((i-1:Nat):Int):=by rw[aC (by omega) (by omega)];omega
   have hg:l[i-1]?=some (l[i-1]'(by omega)):=A2 (by omega);rw[e0,ew,aO,hg,decide_eq_true h0];simp only[cond_true,A0,A9];cases wi x 0 ((N:Int)-1)<;>cases decide (x<=l[i-1]'(by omega))<;>rfl
  ·have e0:decide ((0:Int)<(i:Int))=false:=decide_eq_false (by omega);rw[e0,decide_eq_false h0];cases wi x 0 ((N:Int)-1)<;>rfl) (by simp[Kx]) (by omega)]
 grind
def BT(l:List Int)(N:Int)(hl:l.length<=1048576):Sm l 0 (N-1)=some (eE l N):=by
 unfold Sm eE;rw[dY (f:=Ho l 0 (N-1)) l (lC l N) (.inr false) (.inl ()) (fun i x hx hprev=>by
  have hlt:=(A1.1 hx).1;have h1:decide ((i:Int)<l.length)=true:=by simp[hlt]
  simp only[Ho,h1,cond_true,aO,hx,A0,jv];rw[aC (n:=(i:Int)+1) (by omega) (by omega)];unfold lC;by_cases h0:0<i
  ·have e0:decide ((0:Int)<(i:Int))=true:=decide_eq_true (by omega);have ew:A7 .i64 ((i:Int)-1)=((i-1:Nat):Int):=by rw[aC (by omega) (by omega)];omega
   have hg:l[i-1]?=some (l[i-1]'(by omega)):=A2 (by omega);rw[e0,ew,aO,hg,decide_eq_true h0];simp only[cond_true,A0,A9];cases wi x 0 (N-1)<;>cases decide (x<=l[i-1]'(by omega))<;>rfl
  ·have e0:decide ((0:Int)<(i:Int))=false:=decide_eq_false (by omega);rw[e0,decide_eq_false h0];cases wi x 0 (N-1)<;>rfl) (by simp[Ho]) (by omega)]
 grind
def wa{l:List Int}(h:∀(i:Nat)(a b:Int),l[i]?=some a->l[i+1]?=some b->a<b):l.Pairwise (·<·):=by
 rw[B2];intro i j hi hj hij;obtain⟨d,rfl⟩:∃d,j=i+1+d:=⟨j-i-1,by omega⟩;induction d with
 |zero=>exact h i _ _ (A2 hi) (A2 hj)
 | succ d ih =>
   have h1:=ih (by omega) (by omega);have h2:=h (i+1+d) _ _ (A2 (by omega)) (A2 (by omega))
   grind
def ry{l:List Int}{N:Int}(h:eE l N=true):l.Pairwise (·<·)/\∀x∈l,0<=x/\x<N:=by
 unfold eE at h;have h2:=cy.1 (by simpa using h);refine⟨wa fun i a b ha hb=>?_,fun x hx=>?_⟩
 ·grind [Nat.add_sub_cancel,Bool.or_eq_false_iff,Bool.and_eq_false_iff,decide_eq_false_iff_not,lC]
 grind [List.getElem?_of_mem,Bool.or_eq_false_iff,Bool.not_eq_false',cx,lC]
def nv{l:List Int}(h:l.Pairwise (·<·)):l.Nodup:=h.imp fun h=>by omega
def oh{l:List Int}{N:Nat}(h:eE l N=true):l.length<=N:=by
 obtain⟨h1,h2⟩:=ry h;exact lh N l (nv h1) h2
def XO(x:Int)(l:List Int)(hl:l.length<=1048576):∃o,LI x l=some o/\(∀y,y∈o↔y=x\/y∈l)/\o.length<=l.length+1/\(l.Pairwise (·<·)->o.Pairwise (·<·)):=by
 obtain⟨k',k1,k,rfl,k2,k3,k4⟩:=dq (f:=JP x l) (fun s=>∃k:Nat,s=(k:Int)/\k<=l.length/\∀j y,j<k->l[j]?=some y->y<x) (fun s=>l.length-s.toNat)
  (fun o=>∃k:Nat,o=(k:Int)/\k<=l.length/\(∀j y,j<k->l[j]?=some y->y<x)/\∀y,l[k]?=some y->x<=y) (fun s hI=>by
  obtain⟨k,rfl,h1,h2⟩:=hI;by_cases hk:k<l.length
  ·have e1:decide ((k:Int)<(l.length:Int))=true:=decide_eq_true (by omega);have hg:l[k]?=some (l[k]'hk):=A2 hk;simp only[JP,e1,cond_true,A4,hg];rw[aQ (by omega)];simp only[A0];by_cases hlt:l[k]'hk<x
   ·left;rw[decide_eq_true hlt,cond_true,aC (by omega) (by omega)];refine⟨_,rfl,⟨k+1,by simp,by omega,fun j y hj hy=>?_⟩,by omega⟩;by_cases c:j=k
    ·subst c;rw[hg] at hy;cases hy;exact hlt
    ·exact h2 j y (by omega) hy
   ·right;rw[decide_eq_false hlt,cond_false];exact⟨_,rfl,k,rfl,h1,h2,fun y hy=>by rw[hg] at hy;cases hy;omega⟩
  ·right;have e1:decide ((k:Int)<(l.length:Int))=false:=decide_eq_false (by omega);exact⟨_,by simp only[JP,e1,cond_false],k,rfl,h1,h2,fun y hy=>by have:=(A1.1 hy).1;omega⟩) N0 ((0:Nat):Int) ⟨0,rfl,by omega,fun j y hj=>by omega⟩ (fj (by simp;omega))
 unfold LI;have e0:((0:Nat):Int)=0:=rfl;rw[e0] at k1;rw[k1];simp only[A0,A4];by_cases hc:k<l.length/\l[k]?=some x
 ·have e1:decide ((k:Int)<(l.length:Int))=true:=decide_eq_true (by omega);rw[e1,cond_true,aQ (by omega),hc.2];simp only[A0,beq_self_eq_true,cond_true];exact⟨l,rfl,fun y=>⟨.inr,fun h=>h.elim (fun e=>e▸A3 hc.2) id⟩,by omega,id⟩
 ·have hcond:(cond (decide ((k:Int)<(l.length:Int))) ((grd (0<=(k:Int)/\(k:Int)<(l.length:Int))).bind fun _=>(l[k]?).bind fun yZ9=>some (yZ9==x)) (some false):Option Bool)=some false:=by
   by_cases hk:k<l.length
   ·have hg:l[k]?=some (l[k]'hk):=A2 hk;rw[decide_eq_true (by omega),cond_true,aQ (by omega),hg];simp only[A0];congr 1;rw[beq_eq_false_iff_ne];intro e;exact hc ⟨hk,by rw[hg,e]⟩
   ·rw[decide_eq_false (by omega)];rfl
  rw[hcond];have ht:ca l 0 k=l.take k:=by rw[cB,E8]
  have hd:ca l k (l.length-k)=l.drop k:=by
   rw[cB,D0 (by simp)]
  simp only[A0,cond_false,and_true,true_and,ht,hd,bnd];rw[aQ (by omega)];simp only[A0];rw[aQ (by simp;omega)];simp only[A0];rw[aQ (by simp;omega)];simp only[A0];rw[aQ (by simp;omega)];refine⟨l.take k++[x]++l.drop k,rfl,fun y=>?_,by simp;omega,fun hs=>?_⟩
  ·have:y∈l↔y∈l.take k\/y∈l.drop k:=by rw[<-D7,C1]
   rw[this];simp only[D7,D6];constructor
   ·rintro((h|h)|h)
    ·exact .inr (.inl h)
    ·exact .inl h
    ·exact .inr (.inr h)
   ·rintro(h|h|h)
    ·exact .inl (.inr h)
    ·exact .inl (.inl h)
    ·exact .inr h
  ·have hlow:∀y∈l.take k,y<x:=fun y hy=>by
    obtain⟨j,hj⟩:=B4 hy;rw[E4] at hj;split at hj
    ·rename_i hjk;exact k3 j y hjk hj
    ·cases hj
   have hhigh:∀y∈l.drop k,x<y:=fun y hy=>by
    obtain⟨j,hj⟩:=B4 hy;rw[List.getElem?_drop] at hj;obtain⟨q1,q2⟩:=A1.1 hj;have hkl:k<l.length:=by omega
    have hx2:=k4 _ (A2 hkl);have hne:l[k]'hkl≠x:=fun e=>hc ⟨hkl,by rw[A2 hkl,e]⟩;by_cases c:j=0
    ·subst c;have:l[k+0]'q1=l[k]'hkl:=rfl;omega
    ·have:=B2.1 hs k (k+j) hkl q1 (by omega);omega
   rw[E0,E0];refine⟨⟨hs.sublist (List.take_sublist k l),by simp,fun a ha b hb=>?_⟩,hs.sublist (List.drop_sublist k l),fun a ha b hb=>?_⟩
   ·rw[D6.1 hb];exact hlow a ha
   ·rcases D7.1 ha with h|h
    ·have:=hlow a h;have:=hhigh b hb;omega
    ·rw[D6.1 h];exact hhigh b hb
end Vs

namespace Vs
open Go
def dW(n:ah)(x:af):Bool:=wi x.Id 1 999&&(jD n x.F).isSome&&oa x.N
structure gh(n:ah)(x:af):Prop where
 r:PG n x.F
 b:kJ x.N
theorem iA{n:ah}{x:af}(h:bM n=true)(hx:dW n x=true):gh n x:=by
 unfold dW at hx;simp only[A6] at hx;obtain⟨⟨_,h2⟩,h3⟩:=hx;obtain⟨l,hl⟩:=F6.1 h2;exact⟨(vP h hl).1,aca h3⟩
theorem HJ(n:ah)(x:af)(h:bM n=true)(hr:x.F.F.length<=1048576):Om n x=some (dW n x):=by
 have hb:=de h;unfold Om dW
 grind [eP,sr,uO]
theorem Kf(n:ah)(x:af)(h:bM n=true)(hz:aR n<=1048576)(hr:x.F.F.length<=1048576):RI n x=some (dW n x):=by
 unfold RI dW;have hg:Ga n x.F=some (jD n x.F).isSome:=by
  rw[PS n x.F hz hr];unfold Pe;rw[h,A9]
 grind [jv,Rx]
theorem uN(n:ah)(a b:af)(ha:gh n a)(hb:gh n b):He a b=some (cH a.F a.N b.F b.N):=by
 have h1:=ha.r.len;have h2:=hb.r.len;unfold He cH;obtain⟨l,l1,_,l3⟩:=lR a.F.F b.F.F h1 (by omega);simp only[oi ha.b,oi hb.b,A0,l1,xp l3]
 grind
theorem AE(n:ah)(a b:af)(ha:gh n a)(hb:gh n b):RM a b=some (cH a.F a.N b.F b.N):=by
 have h1:=ha.r.len;have h2:=hb.r.len;unfold RM cH;simp only[kS a.F b.F.F (by omega) (by omega),jN ha.b,jN hb.b,A0]
 grind
def yD{list:List af}(h:aW list<=1048576){s:af}(hs:s∈list):s.F.F.length<=1048576:=by
 obtain⟨i,hi⟩:=B4 hs;have h2:s.F.F.length<=(list.map fun x=>cu x).sum:=iv (fun x=>cu x) hi
 grind [aW]
def uT{list:List af}(h:aW list<=1048576):list.length<=1048576:=by grind [aW]
def io(n:ah)(list:List af)(i:Nat)(s:af):Bool:=
 !dW n s||(decide (0<i)&&match list[i-1]? with|some g=>decide (s.Id<=g.Id)|none=>false)||(list.take i).any fun o=>cH o.F o.N s.F s.N
def fk(p:aB):Bool:=bM p.F&&decide (p.N.length<=12)&&!fM (io p.F p.N) p.N
def Pp(xs:List af)(f:af->Option Bool)(p:af->Bool)(hf:∀x∈xs,f x=some (p x))(hl:xs.length<=1048576):xo xs f=some (xs.any p):=by
 unfold xo AN;rw[cN (f:=wD xs f) xs (fun _ x=>p x) (fun i _=>(i:Int)) () (fun i x hx _=>by
  have hlt:=(A1.1 hx).1;have h1:decide ((i:Int)<xs.length)=true:=by simp[hlt]
  simp only[wD,h1,cond_true,aO,hx,hf x (A3 hx),A0];rw[aC (by omega) (by omega)];cases p x<;>rfl) (by simp[wD]) (by omega)]
 rw[<-sG];cases e:dv (fun _ x=>p x) xs with
 | none =>
   have h:fM (fun _ x=>p x) xs=false:=cy.2 (eu.1 e);rw[h];rfl
 | some q =>
   obtain⟨i,x⟩:=q;obtain⟨h1,h2,_⟩:=cw.1 e;have h:fM (fun _ x=>p x) xs=true:=iK.2 ⟨i,x,h1,h2⟩;rw[h];simp
def gN(xs:List af)(id:Int):Option (Nat×af):=dv (fun _ x=>x.Id==id) xs
def iL(xs:List af)(id:Int):Int:=match gN xs id with|some q=>(q.1:Int)|none=>-1
def Zu(xs:List af)(f:af->Option Bool)(p:af->Bool)(hf:∀x∈xs,f x=some (p x))(hl:xs.length<=1048576):AN xs f=some (match dv (fun _ x=>p x) xs with|some q=>(q.1:Int)|none=>-1):=by
 unfold AN;rw[cN (f:=wD xs f) xs (fun _ x=>p x) (fun i _=>(i:Int)) () (fun i x hx _=>by
  have hlt:=(A1.1 hx).1;have h1:decide ((i:Int)<xs.length)=true:=by simp[hlt]
  simp only[wD,h1,cond_true,aO,hx,hf x (A3 hx),A0];rw[aC (by omega) (by omega)];cases p x<;>rfl) (by simp[wD]) (by omega)]
 grind
def se{n:ah}(h:bM n=true){list:List af}{i:Nat}(hprev:∀j y,j<i->list[j]?=some y->io n list j y=false):∀o∈list.take i,gh n o:=by
 grind [List.getElem?_of_mem,Bool.or_eq_false_iff,Bool.not_eq_false',iA,io]
def jt(p:aB)(hz:aR p.F<=1048576)(hl:aW p.N<=1048576):zo p=some (fk p):=by
 have hll:=uT hl;unfold zo fk;rw[jW p.F hz];simp only[A0];rcases bt (bM p.F) with hn|hn
 ·rw[hn];simp only[A5,cond_false,A0,A9];by_cases h8:p.N.length<=12
  ·have e8:decide ((12:Int)<(p.N.length:Int))=false:=decide_eq_false (by omega);rw[e8,cond_false,decide_eq_true h8,A9];rw[dY (f:=HX p) p.N (io p.F p.N) (.inr false) (.inl ()) (fun i x hx hprev=>by
    have hlt:=(A1.1 hx).1;have h1:decide ((i:Int)<p.N.length)=true:=by simp[hlt]
    have w1:=yD hl (A3 hx);simp only[HX,h1,cond_true,aO,hx,A0,HJ p.F x hn w1,DZ p.N i (by omega)];unfold io;rcases bt (dW p.F x) with e|e
    ·have hin:=iA hn e;have hcf:xo (p.N.take i) (fun x0=>BU x0 x)=some ((p.N.take i).any fun o=>cH o.F o.N x.F x.N):=Pp _ _ _ (fun o ho=>by
      unfold BU;rw[uN p.F o x (se hn hprev o ho) hin];rfl) (by simp;omega)
     rw[e];simp only[A5,cond_false,D4,hcf,A0];rw[aC (n:=(i:Int)+1) (by omega) (by omega)];by_cases h0:0<i
     ·have e0:decide ((0:Int)<(i:Int))=true:=decide_eq_true (by omega);have ew:A7 .i64 ((i:Int)-1)=((i-1:Nat):Int):=by rw[aC (by omega) (by omega)];omega
      have hg:p.N[i-1]?=some (p.N[i-1]'(by omega)):=A2 (by omega);rw[e0,cond_true,ew,aO,hg,decide_eq_true h0];simp only[A0,A9];cases decide (x.Id<=(p.N[i-1]'(by omega)).Id)<;>cases((p.N.take i).any fun o=>cH o.F o.N x.F x.N)<;>rfl
     ·have e0:decide ((0:Int)<(i:Int))=false:=decide_eq_false (by omega);rw[e0,cond_false,decide_eq_false h0];simp only[H4,D4];cases((p.N.take i).any fun o=>cH o.F o.N x.F x.N)<;>rfl
    ·rw[e];rfl) (by simp[HX]) (by omega)]
   grind
  grind
 ·rw[hn];rfl
def Rf(p:aB)(hz:aR p.F<=1048576)(hl:aW p.N<=1048576):MQ p=some (fk p):=by
 have hll:=uT hl;unfold MQ fk;rw[sy p.F hz];simp only[A0];rcases bt (bM p.F) with hn|hn
 ·rw[hn];simp only[A5,cond_false,A0,A9];by_cases h8:p.N.length<=12
  ·have e8:decide ((12:Int)<(p.N.length:Int))=false:=decide_eq_false (by omega);rw[e8,cond_false,decide_eq_true h8,A9];rw[dY (f:=HC p) p.N (io p.F p.N) (.inr false) (.inl ()) (fun i x hx hprev=>by
    have hlt:=(A1.1 hx).1;have h1:decide ((i:Int)<p.N.length)=true:=by simp[hlt]
    have w1:=yD hl (A3 hx);simp only[HC,h1,cond_true,aO,hx,A0,Kf p.F x hn hz w1];rw[aC (n:=(i:Int)+1) (by omega) (by omega)];unfold io;rcases bt (dW p.F x) with e|e
    ·have hin:=iA hn e;have hcf:aY (Dm p (i:Int)) N0 0=some (if(p.N.take i).any (fun o=>cH o.F o.N x.F x.N) then .inr false else .inl ()):=by
      refine oS (f:=Dm p (i:Int)) (p.N.take i) (fun o=>cH o.F o.N x.F x.N) (.inr false) (.inl ()) (fun k o ho=>?_) ?_ (by simp;omega)
      ·have hin2:=se hn hprev o (A3 ho);rw[E4] at ho;split at ho
       ·rename_i hki;have h1:decide ((k:Int)<(i:Int))=true:=decide_eq_true (by omega);simp only[Dm,h1,cond_true,aO,ho,hx,A0,AE p.F o x hin2 hin];rw[aC (by omega) (by omega)];cases cH o.F o.N x.F x.N<;>rfl
       ·cases ho
      ·have h1:decide ((((p.N.take i).length:Nat):Int)<(i:Int))=false:=decide_eq_false (by simp;omega);simp only[Dm,h1,cond_false]
     rw[e];simp only[A5,cond_false,D4,hcf,A0];by_cases h0:0<i
     ·have e0:decide ((0:Int)<(i:Int))=true:=decide_eq_true (by omega);have ew:A7 .i64 ((i:Int)-1)=((i-1:Nat):Int):=by rw[aC (by omega) (by omega)];omega
      have hg:p.N[i-1]?=some (p.N[i-1]'(by omega)):=A2 (by omega);rw[e0,cond_true,ew,aO,hg,decide_eq_true h0];simp only[A0,A9];cases decide (x.Id<=(p.N[i-1]'(by omega)).Id)<;>cases((p.N.take i).any fun o=>cH o.F o.N x.F x.N)<;>rfl
     ·have e0:decide ((0:Int)<(i:Int))=false:=decide_eq_false (by omega);rw[e0,cond_false,decide_eq_false h0];simp only[A0,cond_false,H4,D4];cases((p.N.take i).any fun o=>cH o.F o.N x.F x.N)<;>rfl
    ·rw[e];rfl) (by simp[HC]) (by omega)]
   grind
  grind
 ·rw[hn];rfl
structure kL(p:aB):Prop where
 net:bM p.F=true
 len:p.N.length<=12
 lgt:∀s∈p.N,gh p.F s
 ok:∀s∈p.N,dW p.F s=true
 asc:∀(i:Nat)(a b:af),p.N[i]?=some a->p.N[i+1]?=some b->a.Id<b.Id
def tk{p:aB}(h:fk p=true):kL p:=by
 unfold fk at h;simp only[A6,decide_eq_true_eq,B3] at h;obtain⟨⟨h1,h2⟩,h3⟩:=h;have key:∀s∈p.N,dW p.F s=true:=fun s hs=>by
  grind [List.getElem?_of_mem,cy,Bool.or_eq_false_iff,Bool.not_eq_false',io]
 refine⟨h1,h2,fun s hs=>iA h1 (key s hs),key,fun i a b ha hb=>?_⟩
 grind [cy,Nat.add_sub_cancel,Bool.or_eq_false_iff,Bool.and_eq_false_iff,decide_eq_false_iff_not,io]
def jK{n:ah}{x:af}(h:dW n x=true):∃l,jD n x.F=some l:=by
 simp_all [A6,F6,dW]
end Vs

namespace Vs
open Go
theorem wS{n:ah}{r:aj}{l:List Int}(h:bM n=true)(hr:r.F.length<=1048576)(hl:jD n r=some l):Cn n r=some (fE n r):=by
 have hb:=de h;obtain⟨hi,hlen⟩:=vP h hl;have:=hi.len;unfold Cn fE
 grind [uO,aC,aQ,Int.toNat_natCast,Ar]
def lT(r:ae)(x:af):Bool:=match gN r.N x.Id with
 |none=>true
 |some q=>!fA x.F.F r.L||(q.2.F.N !=x.F.N||(fE r.F.F q.2.F !=fE r.F.F x.F||q.2.N.F !=x.N.F))
def cO(r:ae):Bool:=(fk r.F&&fk ⟨r.F.F,r.N⟩&&eE r.L r.F.F.F.length)&&!r.F.N.any fun x=>lT r x
def mT{r:ae}(h:bc r<=1048576):aR r.F.F<=1048576/\aW r.F.N<=1048576/\aW r.N<=1048576/\r.L.length<=1048576:=by
 grind [bc,aR,aW,bW,bU]
theorem tE(r:ae)(id:Int)(hl:r.N.length<=1048576):Cp r id=some (iL r.N id):=by
 unfold Cp iL gN;rw[Zu r.N (fun x0=>Sc x0 id) (fun x=>x.Id==id) (fun x _=>rfl) hl];rfl
def qF{xs:List af}{id:Int}{i:Nat}{y:af}(h:gN xs id=some (i,y)):xs[i]?=some y/\y.Id=id:=by
 obtain⟨h1,h2,_⟩:=cw.1 h
 simp_all
def adi(r:ae)(x:af)(hP:kL r.F)(hH:kL ⟨r.F.F,r.N⟩)(hD:r.L.length<=1048576)(hx:dW r.F.F x=true):Gm x r r.F.F=some (lT r x):=by
 have h12:r.N.length<=12:=hH.len;have hin:=iA hP.net hx;have w1:=hin.r.len;unfold Gm lT;obtain⟨a,a1,_,a3⟩:=lR x.F.F r.L w1 hD;simp only[tE r x.Id (by omega),A0,a1,xp a3];unfold iL;cases hf:gN r.N x.Id with
 |none=>rfl
 | some q =>
   obtain⟨i,y⟩:=q;obtain⟨f1,f2⟩:=qF hf;have hy:dW r.F.F y=true:=hH.ok y (A3 f1);obtain⟨lx,hlx⟩:=jK hx;obtain⟨ly,hly⟩:=jK hy;have w2:=(iA hP.net hy).r.len;have e0:decide ((i:Int)<0)=false:=decide_eq_false (by omega);simp only[e0,cond_false,A0,aO,f1,wS hP.net (by omega) hlx,wS hP.net (by omega) hly]
   grind
theorem c3n(a b c:Bool):(cond (!a) (some true) (cond (!b) (some true) (some (!c))):Option Bool)=some (!(a&&b&&c)):=by
 grind
theorem eT(r:ae)(hz:bc r<=1048576):Bh r=some (cO r):=by
 obtain⟨z1,z2,z3,z4⟩:=mT hz;unfold Bh cO;rw[jt r.F z1 z2];have e:zo (⟨(⟨r.F.F.N,r.F.F.F⟩:ah),r.N⟩:aB)=some (fk ⟨r.F.F,r.N⟩):=jt ⟨r.F.F,r.N⟩ z1 z3;obtain⟨_,hF,_⟩:=tL z1;rw[e,Eu r.L r.F.F.F.length hF z4];simp only[A0,c3n];rcases bt (fk r.F&&fk ⟨r.F.F,r.N⟩&&eE r.L r.F.F.F.length) with e2|e2
 ·rw[e2];simp only[A6] at e2;have hP:=tk e2.1.1;have hH:=tk e2.1.2;have h12:=hP.len;rw[Pp r.F.N _ (fun x=>lT r x) (fun x hx=>adi r x hP hH z4 (hP.ok x hx)) (by omega)];rfl
 ·rw[e2];rfl
def iO(r:ae)(hz:bc r<=1048576):Bh r=some (cO r):=eT r hz
structure yh(r:ae):Prop where
 pl:kL r.F
 hm:kL ⟨r.F.F,r.N⟩
 dn:eE r.L r.F.F.F.length=true
def jl{r:ae}(h:cO r=true):yh r:=by
 unfold cO at h;simp only[A6] at h;exact⟨tk h.1.1.1,tk h.1.1.2,h.1.2⟩
def wtB(r:ae)(x:af):Bool:=decide (iL r.F.N x.Id<0)
def wtL(r:ae):List Int:=bH (fun(_:Nat)(x:af)(a:List Int)=>(.inl (if wtB r x then a++[x.Id] else a):List Int⊕List Int)) (fun a=>a) 0 r.N []
theorem JW(p:aB)(id:Int)(hl:p.N.length<=1048576):NO p id=some (iL p.N id):=by
 unfold NO iL gN;rw[Zu p.N (fun x0=>LW x0 id) (fun x=>x.Id==id) (fun x _=>rfl) hl];rfl
theorem nZ(p:aB)(id:Int)(hl:p.N.length<=1048576):CR p id=some (iL p.N id):=by
 unfold CR iL gN;rw[cN (f:=Js p id) p.N (fun _ x=>x.Id==id) (fun i _=>(i:Int)) () (fun i x hx _=>by
  have hlt:=(A1.1 hx).1;have h1:decide ((i:Int)<p.N.length)=true:=by simp[hlt]
  simp only[Js,h1,cond_true,aO,hx,A0];rw[aC (by omega) (by omega)];cases x.Id==id<;>rfl) (by simp[Js]) (by omega)]
 grind
def vk(r:ae)(h1:r.N.length<=12)(h2:r.F.N.length<=12):Jf r=some (wtL r):=by
 unfold Jf wtL;have:=dj (f:=Iw r) r.N (fun i(a:List Int)=>((i:Int),a)) (fun _ x a=>.inl (if wtB r x then a++[x.Id] else a)) (fun a=>a) (fun i a=>a.length<=i) (fun i a x hx hI=>by
  have hlt:=(A1.1 hx).1;have e1:decide ((i:Int)<r.N.length)=true:=by simp[hlt]
  refine .inl ⟨_,rfl,by split<;>(try simp only[B1,A8,B8])<;>omega,?_⟩;simp only[Iw,e1,cond_true,aO,hx,A0,JW r.F x.Id (by omega),bnd];rw[aQ (by omega),aC (by omega) (by omega)];unfold wtB;cases decide (iL r.F.N x.Id<0)<;>rfl) (fun a _=>by simp[Iw]) [] (B6 0) (by omega)
 have e0:((0:Nat):Int)=0:=rfl;simp only[e0] at this;rw[this];rfl
def wtX(r:ae):Nat->List af->List Int
 |_,[]=>[]
 |k,x::xs=>if wtB r x then(k:Int)::wtX r (k+1) xs else wtX r (k+1) xs
def ol(r:ae)(h1:r.N.length<=12)(h2:r.F.N.length<=12):DI r=some (wtX r 0 r.N):=by
 unfold DI;have:=dj (f:=GD r) r.N (fun i(a:List Int)=>((i:Int),a)) (fun i x a=>.inl (if wtB r x then a++[(i:Int)] else a)) (fun a=>a) (fun i a=>a.length<=i) (fun i a x hx hI=>by
  have hlt:=(A1.1 hx).1;have e1:decide ((i:Int)<r.N.length)=true:=by simp[hlt]
  refine .inl ⟨_,rfl,by grind,?_⟩;simp only[GD,e1,cond_true,aO,hx,A0,nZ r.F x.Id (by omega),bnd]
  grind [aQ,aC,wtB,decide,iL]) (fun a _=>by simp[GD]) [] (B6 0) (by omega)
 have e0:((0:Nat):Int)=0:=rfl;simp only[e0] at this;rw[this];have gen:∀(xs:List af)(i:Nat)(a:List Int),bH (fun(i:Nat)(x:af)(a:List Int)=>(.inl (if wtB r x then a++[(i:Int)] else a):List Int⊕List Int)) (fun a=>a) i xs a=a++wtX r i xs:=by
  intro xs;induction xs with
  |nil=>grind [bH,wtX]
  |cons x xs ih=>grind [bH,wtX]
 rw[gen];rfl
def xw{f:Int×List af->Option ((Int×List af)⊕List af)}(xs:List af)(hl:xs.length<=1048576)
 (h1:∀(i:Nat) x(a:List af),xs[i]?=some x->a.length=i->f ((i:Int),a)=some (.inl (((i+1:Nat):Int),a++[x]))) (h2:∀a,f ((xs.length:Int),a)=some (.inr a)):aY f N0 (0,[])=some xs:=by
 have:=dj (f:=f) xs (fun i(a:List af)=>((i:Int),a)) (fun _ x a=>.inl (a++[x])) (fun a=>a) (fun i a=>a.length=i) (fun i a x hx hI=>.inl ⟨_,rfl,by simp[hI],h1 i x a hx hI⟩) (fun a _=>h2 a) [] rfl (by omega);have e0:((0:Nat):Int)=0:=rfl;simp only[e0] at this;rw[this];have gen:∀(ys:List af)(i:Nat)(a:List af),bH (fun(_:Nat)(x:af)(a:List af)=>(.inl (a++[x]):List af⊕List af)) (fun a=>a) i ys a=a++ys:=by
  intro ys;induction ys with
  |nil=>intro i a;simp[bH]
  |cons y ys ih=>simp_all [bH]
 rw[gen];rfl
def np(p:aB)(h1:aR p.F<=1048576)(h2:aW p.N<=1048576):Cx p=some p:=by
 obtain⟨a1,a2,_⟩:=tL h1;have hl:=uT h2;unfold Cx Xh;rw[aQ (by omega),aQ (by omega)];simp only[A0];rw[xw (f:=HA p) p.N hl (fun i x a hx ha=>by
  have hlt:=(A1.1 hx).1;have e1:decide ((i:Int)<p.N.length)=true:=by simp[hlt]
  have hr:=yD h2 (A3 hx);simp only[HA,e1,cond_true,aO,hx,A0,zO,bnd];rw[aQ (by omega)];simp only[A0];rw[aQ (by omega),aC (by omega) (by omega)];rfl) (fun a=>by simp[HA])]
 rfl
theorem jB(x:af)(h:x.F.F.length<=1048576):qj x=some x:=by
 unfold qj Jy M_t;rw[aQ (by omega)];rfl
theorem gT(p:aB)(h1:aR p.F<=1048576)(h2:aW p.N<=1048576):ng p=some p:=by
 obtain⟨a1,a2,_⟩:=tL h1;have hl:=uT h2;unfold ng UE;rw[aQ (by omega),aQ (by omega)];simp only[A0];rw[xw (f:=M_w p) p.N hl (fun i x a hx ha=>by
  have hlt:=(A1.1 hx).1;have e1:decide ((i:Int)<p.N.length)=true:=by simp[hlt]
  have hr:=yD h2 (A3 hx);simp only[M_w,e1,cond_true,aO,hx,A0,jB x hr,bnd];rw[aQ (by omega),aC (by omega) (by omega)];rfl) (fun a=>by simp[M_w])]
 rfl
theorem jE(xs:List af)(h2:aW xs<=1048576):Gv xs=some xs:=by
 have hl:=uT h2;unfold Gv;rw[xw (f:=Jh xs) xs hl (fun i x a hx ha=>by
  have hlt:=(A1.1 hx).1;have e1:decide ((i:Int)<xs.length)=true:=by simp[hlt]
  have hr:=yD h2 (A3 hx);simp only[Jh,e1,cond_true,aO,hx,A0,jB x hr,bnd];rw[aQ (by omega),aC (by omega) (by omega)];rfl) (fun a=>by simp[Jh])]
 rfl
theorem di(r:ae)(h1:aR r.F.F<=1048576)(h2:aW r.F.N<=1048576)(h3:aW r.N<=1048576)(h4:r.L.length<=1048576):sv r=some r:=by
 unfold sv TV;rw[np r.F h1 h2,np ⟨⟨[],[]⟩,r.N⟩ (by show aR ⟨[],[]⟩<=1048576;decide) h3,aQ (by omega)];rfl
def sa:ae:=⟨⟨⟨[],[]⟩,[]⟩,[],[]⟩
def srP(p:aB):ae×Bool:=if fk p then(⟨p,p.N,[]⟩,true) else(sa,false)
def aae{p:aB}(h:bW p<=1048576):aR p.F<=1048576/\aW p.N<=1048576:=by
 grind [bW]
def jV(p:aB)(hz:bW p<=1048576):Rs p=some (srP p):=by
 obtain⟨z1,z2⟩:=aae hz;unfold Rs srP;rw[jt p z1 z2];simp only[A0];rcases bt (fk p) with e|e
 ·rw[e,if_pos rfl];have h:=di ⟨p,p.N,[]⟩ z1 z2 z2 (by simp);have h':sv (⟨(⟨(⟨p.F.N,p.F.F⟩:ah),p.N⟩:aB),p.N,[]⟩:ae)=some ⟨p,p.N,[]⟩:=h;simp only[A5,cond_false,h',A0]
 ·rw[e];rfl
def jH(p:aB)(hz:bW p<=1048576):LD p=some (srP p):=by
 obtain⟨z1,z2⟩:=aae hz;unfold LD srP;rw[Rf p z1 z2];simp only[A0];rcases bt (fk p) with e|e
 ·rw[e,if_pos rfl];simp only[A5,cond_false,gT p z1 z2,jE p.N z2,A0]
 ·rw[e];rfl
theorem Cm{α:Type}(g:α->Nat)(c:Nat):∀(xs:List α),(∀x∈xs,g x<=c)->(xs.map g).sum<=xs.length*c
 |[],_=>by simp
 | x :: xs, h => by
   have h1:=h x (by simp);have h2:=Cm g c xs fun y hy=>h y (H0 _ hy)
   grind [List.length_cons,Nat.succ_mul]
def gB{n:ah}(h:bM n=true):aR n<=200:=by
 have hb:=de h;unfold bM at h;simp only[A6,B3] at h;have hn:=cy.1 h.1.1.1;have:(n.N.map fun x=>x.size).sum<=n.N.length*8:=Cm _ 8 _ fun x hx=>by
  obtain⟨i,hi⟩:=B4 hx;have:=hn i x hi;unfold jb at this;simp only[C5,G1] at this;have h2:=this.1;unfold pZ at h2;simp only[A6,cx] at h2;omega
 unfold aR bB bR;omega
def gC{n:ah}{xs:List af}(hl:xs.length<=12)(h:∀x∈xs,gh n x):aW xs<=200:=by
 have:(xs.map fun x=>cu x).sum<=xs.length*12:=Cm _ 12 _ fun x hx=>(h x hx).r.len;unfold aW;omega
theorem LS(x:Int)(ys:List Int)(h:ys.length<=1048576):xm x ys=some (decide (x∈ys)):=by
 simp_all [wR,xm]
def adp(xs ys:List Int)(hx:xs.length<=1048576)(hy:ys.length<=1048576):∃k l,Pj xs ys=some (0,k,l,ys)/\ca l 0 k=xs.filter fun x=>!decide (x∈ys):=by
 unfold Pj;have hI:Dd xs (fun x0=>xm x0 ys)=some (match dv (fun _(x:Int)=>decide (x∈ys)) xs with|some q=>(q.1:Int)|none=>-1):=by
  unfold Dd;rw[cN (f:=vY xs (fun x0=>xm x0 ys)) xs (fun _ x=>decide (x∈ys)) (fun i _=>(i:Int)) () (fun i x hx _=>by
   have hlt:=(A1.1 hx).1;have h1:decide ((i:Int)<xs.length)=true:=by simp[hlt]
   simp only[vY,h1,cond_true,aO,hx,LS x ys hy,A0];rw[aC (by omega) (by omega)];cases decide (x∈ys)<;>rfl) (by simp[vY]) (by omega)]
  grind
 rw[hI];cases hf:dv (fun _(x:Int)=>decide (x∈ys)) xs with
 | none =>
   have hn:=eu.1 hf;simp only[A0];have e:((-1:Int)==-1)=true:=rfl;rw[e,cond_true]
   grind [dJ,List.filter_eq_self,List.getElem?_of_mem]
 | some q =>
   obtain⟨i,x⟩:=q;obtain⟨f1,f2,f3⟩:=cw.1 hf;have hlt:=(A1.1 f1).1;have e:(((i:Nat):Int)==-1)=false:=by rw[beq_eq_false_iff_ne];omega
   simp only[A0,e,cond_false];rw[aC (n:=(i:Int)+1) (by omega) (by omega)];have hstart:(xs.take (i+1)).filter (fun x=>!decide (x∈ys))=xs.take i:=by
    rw[C7,f1,H5];have h1:(xs.take i).filter (fun x=>!decide (x∈ys))=xs.take i:=by
     rw[List.filter_eq_self];intro y hy;obtain⟨j,hj⟩:=B4 hy;rw[E4] at hj;split at hj
     ·rename_i hji;have:=f3 j y hji hj;simpa using this
     ·cases hj
    rw[h1];simp only[decide_eq_true_eq] at f2;simp[f2]
   obtain⟨o,o1,k,l,rfl,o3,o4,o5⟩:=dq (f:=Il ys) (fun s=>∃(a j:Nat)(l:List Int),s=((a:Int),(j:Int),l)/\a+1<=j/\j<=xs.length/\l.length=xs.length/\(∀p,j<=p->l[p]?=xs[p]?)/\l.take a=(xs.take j).filter (fun x=>!decide (x∈ys)))
    (fun s=>xs.length-s.2.1.toNat) (fun o=>∃(k:Nat)(l:List Int),o=((k:Int),l)/\l.length=xs.length/\k<=xs.length/\l.take k=xs.filter (fun x=>!decide (x∈ys))) (fun s hI=>by
    obtain⟨a,j,l,rfl,i1,i2,i3,i4,i5⟩:=hI;by_cases hj:j<xs.length
    ·left;have e1:decide ((j:Int)<(l.length:Int))=true:=decide_eq_true (by omega);have hxj:xs[j]?=some (xs[j]'hj):=A2 hj;have g1:l[j]?=some (xs[j]'hj):=by rw[i4 j (B6 j)];exact hxj
     have g2:l[a]?=some (l[a]'(by omega)):=A2 (by omega);have hflt:(xs.take (j+1)).filter (fun x=>!decide (x∈ys))=(xs.take j).filter (fun x=>!decide (x∈ys))++if decide (xs[j]'hj∈ys) then [] else [xs[j]'hj]:=by
      rw[C7,hxj,H5];congr 1;by_cases c:xs[j]'hj∈ys<;>simp[c]
     simp only[Il,e1,cond_true,A4,g1,g2,LS _ ys hy];rw[aQ (by omega),aQ (by omega)];simp only[A0,bnd];rw[aC (n:=(a:Int)+1) (by omega) (by omega),aC (n:=(j:Int)+1) (by omega) (by omega)];by_cases c:xs[j]'hj∈ys
     ·rw[decide_eq_true c] at hflt⊢;simp only[A5,cond_false];refine⟨_,rfl,⟨a,j+1,l,by simp,by omega,by omega,i3,fun p hp=>i4 p (by omega),?_⟩,by simp only[];omega⟩;rw[hflt,i5];simp
     ·rw[decide_eq_false c] at hflt⊢;simp only[B5,cond_true];refine⟨_,rfl,⟨a+1,j+1,l.set a (xs[j]'hj),by simp,by omega,by omega,by simpa using i3,fun p hp=>?_,?_⟩,by simp only[];omega⟩
      ·grind
      grind [vt]
    ·right;have e1:decide ((j:Int)<(l.length:Int))=false:=decide_eq_false (by omega);refine⟨_,by simp only[Il,e1,cond_false],a,l,rfl,i3,by omega,?_⟩
     grind) N0 ((i:Int),((i+1:Nat):Int),xs) ⟨i,i+1,xs,rfl,by omega,by omega,rfl,fun p _=>rfl,hstart.symm⟩ (fj (by simp;omega))
   have e1:((i+1:Nat):Int)=(i:Int)+1:=by omega
   rw[e1] at o1;rw[o1];simp only[A0,A4,and_true,true_and,bnd];rw[aQ (by omega)];simp only[A0];refine⟨k,_,rfl,?_⟩;rw[<-o5,cB,E8];unfold dz
   grind
def rpP(r:ae)(fs:List Int):ae×Bool:=
 if cO r&&eE fs r.F.F.F.length then(⟨r.F,r.N,r.L.filter fun x=>!decide (x∈fs)⟩,true) else(sa,false)
def nt(r:ae)(fs:List Int)(hz:bc r<=1048576)(hf:fs.length<=1048576):Dy r fs=some (cO r&&eE fs r.F.F.F.length):=by
 obtain⟨z1,_⟩:=mT hz;obtain⟨_,hF,_⟩:=tL z1
 grind [eT,Eu,Dy,cO]
def mB(r:ae)(fs:List Int)(hz:bc r<=1048576)(hf:bU fs<=1048576):Oa r fs=some (rpP r fs):=by
 obtain⟨z1,z2,z3,z4⟩:=mT hz;unfold Oa rpP;rw[nt r fs hz hf];simp only[A0];rcases bt (cO r&&eE fs r.F.F.F.length) with e|e
 ·obtain⟨k,l,d1,d2⟩:=adp r.L fs z4 hf;rw[e,if_pos rfl];simp only[A5,cond_false,di r z1 z2 z3 z4,A0,d1,bnd,d2]
 ·rw[e];rfl
theorem rE(p:Int->Bool):∀(xs:List Int)(i:Nat)(l:List Int),bH (fun(_:Nat)(x:Int)(l:List Int)=>(.inl (if p x then l++[x] else l):List Int⊕List Int)) (fun l=>l) i xs l=l++xs.filter p
 |[],_,l=>by simp[bH]
 | x :: xs, i, l => by
   simp only[bH];rw[rE p xs (i+1)];by_cases h:p x=true
   ·simp[h]
   ·simp[h]
end Vs

namespace Vs
open Go
def IsN(z:Int):Prop:=∃m:Nat,z=(m:Int)/\m<2^62
def isN0:IsN 0:=⟨0,rfl,by decide⟩
def wU{b:aX}(h:kJ b):dF b=(((2^b.F.toNat-1)*2^b.N.toNat:Nat):Int)/\(2^b.F.toNat-1)*2^b.N.toNat<2^62:=by
 obtain⟨⟨f1,f2⟩,c1,c2⟩:=h;have hc:(2:Nat)^b.F.toNat<=2^24:=C9 (by omega) (by omega);have hf:(2:Nat)^b.N.toNat<=2^24:=C9 (by omega) (by omega);have hc1:1<=(2:Nat)^b.F.toNat:=J1;have e1:A7 .i64 (1*2^(min (I8 b.F) (C8 .i64)))=((2^b.F.toNat:Nat):Int):=by
  have e:min b.F.toNat (C8 .i64)=b.F.toNat:=by show min _ 64=_;omega
  rw[e,L7,show(2:Int)^b.F.toNat=((2^b.F.toNat:Nat):Int) by rw[J9];rfl,aC (by omega) (by omega)]
 have e2:min b.N.toNat (C8 .i64)=b.N.toNat:=by show min _ 64=_;omega
 have e3:((((2:Nat)^b.F.toNat:Nat):Int)-1)*2^b.N.toNat=(((2^b.F.toNat-1)*2^b.N.toNat:Nat):Int):=by
  rw[Int.natCast_mul,Int.natCast_sub hc1,J9 2 b.N.toNat];rfl
 have hm:(2^b.F.toNat-1)*2^b.N.toNat<=2^24*2^24:=Nat.mul_le_mul (by omega) hf
 grind [aC,dF]
def yt{b:aX}(h:kJ b):IsN (dF b):=⟨_,(wU h).1,(wU h).2⟩
theorem BR(a:Nat):BitVec.ofInt 64 (a:Int)=BitVec.ofNat 64 a:=by
 simp_all
def TK(a b:Nat)(ha:a<2^62)(hb:b<2^62):bits .or .i64 (a:Int) (b:Int)=((a ||| b:Nat):Int):=by
 have h:=E6 ha hb;unfold bits;show A7 .i64 (((BitVec.ofInt 64 (a:Int) ||| BitVec.ofInt 64 (b:Int)).toNat:Nat):Int)=_
 grind [BR,BitVec.toNat_or,BitVec.toNat_ofNat,Nat.mod_eq_of_lt,aC]
def Qj(a b:Nat)(ha:a<2^62)(hb:b<2^62):bits .and .i64 (a:Int) (b:Int)=((a &&& b:Nat):Int):=by
 have h:a &&& b<=a:=Nat.and_le_left;unfold bits;show A7 .i64 (((BitVec.ofInt 64 (a:Int) &&& BitVec.ofInt 64 (b:Int)).toNat:Nat):Int)=_
 grind [BR,BitVec.toNat_and,BitVec.toNat_ofNat,Nat.mod_eq_of_lt,aC]
def or_N{a b:Int}(ha:IsN a)(hb:IsN b):IsN (bits .or .i64 a b):=by
 obtain⟨m,rfl,hm⟩:=ha;obtain⟨k,rfl,hk⟩:=hb;exact⟨m ||| k,TK m k hm hk,E6 hm hk⟩
def Xa{a b c:Int}(ha:IsN a)(hb:IsN b)(hc:IsN c):bits .and .i64 (bits .or .i64 a b) c=0↔bits .and .i64 a c=0/\bits .and .i64 b c=0:=by
 obtain⟨m,rfl,hm⟩:=ha;obtain⟨k,rfl,hk⟩:=hb;obtain⟨j,rfl,hj⟩:=hc;rw[TK m k hm hk,Qj _ j (E6 hm hk) hj,Qj m j hm hj,Qj k j hk hj,Nat.and_or_distrib_right];have:(m &&& j) ||| (k &&& j)=0↔(m &&& j)=0/\(k &&& j)=0:=Nat.or_eq_zero_iff;omega
theorem qG{α:Type}(g:α->Int)(p:α->Bool){c:Int}(hc:IsN c):∀(xs:List α)(k:Nat)(a:Int),IsN a->(∀x∈xs,p x=true->IsN (g x))->
 IsN (cK (fun _ x(a:Int)=>if p x then bits .or .i64 a (g x) else a) k xs a)/\(bits .and .i64 (cK (fun _ x(a:Int)=>if p x then bits .or .i64 a (g x) else a) k xs a) c=0↔bits .and .i64 a c=0/\∀x∈xs,p x=true->bits .and .i64 (g x) c=0)
 |[],_,a,ha,_=>⟨ha,by simp[cK]⟩
 | x :: xs, k, a, ha, hg => by
   simp only[cK];rcases bt (p x) with e|e
   ·have hx:=hg x (by simp) e;obtain⟨h1,h2⟩:=qG g p hc xs (k+1) _ (or_N ha hx) fun y hy=>hg y (by simp[hy]);rw[if_pos e];refine⟨h1,?_⟩;rw[h2,Xa ha hx hc];simp only[C2,forall_eq_or_imp,e,true_imp_iff];exact⟨fun⟨⟨q1,q2⟩,q3⟩=>⟨q1,q2,q3⟩,fun⟨q1,q2,q3⟩=>⟨⟨q1,q2⟩,q3⟩⟩
   ·obtain⟨h1,h2⟩:=qG g p hc xs (k+1) a ha fun y hy=>hg y (by simp[hy]);rw[if_neg (by rw[e];simp)];refine⟨h1,?_⟩;rw[h2];simp[e]
def pL(L:List af)(f:Int):Int:=cK (fun _(o:af)(a:Int)=>if(o.F.F.any fun y=>y==f) then bits .or .i64 a (dF o.N) else a) 0 L 0
def gQ(L:List af)(fs:List Int):Int:=cK (fun _(f:Int)(a:Int)=>if true then bits .or .i64 a (pL L f) else a) 0 fs 0
def kx(n:ah)(L:List af):Prop:=L.length<=12/\∀o∈L,gh n o
def pF{n:ah}{L:List af}(hL:kx n L){y:af}(hy:gh n y):(bits .and .i64 (gQ L y.F.F) (dF y.N)==0)=!(L.any fun o=>cH o.F o.N y.F y.N):=by
 have hc:=yt hy.b;have h1:=fun f=>qG (fun o:af=>dF o.N) (fun o:af=>o.F.F.any fun y=>y==f) hc L 0 0 isN0 fun o ho _=>yt (hL.2 o ho).b;have h2:=(qG (pL L) (fun _=>true) hc y.F.F 0 0 isN0 fun f _ _=>(h1 f).1).2;have e0:bits .and .i64 0 (dF y.N)=0:=and0 _;have key:bits .and .i64 (gQ L y.F.F) (dF y.N)=0↔∀f∈y.F.F,∀o∈L,(o.F.F.any fun z=>z==f)=true->bits .and .i64 (dF o.N) (dF y.N)=0:=by
  show bits .and .i64 (cK _ _ _ _) _=0↔_;rw[h2];constructor
  ·rintro⟨_,h⟩ f hf o ho hof;exact((h1 f).2.1 (h f hf rfl)).2 o ho hof
  ·intro h;exact⟨e0,fun f hf _=>(h1 f).2.2 ⟨e0,fun o ho hof=>h f hf o ho hof⟩⟩
 rw[C3,beq_iff_eq,key,B3,B9];constructor
 ·intro h o ho;unfold cH fA
  grind
 ·intro h f hf o ho hof;have:=h o ho;unfold cH fA at this
  grind
theorem NF{n:ah}{p:aB}(hL:kx n p.N)(f:Int):LJ p f=some (pL p.N f):=by
 unfold LJ;have:aY (M_f p f) N0 (0,0)=some (pL p.N f):=by
  refine dp (f:=M_f p f) p.N (fun i(a:Int)=>(a,(i:Int))) _ id (fun _ _=>True) (fun i a x hx _=>?_) (fun a _=>by simp[M_f]) 0 trivial (by have:=hL.1;omega);have hlt:=(A1.1 hx).1;have hin:=hL.2 x (A3 hx);have:=hL.1;refine⟨trivial,?_⟩;simp only[M_f,decide_eq_true (show(i:Int)<(p.N.length:Int) by omega),cond_true,aO,hx,A0,nP x.F.F f (by have:=hin.r.len;omega)];rw[aC (n:=(i:Int)+1) (by omega) (by omega)];rcases bt (x.F.F.any fun y=>y==f) with e|e
  ·rw[e,cond_true,jN hin.b];rfl
  ·rw[e];rfl
 rw[this];rfl
def pe{n:ah}{p:aB}(hL:kx n p.N)(r:aj)(hr:r.F.length<=12):yE p r=some (gQ p.N r.F):=by
 unfold yE;have:aY (CP p r) N0 (0,0)=some (gQ p.N r.F):=by
  refine dp (f:=CP p r) r.F (fun i(a:Int)=>(a,(i:Int))) _ id (fun _ _=>True) (fun i a x hx _=>?_) (fun a _=>by simp[CP]) 0 trivial (by omega);have hlt:=(A1.1 hx).1;refine⟨trivial,?_⟩;simp only[CP,decide_eq_true (show(i:Int)<(r.F.length:Int) by omega),cond_true,aO,hx,A0,NF hL x];rw[aC (n:=(i:Int)+1) (by omega) (by omega)];rfl
 rw[this];rfl
def rM(L:List af)(y:af):Bool:=L.any fun o=>o.Id !=y.Id&&cH o.F o.N y.F y.N
def yZ{n:ah}(r:ae)(hL:kx n r.F.N)(y:af)(hy:gh n y)(hD:r.L.length<=1048576):Kv r y=some (fA y.F.F r.L&&!rM r.F.N y):=by
 unfold Kv rM;obtain⟨a,a1,_,a3⟩:=lR y.F.F r.L hy.r.len hD;have h12:=hL.1;simp only[a1,A0,FT a3];rw[Pp r.F.N _ (fun o=>o.Id !=y.Id&&cH o.F o.N y.F y.N) (fun o ho=>by
  unfold QP;cases o.Id !=y.Id
  ·rfl
  ·simp only[cond_true,uN n o y (hL.2 o ho) hy,A0,A9]) (by omega)]
 grind
end Vs



namespace Vs
open Go
def uz(n:ah)(y:Int):Int:=match n.F[y.toNat]? with|some f=>f.F|none=>0
def fL(n:ah)(r:aj):Int:=cK (fun _ y s=>A7 .i64 (s+uz n y)) 0 r.F 0
def RtB(n:ah)(r:aj):Prop:=r.F.length<=20/\(∀e∈r.F,0<=e/\e<n.F.length)/\0<=r.N/\r.N<8
def lP{n:ah}{r:aj}(h:RtB n r):JF n r=some (fL n r):=by
 have h1:=h.1;unfold JF fL;have:=dp (f:=JU n r) r.F (fun i(s:Int)=>(s,(i:Int))) (fun _ y s=>A7 .i64 (s+uz n y)) id (fun _ _=>True) (fun i s y hy _=>by
  have hlt:=(A1.1 hy).1;have e1:decide ((i:Int)<r.F.length)=true:=by simp[hlt]
  obtain⟨g1,g2⟩:=h.2.1 y (A3 hy);have hf:bG n.F y=n.F[y.toNat]?:=by unfold bG;rw[if_pos g1]
  have hs:n.F[y.toNat]?=some (n.F[y.toNat]'(by omega)):=A2 _;refine⟨trivial,?_⟩;simp only[JU,e1,cond_true,aO,hy,A0,hf,uz];rw[hs];simp only[A0];rw[aC (n:=(i:Int)+1) (by omega) (by omega)];rfl) (fun s _=>by simp[JU]) 0 trivial (by omega)
 have e0:((0:Nat):Int)=0:=rfl;simp only[e0] at this;rw[this];rfl
def sx{n:ah}{r:aj}(h:RtB n r):SD n r=some (fL n r):=lP h
def EH{n:ah}(hn:bM n=true){r:aj}(h:RtB n r):0<=fL n r/\fL n r<=100000:=by
 have gen:∀(ys:List Int)(i:Nat)(s:Int),(∀e∈ys,0<=e/\e<n.F.length)->i+ys.length<=20->0<=s->s<=5000*i->0<=cK (fun _ y s=>A7 .i64 (s+uz n y)) i ys s/\cK (fun _ y s=>A7 .i64 (s+uz n y)) i ys s<=5000*(i+ys.length:Nat):=by
  intro ys;induction ys with
  |nil=>simp_all [cK]
  | cons y ys ih =>
    intro i s hy hi h1 h2;simp only[A8] at hi;obtain⟨g1,g2⟩:=hy y (by simp);have hs:n.F[y.toNat]?=some (n.F[y.toNat]'(by omega)):=A2 _;obtain⟨_,_,_,f4,f5,_⟩:=po hn hs;have hf:uz n y=(n.F[y.toNat]'(by omega)).F:=by unfold uz;rw[hs]
    have hw:A7 .i64 (s+uz n y)=s+uz n y:=aC (by omega) (by omega);simp only[cK];rw[hw];have:=ih (i+1) (s+uz n y) (fun e he=>hy e (by simp[he])) (by omega) (by omega) (by omega)
    grind
 have h1:=h.1;have:=gen r.F 0 0 h.2.1 (by omega) (by omega) (by omega);unfold fL;omega
theorem ajf(a b c d:Int):CH [a,b,c,d]=some (if a≠0 then a else if b≠0 then b else if c≠0 then c else d):=by
 unfold CH;have key:=cN (f:=M_y [a,b,c,d]) [a,b,c,d] (fun _ x=>x !=0) (fun _ x=>x) () (fun i x hx _=>by
  have hlt:=(A1.1 hx).1;have h1:decide ((i:Int)<([a,b,c,d].length:Nat))=true:=decide_eq_true (by omega);simp only[A8,B8] at hlt;simp only[M_y,h1,cond_true,aO,hx,A0]
  grind [aC]) (by simp[M_y]) (by simp)
 rw[key];unfold dv;simp only[E9,J8,F8,K0];by_cases h1:a=0
 ·by_cases h2:b=0
  ·by_cases h3:c=0
   ·grind
   grind
  grind
 grind
def rC(b:List Int)(i:Nat)(x:Int):Int:=match b[i]? with|some y=>eh x y|none=>1
def jm(a b:List Int):Int:=match dv (fun i x=>b[i]? !=some x) a with
 |some q=>rC b q.1 q.2
 |none=>if a.length<b.length then -1 else 0
theorem CV(a b:List Int)(hl:a.length<=1048576):Py a b=some (jm a b):=by
 unfold Py;rw[cN (f:=HB a b) a (fun i x=>b[i]? !=some x) (fun i x=>rC b i x) () (fun i x hx _=>by
  have hlt:=(A1.1 hx).1;have h3:decide ((i:Int)<a.length)=true:=by simp[hlt]
  simp only[HB,h3,cond_true,aO,hx,A0,rC];by_cases hb:b.length<=i
  ·simp_all
  ·have h4:decide ((b.length:Int)<=(i:Int))=false:=by simp;omega
   have h5:b[i]?=some (b[i]'(by omega)):=A2 _;simp only[h4,cond_false,h5,A0,Nr];rw[aC (by omega) (by omega)];by_cases e:x=b[i]'(by omega)
   ·grind [dl]
   ·have e1:(eh x (b[i]'(by omega)) !=0)=true:=bne_iff_ne.2 fun e'=>e (dl.1 e')
    grind) (by simp[HB]) (by omega)]
 unfold jm
 grind
def gg(n:ah)(a b:aj):Int:=if fL n a≠fL n b then eh (fL n a) (fL n b) else if a.F.length≠b.F.length then eh a.F.length b.F.length else
 if jm a.F b.F≠0 then jm a.F b.F else eh a.N b.N
def qA{n:ah}{a b:aj}(ha:RtB n a)(hb:RtB n b):Pd n a b=some (gg n a b):=by
 have h1:=ha.1;unfold Pd;rw[sx ha,A0,sx hb,A0];simp only[Nr,A0,CV a.F b.F (by omega),bnd,ajf]
 simp_all [ne_eq,dl,Int.natCast_inj,gg]
theorem xX(x:Int):yg x=some (eh x 0):=by
 grind [yg,eh]
def oy(x y:Int):eh (x-y) 0=eh x y:=by
 unfold eh;omega
def FW(x y:Int):(x-y !=0)=decide (x≠y):=by
 grind
def zc{n:ah}(hn:bM n=true){a b:aj}(ha:RtB n a)(hb:RtB n b):Im n a b=some (gg n a b):=by
 obtain⟨b1,b2,b3⟩:=de hn;have hla:=EH hn ha;have hlb:=EH hn hb;have h1:=ha.1;have h2:=hb.1;obtain⟨s1,s2⟩:=ha.2.2;obtain⟨s3,s4⟩:=hb.2.2;unfold Im gg;rw[lP ha,A0,lP hb,A0];simp only[xX,A0];rw[aC (n:=fL n a-fL n b) (by omega) (by omega),aC (n:=(a.F.length:Int)-(b.F.length:Int)) (by omega) (by omega),aC (n:=a.N-b.N) (by omega) (by omega),FW,FW,oy,oy,oy];by_cases e1:fL n a=fL n b
 ·rw[if_neg (by simpa using e1),decide_eq_false (by simpa using e1),cond_false];by_cases e2:a.F.length=b.F.length
  ·rw[if_neg (by simpa using e2),decide_eq_false (by simp[e2]),cond_false];rw[cN (f:=Gl a b) a.F (fun i x=>b.F[i]? !=some x) (fun i x=>rC b.F i x) () (fun i x hx _=>by
    have hlt:=(A1.1 hx).1;have h3:decide ((i:Int)<a.F.length)=true:=by simp[hlt]
    have h5:b.F[i]?=some (b.F[i]'(by omega)):=A2 _;obtain⟨x1,x2⟩:=ha.2.1 x (A3 hx);obtain⟨y1,y2⟩:=hb.2.1 _ (A3 h5);simp only[Gl,h3,cond_true,aO,hx,A0,rC,h5,xX];rw[aC (n:=(i:Int)+1) (by omega) (by omega),aC (n:=x-b.F[i]'(by omega)) (by omega) (by omega),oy];by_cases e:x=b.F[i]'(by omega)
    ·have e3:(x !=b.F[i]'(by omega))=false:=by rw[<-e];simp
     have e4:(some (b.F[i]'(by omega)) !=some x)=false:=by rw[<-e];simp
     rw[e3,e4];rfl
    ·have e3:(x !=b.F[i]'(by omega))=true:=bne_iff_ne.2 e;have e4:(some (b.F[i]'(by omega)) !=some x)=true:=bne_iff_ne.2 fun e'=>e (Option.some.inj e').symm;rw[e3,e4];rfl) (by simp[Gl]) (by omega)]
   unfold jm;cases hf:dv (fun i x=>b.F[i]? !=some x) a.F with
   | none =>
     simp only[A0];rw[if_neg (show¬a.F.length<b.F.length by omega),if_neg (by simp)]
   | some q =>
     obtain⟨g1,g2,_⟩:=cw.1 (show dv (fun i x=>b.F[i]? !=some x) a.F=some (q.1,q.2) from hf);have hlt:=(A1.1 g1).1;have h5:b.F[q.1]?=some (b.F[q.1]'(by omega)):=A2 _;have hz:rC b.F q.1 q.2≠0:=by
      unfold rC;rw[h5] at g2⊢;exact fun e=>bne_iff_ne.1 g2 (by rw[dl.1 e])
     simp only[A0];rw[if_pos hz]
  ·rw[if_pos (by simpa using e2),decide_eq_true (by simp;omega),cond_true]
 ·rw[if_pos (by simpa using e1),decide_eq_true (by simpa using e1),cond_true]
theorem nV(x y:Int):eh y x=- eh x y:=by
 unfold eh;omega
def No{a b:List Int}(h:a.length=b.length):jm b a=- jm a b:=by
 have key:∀{a b:List Int}{i:Nat}{x:Int},a.length=b.length->dv (fun i x=>b[i]? !=some x) a=some (i,x)->∃y,dv (fun i x=>a[i]? !=some x) b=some (i,y)/\a[i]?=some x/\b[i]?=some y:=by
  intro a b i x h hf;obtain⟨g1,g2,g3⟩:=cw.1 hf;have hlt:=(A1.1 g1).1;have h5:b[i]?=some (b[i]'(by omega)):=A2 _;refine⟨b[i]'(by omega),cw.2 ⟨h5,?_,fun j y hj hy=>?_⟩,g1,h5⟩
  ·grind
  ·grind
 unfold jm;cases hf:dv (fun i x=>b[i]? !=some x) a with
 | some q =>
   grind [nV,dv,rC]
 | none =>
   grind
theorem ld(n:ah)(a b:aj):gg n b a=- gg n a b:=by
 unfold gg;by_cases e1:fL n a=fL n b
 ·rw[if_neg (show¬fL n b≠fL n a from fun h=>h e1.symm),if_neg (show¬fL n a≠fL n b from fun h=>h e1)];by_cases e2:a.F.length=b.F.length
  ·rw[if_neg (show¬b.F.length≠a.F.length from fun h=>h e2.symm),if_neg (show¬a.F.length≠b.F.length from fun h=>h e2),No e2];by_cases e3:jm a.F b.F=0
   ·rw[if_neg (show¬ -jm a.F b.F≠0 by omega),if_neg (show¬jm a.F b.F≠0 from fun h=>h e3)];exact nV _ _
   omega
  ·rw[if_pos (show b.F.length≠a.F.length from fun e=>e2 e.symm),if_pos e2];exact nV _ _
 ·rw[if_pos (show fL n b≠fL n a from fun e=>e1 e.symm),if_pos e1];exact nV _ _
theorem vo{n:ah}{a b:aj}(h:gg n a b=0):a=b:=by
 unfold gg at h;by_cases e1:fL n a=fL n b
 ·rw[if_neg (by simp[e1])] at h;by_cases e2:a.F.length=b.F.length
  ·rw[if_neg (by simp[e2])] at h;by_cases e3:jm a.F b.F=0
   ·rw[if_neg (by simp[e3])] at h;have hs:=dl.1 h;have hf:a.F=b.F:=by
     unfold jm at e3;cases hf:dv (fun i x=>b.F[i]? !=some x) a.F with
     | none =>
       have:=eu.1 hf;apply List.ext_getElem?
       grind
     | some q =>
       rw[hf] at e3;obtain⟨g1,g2,_⟩:=cw.1 (show dv (fun i x=>b.F[i]? !=some x) a.F=some (q.1,q.2) from hf);have hlt:=(A1.1 g1).1
       simp_all [A2,bne_iff_ne,dl,rC]
    cases a;cases b;simp only at hs hf;rw[hs,hf]
   omega
  ·rw[if_pos e2] at h
   grind [dl]
 simp_all [if_pos,dl,absurd]
end Vs

namespace Vs
open Go
theorem oV{α:Type}(xs:List α)(k:Nat)(h:k<=xs.length):ca xs 0 k=xs.take k:=by rw[cB,E8]
theorem zL{α:Type}(xs:List α)(k:Nat)(h:k<=xs.length):ca xs k (xs.length-k)=xs.drop k:=by
 rw[cB,D0 (by simp)]
structure Nf(n:ah)(s:Int)(p q:List Int):Prop where
 len:q.length=p.length+1
 nd:q.Nodup
 rg:∀x∈q,0<=x/\x<(n.N.length:Int)
 pr:∀e∈p,0<=e/\e<(n.F.length:Int)
 st:0<=s/\s<8
def Nf.le{n:ah}{s:Int}{p q:List Int}(h:Nf n s p q):q.length<=n.N.length:=lh _ q h.nd h.rg
def Nf.rt{n:ah}(hn:bM n=true){s:Int}{p q:List Int}(h:Nf n s p q):RtB n ⟨s,p⟩:=by
 obtain⟨b1,b2,b3⟩:=de hn;have h1:=h.le;have h2:=h.len;exact⟨by show p.length<=20;omega,h.pr,h.st⟩
end Vs

namespace Vs
open Go
theorem Eo{α:Type}(p:Nat->α->Bool):∀(xs:List α)(k:Nat),((xs.zipIdx (k+1)).find? fun q=>p q.2 q.1)=((xs.zipIdx k).find? fun q=>p (q.2+1) q.1).map fun q=>(q.1,q.2+1)
 |[],k=>rfl
 | x :: xs, k => by
   rw[E9,E9,F8,F8];simp only;cases p (k+1) x with
   |true=>rfl
   |false=>exact Eo p xs (k+1)
def RY{α:Type}(p:Nat->α->Bool)(x:α)(xs:List α):
 dv p (x::xs)=if p 0 x then some (0,x) else(dv (fun i=>p (i+1)) xs).map fun q=>(q.1+1,q.2):=by
 unfold dv;rw[E9,F8];by_cases h:p 0 x=true
 ·simp[h]
 ·simp only[Bool.not_eq_true] at h;simp only[h,C4,if_false];rw[Eo p xs 0,K2,K2];rfl
def kC{x y:Int}:eh x y<0↔x<y:=by
 grind [eh]
def IE(x y:Int)(a b:List Int):jm (x::a) (y::b)=if x=y then jm a b else eh x y:=by
 unfold jm;rw[RY];by_cases h:x=y
 ·subst h;simp only[I0,bne_self_eq_false,C4,if_false,List.getElem?_cons_succ,if_true]
  grind [dv,rC]
 ·have:((some y:Option Int) !=some x)=true:=bne_iff_ne.2 fun e=>h (Option.some.inj e).symm
  simp_all [I0,if_true,if_neg,rC]
theorem Ev:∀a b c:List Int,a.length=b.length->b.length=c.length->jm a b<0->jm b c<0->jm a c<0
 |[],[],[],_,_,h,_=>h
 | x :: a, y :: b, z :: c, h1, h2, h3, h4 => by
   rw[IE] at h3 h4⊢;by_cases e1:x=y
   ·rw[if_pos e1] at h3;by_cases e2:y=z
    ·rw[if_pos e2] at h4;rw[if_pos (e1.trans e2)];exact Ev a b c (by simpa using h1) (by simpa using h2) h3 h4
    simp_all
   ·rw[if_neg e1,kC] at h3;by_cases e2:y=z
    ·rw[if_neg (by omega),kC];omega
    ·rw[if_neg e2,kC] at h4;rw[if_neg (by omega),kC];omega
def xA{n:ah}{a b:aj}(hs:a.N=b.N):gg n a b<0↔fL n a<fL n b\/(fL n a=fL n b/\(a.F.length<b.F.length\/(a.F.length=b.F.length/\jm a.F b.F<0))):=by
 unfold gg;by_cases e1:fL n a=fL n b
 ·rw[if_neg (fun h=>h e1)];by_cases e2:a.F.length=b.F.length
  ·rw[if_neg (fun h=>h e2)];by_cases e3:jm a.F b.F=0
   ·rw[if_neg (fun h=>h e3),kC];omega
   omega
  ·rw[if_pos e2,kC];omega
 ·rw[if_pos e1,kC];omega
def LH(n:ah)(a:aj):¬gg n a a<0:=by
 grind [ld]
theorem DR{n:ah}{a b c:aj}(h1:a.N=b.N)(h2:b.N=c.N)(h3:gg n a b<0)(h4:gg n b c<0):gg n a c<0:=by
 rw[xA h1] at h3;rw[xA h2] at h4;rw[xA (h1.trans h2)]
 grind [Ev]
theorem LB{n:ah}{a b:aj}(h:¬gg n a b<0):gg n b a<0\/a=b:=by
 grind [vo,ld]
def AQ{n:ah}{a b c:aj}(h1:a.N=b.N)(h2:b.N=c.N)(h3:¬gg n a b<0)(h4:¬gg n b c<0):¬gg n a c<0:=by
 grind [LB,DR,ld]
def nD(n:ah)(l:List aj):Prop:=l.Pairwise fun a b=>¬gg n b a<0
theorem EK{n:ah}:∀(xs ys:List aj),xs.Perm ys->nD n xs->nD n ys->xs=ys
 |[],ys,h,_,_=>(List.nil_perm.1 h).symm
 |x::xs,[],h,_,_=>by simp_all
 | x :: xs, y :: ys, h, h1, h2 => by
   unfold nD at h1 h2;rw[G2] at h1 h2;have e:x=y:=by
    have m1:x∈y::ys:=h.mem_iff.1 J2;have m2:y∈x::xs:=h.mem_iff.2 J2;rw[C2] at m1 m2;rcases m1 with e|m1
    ·exact e
    ·rcases m2 with e|m2
     ·exact e.symm
     ·have a1:=h2.1 x m1;have a2:=h1.1 y m2;have:=ld n x y;exact vo (n:=n) (by omega)
   subst e;rw[EK xs ys (List.Perm.cons_inv h) h1.2 h2.2]
def Zq(s:Int)(L:List aj):Prop:=∀r∈L,r.N=s
theorem Vo{n:ah}{s:Int}{L:List aj}{r:aj}{k:Nat}(hs:Zq s L)(hr:r.N=s)(hk:k<=L.length)(h:nD n L)(h1:∀j y,k<=j->L[j]?=some y->gg n r y<0)
 (h2:∀y,0<k->L[k-1]?=some y->¬gg n r y<0):nD n (L.take k++[r]++L.drop k):=by
 have hkL:L.take k++L.drop k=L:=C1 k L;have hpw:nD n (L.take k++L.drop k):=by rw[hkL];exact h
 unfold nD at hpw⊢;rw[E0] at hpw;obtain⟨p1,p2,p3⟩:=hpw;have before:∀y∈L.take k,¬gg n r y<0:=fun y hy=>by
  obtain⟨j,hj⟩:=B4 hy;rw[E4] at hj;split at hj
  ·rename_i hjk;have hz:L[k-1]?=some (L[k-1]'(by omega)):=A2 _;have q:=h2 _ (by omega) hz;by_cases e:j=k-1
   ·simp_all
   ·have hyz:¬gg n (L[k-1]'(by omega)) y<0:=by
     have:=B2.1 h j (k-1) (by omega) (by omega) (by omega);rw[(A1.1 hj).2] at this;exact this
    exact AQ (hr.trans (hs _ (E2 _)).symm) ((hs _ (E2 _)).trans (hs _ (List.mem_of_mem_take hy)).symm) q hyz
  ·cases hj
 have after:∀y∈L.drop k,gg n r y<0:=fun y hy=>by
  obtain⟨j,hj⟩:=B4 hy
  grind
 grind [List.append_assoc,List.singleton_append,List.pairwise_cons,ld]
def Gi{f:Int->Option (Int⊕Int)}{L:List aj}(hl:L.length<=1000)(g:aj->Int)
 (h1:∀(i:Nat)(y:aj),L[i]?=some y->f ((i+1:Nat):Int)=some (if decide (g y<0) then .inl (i:Int) else .inr ((i+1:Nat):Int))) (h2:f 0=some (.inr 0)):
 ∃k:Nat,aY f N0 (L.length:Int)=some (k:Int)/\k<=L.length/\(∀j y,k<=j->L[j]?=some y->g y<0)/\∀y,0<k->L[k-1]?=some y->¬g y<0:=by
 obtain⟨b,b1,b2⟩:=dq (f:=f) (fun s=>∃i:Nat,s=(i:Int)/\i<=L.length/\∀j y,i<=j->L[j]?=some y->g y<0) (fun s=>s.toNat) (fun b=>∃k:Nat,b=(k:Int)/\k<=L.length/\(∀j y,k<=j->L[j]?=some y->g y<0)/\∀y,0<k->L[k-1]?=some y->¬g y<0) (fun s⟨i,e,hi,hj⟩=>by
  subst e;cases i with
  |zero=>grind
  | succ i =>
    have hat:=A2 (show i<L.length by omega);have hs:=h1 i _ hat;rw[hs];by_cases c:g L[i]<0
    ·rw[if_pos (by simpa using c)];refine .inl ⟨_,rfl,⟨i,rfl,by omega,fun j y hij hy=>?_⟩,by simp⟩
     grind
    grind) N0 (L.length:Int) ⟨L.length,rfl,B6 _,fun j y hj hy=>by simp_all⟩ (fj (by omega))
 simp_all
def aec{n:ah}(hn:bM n=true){d:Int}{L:List aj}{r:aj}(hr:RtB n r)(hL:∀r∈L,RtB n r)(hl:L.length<=500)(hsm:Zq r.N L)(hsr:nD n L):
 ∃L',Nn r n.N n.F d L=some (n.N,n.F,d,L',L)/\L'.Perm (r::L)/\nD n L':=by
 obtain⟨k,k1,k2,k3,k4⟩:=Gi (f:=Io r n.N n.F L) (L:=L) (by omega) (gg n r) (fun i y hy=>by
  have hlt:=(A1.1 hy).1;have e1:decide (0<((i+1:Nat):Int))=true:=by simp only[decide_eq_true_eq];omega
  have e2:A7 .i64 (((i+1:Nat):Int)-1)=(i:Int):=by rw[aC (by omega) (by omega)];omega
  unfold Io;rw[e1,cond_true,e2,aQ ⟨by omega,by omega⟩,A0,A4,hy,A0,zc hn hr (hL y (A3 hy)),A0]
  grind) (by simp[Io])
 unfold Nn;rw[k1,A0,aQ ⟨trivial,by omega,trivial,by simpa using k2⟩];simp only[A0,bnd,A4];rw[aQ (by grind [oV]),A0,aQ (by grind [oV]),A0,aQ ⟨by omega,trivial,k2,trivial⟩,A0,aQ (by grind [oV,zL]),A0,oV _ _ k2,zL _ _ k2]
 grind [Vo,List.perm_middle,List.take_append_drop,List.append_assoc]
end Vs

namespace Vs
open Go
def eG(q:List Int):Int:=(q[q.length-1]?).getD 0
def gP(n:ah)(D:List Int->List Int->List aj)(v:Int)(p q:List Int)(i:Nat):List aj:=
 if 0<=cT n (i:Int) v/\cT n (i:Int) v∉q then D (p++[(i:Int)]) (q++[cT n (i:Int) v]) else []
def flS(n:ah)(D:List Int->List Int->List aj)(v:Int)(p q:List Int)(k:Nat):List aj:=(K3 k).flatMap (gP n D v p q)
def gO(n:ah)(s d:Int)(D:List Int->List Int->List aj)(p q:List Int):List aj:=
 if eG q=d then [⟨s,p⟩] else flS n D (eG q) p q n.F.length
def nl(n:ah)(s d:Int):Nat->List Int->List Int->List aj
 |0,p,q=>gO n s d (fun _ _=>[]) p q
 |k+1,p,q=>gO n s d (nl n s d k) p q
structure kw(n:ah)(s:Int)(p q:List Int):Prop where
 S:Nf n s p q
 V:∀ext,bH (pG n) (fun a=>some a.2) 0 (p++ext) (s,[s])=bH (pG n) (fun a=>some a.2) p.length ext (eG q,q)
theorem ta(q:List Int)(w:Int):eG (q++[w])=w:=by unfold eG;simp
def Mz{q:List Int}(h:0<q.length):q[q.length-1]?=some (eG q):=by
 grind [List.getElem?_eq_getElem,eG]
def Mt{n:ah}(hn:bM n=true){i:Nat}(hi:i<n.F.length){v:Int}(h0:0<=cT n (i:Int) v):cT n (i:Int) v<(n.N.length:Int):=by
 have hwi:wi (i:Int) 0 ((n.F.length:Int)-1)=true:=cx.2 (by omega);obtain⟨f,f1,f2⟩:=sm hwi;obtain⟨fa,fb,fc,_⟩:=po hn f2;unfold cT at h0⊢;rw[f2] at h0⊢;simp only[kg] at h0⊢;omega
def kw.ext{n:ah}(hn:bM n=true){s:Int}{p q:List Int}(h:kw n s p q){i:Nat}(hi:i<n.F.length)(h1:0<=cT n (i:Int) (eG q))(h2:cT n (i:Int) (eG q)∉q):
 kw n s (p++[(i:Int)]) (q++[cT n (i:Int) (eG q)]):=by
 have hp:=h.S;have hlt:=Mt hn hi h1;refine⟨⟨by have:=hp.len;simp;omega,?_,fun x hx=>?_,fun x hx=>?_,hp.st⟩,fun ext=>?_⟩
 ·rw[List.nodup_append];refine⟨hp.nd,by simp,fun x hx y hy e=>?_⟩
  simp_all
 ·rcases D7.1 hx with h|h
  ·exact hp.rg x h
  simp_all
 ·rcases D7.1 hx with h|h
  ·exact hp.pr x h
  simp_all
 ·rw[G4,h.V,I5,ta,B1,B7]
  grind [cx,decide_eq_false,bH,um,eG,wi,cT,pG]
structure RtV(n:ah)(s:Int)(r:aj):Prop where
 st:r.N=s
 b:RtB n r
 v:(jD n r).isSome=true
def FQ{n:ah}(hn:bM n=true){s d:Int}(hsd:s≠d)(hs:0<=s/\s<(n.N.length:Int)){D:List Int->List Int->List aj}{p q:List Int}(hD:∀p1 q1,kw n s p1 q1->q1.length=q.length+1->∀r∈D p1 q1,RtV n s r)(h:kw n s p q):∀r∈gO n s d D p q,RtV n s r:=by
 intro r hr;unfold gO at hr;split at hr
 ·rename_i e;rw[D6] at hr;subst hr;refine⟨rfl,h.S.rt hn,?_⟩;have hp:p.length≠0:=fun e0=>by
   have e1:p=[]:=G3.1 e0;subst e1;have h1:=h.V [];have h2:=h.S.len;obtain⟨x,hx⟩:∃x,q=[x]:=by
    match q,h2 with
    |[x],_=>exact⟨x,rfl⟩
   subst hx;simp only[D8,bH,Option.some.injEq,List.cons.injEq,and_true] at h1;apply hsd;rw[h1,<-e];rfl
  unfold jD;have e1:wi s 0 ((n.N.length:Int)-1)=true:=cx.2 (by omega);have h3:=h.V [];rw[D8] at h3;simp only[e1,decide_eq_false hp];rw[h3];rfl
 ·unfold flS at hr;rw[I1] at hr;obtain⟨i,hi,hr⟩:=hr;rw[I7] at hi;unfold gP at hr;split at hr
  ·rename_i h1;exact hD _ _ (h.ext hn hi h1.1 h1.2) (by simp) r hr
  ·cases hr
theorem tH{n:ah}(hn:bM n=true){s d:Int}(hsd:s≠d)(hs:0<=s/\s<(n.N.length:Int)):∀(k:Nat)(p q:List Int),kw n s p q->∀r∈nl n s d k p q,RtV n s r
 |0,p,q,h=>FQ hn hsd hs (fun _ _ _ _ _ hr=>by cases hr) h
 |k+1,p,q,h=>FQ hn hsd hs (fun p1 q1 h1 _=>tH hn hsd hs k p1 q1 h1) h
structure GdL(n:ah)(s:Int)(L:List aj):Prop where
 srt:nD n L
 rt:∀r∈L,RtV n s r
def mG(n:ah)(L D L':List aj):Prop:=nD n L'/\(∀r∈L',r∈L\/r∈D)/\L'.length<=201/\(if L.length+D.length<=201 then L'.Perm (L++D) else L'.length=201)
def mG.refl{n:ah}{L:List aj}(h:nD n L)(hl:L.length<=201):mG n L [] L:=⟨h,fun r hr=>.inl hr,hl,by simp_all⟩
def mG.trans{n:ah}{L D1 L1 D2 L2:List aj}(h1:mG n L D1 L1)(hl:L1.length<=200)(h2:mG n L1 D2 L2):mG n L (D1++D2) L2:=by
 obtain⟨a1,a2,a3,a4⟩:=h1;obtain⟨b1,b2,b3,b4⟩:=h2;have c:L.length+D1.length<=201:=by
  apply Classical.byContradiction;intro h;rw[if_neg h] at a4;omega
 rw[if_pos c] at a4;have e:=a4.length_eq;rw[B1] at e;refine⟨b1,fun r hr=>?_,b3,?_⟩
 ·grind
 grind
def mG.full{n:ah}{L D1 L1:List aj}(D2:List aj)(h1:mG n L D1 L1)(hl:¬L1.length<=200):mG n L (D1++D2) L1:=by
 obtain⟨a1,a2,a3,a4⟩:=h1;refine⟨a1,fun r hr=>(a2 r hr).imp id (List.mem_append_left _),a3,?_⟩;rw[B1];split
 ·rename_i c;rw[if_pos (by omega)] at a4;have e:=a4.length_eq
  grind
 ·omega
theorem GdL.put{n:ah}{s:Int}{L D L':List aj}(h:GdL n s L)(hD:∀r∈D,RtV n s r)(hq:mG n L D L'):GdL n s L':=⟨hq.1,fun r hr=>(hq.2.1 r hr).elim (h.rt r) (hD r)⟩
theorem gJ(n:ah)(D:List Int->List Int->List aj)(v:Int)(p q:List Int)(k:Nat):flS n D v p q (k+1)=flS n D v p q k++gP n D v p q k:=by
 grind [List.range_succ,flS]
theorem rG(n:ah)(D:List Int->List Int->List aj)(v:Int)(p q:List Int){k:Nat}:∀m,k<=m->∃R,flS n D v p q m=flS n D v p q k++R
 |0,h=>⟨[],by simp_all⟩
 | m + 1, h => by
   by_cases e:k=m+1
   ·simp_all
   ·obtain⟨R,hR⟩:=rG n D v p q m (show k<=m by omega)
    grind [gJ,List.append_assoc]
def nj{n:ah}(hn:bM n=true){s d:Int}(hsd:s≠d)(hs:0<=s/\s<(n.N.length:Int)){D:List Int->List Int->List aj}{rc:Int->List ByteArray->List aw->Int->List aj->List Int->List Int->Option (List ByteArray×List aw×Int×List aj×List Int)}
 {L:List aj} {p q:List Int} (hrc:∀(L:List aj)(p1 q1:List Int),kw n s p1 q1->q1.length=q.length+1->GdL n s L->L.length<=200->∃L',rc s n.N n.F d L p1 q1=some (n.N,n.F,d,L',q1)/\mG n L (D p1 q1) L')
 (hD:∀p1 q1,kw n s p1 q1->q1.length=q.length+1->∀r∈D p1 q1,RtV n s r) (hp:kw n s p q) (hL:GdL n s L) (hl:L.length<=200):
 ∃L',IV rc s n.N n.F d L p q=some (n.N,n.F,d,L',q)/\mG n L (gO n s d D p q) L':=by
 obtain⟨b1,b2,b3⟩:=de hn;have h1:=hp.S.le;have h2:=hp.S.len;have hix:A7 .i64 ((q.length:Int)-1)=((q.length-1:Nat):Int):=by rw[aC (by omega) (by omega)];omega
 unfold IV gO;rw[hix,aQ ⟨by omega,by omega⟩,A0,A4,Mz (by omega),A0];by_cases hv:eG q=d
 ·have e0:(eG q==d)=true:=by simpa using hv
  rw[e0,if_pos hv,cond_true];obtain⟨L',e1,e2,e3⟩:=aec hn (d:=d) (r:=⟨s,p⟩) (hp.S.rt hn) (fun r hr=>(hL.rt r hr).b) (by omega) (fun r hr=>(hL.rt r hr).st) hL.srt;rw[e1,A0];have hlen:=e2.length_eq;rw[A8] at hlen;refine⟨L',rfl,e3,fun r hr=>?_,by omega,?_⟩
  ·grind
  grind
 ·have e0:(eG q==d)=false:=by simpa using hv
  rw[e0,if_neg hv,cond_false];generalize hvq:eG q=v at*
  obtain⟨b,o1,o2⟩:=dq (f:=M_o s p q rc v) (fun t=>∃(i:Nat)(L':List aj),t=((i:Int),n.N,n.F,d,L')/\i<=n.F.length/\mG n L (flS n D v p q i) L') (fun t=>n.F.length-t.1.toNat) (fun b=>∃L',b=(n.N,n.F,d,L')/\mG n L (flS n D v p q n.F.length) L') (fun t⟨i,L',e,hi,hL'⟩=>by
   subst e;have hgd:GdL n s L':=hL.put (fun r hr=>by
    unfold flS at hr;rw[I1] at hr;obtain⟨j,hj,hr⟩:=hr;rw[I7] at hj;unfold gP at hr;split at hr
    ·rename_i c;subst hvq;exact hD _ _ (hp.ext hn (by omega) c.1 c.2) (by simp) r hr
    ·cases hr) hL'
   unfold M_o;by_cases h3:i<n.F.length/\L'.length<=200
   ·left;have e1:decide ((i:Int)<(n.F.length:Int))=true:=by simp[h3.1]
    have e2:decide ((L'.length:Int)<=200)=true:=by simp only[decide_eq_true_eq];omega
    have hwi:wi (i:Int) 0 ((n.F.length:Int)-1)=true:=cx.2 (by omega);simp only[e1,e2,cond_true,A0,vr n (i:Int) v hwi,nP q _ (show q.length<=1048576 by omega)];by_cases h4:0<=cT n (i:Int) v/\cT n (i:Int) v∉q
    ·have e3:decide (0<=cT n (i:Int) v)=true:=by simp[h4.1]
     have e4:(q.any fun y=>y==cT n (i:Int) v)=false:=by rw[<-qI];exact decide_eq_false h4.2
     have hP:kw n s (p++[(i:Int)]) (q++[cT n (i:Int) v]):=by subst hvq;exact hp.ext hn h3.1 h4.1 h4.2
     have hle:=hP.S.le;simp only[B1,B7] at hle;obtain⟨L2,c1,c2⟩:=hrc L' (p++[(i:Int)]) (q++[cT n (i:Int) v]) hP (by simp) hgd h3.2;have ep:M_t p=some p:=by unfold M_t;rw[aQ (by omega)];rfl
     have eq:M_t q=some q:=by unfold M_t;rw[aQ (by omega)];rfl
     simp only[e3,e4,cond_true,B5,A0,ep,eq,bnd];rw[aQ (by omega),A0,aQ (by omega),A0,c1,A0];have hst:gP n D v p q i=D (p++[(i:Int)]) (q++[cT n (i:Int) v]):=by unfold gP;rw[if_pos h4]
     refine⟨_,rfl,⟨i+1,L2,by grind [aC],by omega,by rw[gJ,hst];exact hL'.trans h3.2 c2⟩,?_⟩
     grind [aC]
    ·have e3:(cond (decide (0<=cT n (i:Int) v)) (some (!(q.any fun y=>y==cT n (i:Int) v))) (some false):Option Bool)=some false:=by
      by_cases h5:0<=cT n (i:Int) v
      ·have:(q.any fun y=>y==cT n (i:Int) v)=true:=by
        rw[<-qI,decide_eq_true_eq];exact Classical.byContradiction fun h6=>h4 ⟨h5,h6⟩
       simp[h5,this]
      ·simp[h5]
     rw[e3];simp only[A0,cond_false];have hst:gP n D v p q i=[]:=by unfold gP;rw[if_neg h4]
     refine⟨_,rfl,⟨i+1,L',by grind [aC],by omega,by grind [gJ]⟩,?_⟩
     grind [aC]
   ·right;have e1:(cond (decide ((i:Int)<(n.F.length:Int))) (some (decide ((L'.length:Int)<=200))) (some false):Option Bool)=some false:=by
     by_cases h5:i<n.F.length
     ·have:¬L'.length<=200:=fun h=>h3 ⟨h5,h⟩;have e6:decide ((L'.length:Int)<=200)=false:=by simp only[decide_eq_false_iff_not];omega
      simp[h5,e6]
     ·simp[h5]
    simp only[e1,A0,cond_false];refine⟨_,rfl,L',rfl,?_⟩;by_cases h5:i<n.F.length
    ·obtain⟨R,hR⟩:=rG n D v p q n.F.length hi;rw[hR];exact hL'.full R fun h=>h3 ⟨h5,h⟩
    grind) N0 (0,n.N,n.F,d,L) ⟨0,L,rfl,E3 _,mG.refl hL.srt (by omega)⟩ (fj (by simp only;omega))
  grind
theorem yI{n:ah}(hn:bM n=true){s d:Int}(hsd:s≠d)(hs:0<=s/\s<(n.N.length:Int)):∀(k m:Nat),k<m->∀(L:List aj)(p q:List Int),kw n s p q->q.length+k=n.N.length->GdL n s L->L.length<=200->
 ∃L',Bv m s n.N n.F d L p q=some (n.N,n.F,d,L',q)/\mG n L (nl n s d k p q) L'
 |0,0,h=>by omega
 |0,m+1,_=>fun L p q hp hq hL hl=>nj hn hsd hs (fun L1 p1 q1 hp1 e _ _=>by have:=hp1.S.le;omega) (fun _ _ _ _ _ hr=>by cases hr) hp hL hl
 | k + 1, m, hm => fun L p q hp hq hL hl => by
   obtain⟨m,rfl⟩:∃m',m=m'+1:=⟨m-1,by omega⟩;exact nj hn hsd hs (fun L1 p1 q1 hp1 e hL1 hl1=>yI hn hsd hs k m (by omega) L1 p1 q1 hp1 (by omega) hL1 hl1) (fun p1 q1 h1 _=>tH hn hsd hs k p1 q1 h1) hp hL hl
def lw(n:ah)(s d:Int):List aj:=nl n s d (n.N.length-1) [] [s]
def La{n:ah}(hn:bM n=true){s:Int}(hs:0<=s/\s<(n.N.length:Int)):kw n s [] [s]:=by
 have:=de hn;exact⟨⟨rfl,by simp,fun x hx=>by simp_all,fun e he=>(by cases he),⟨hs.1,by omega⟩⟩,fun ext=>rfl⟩
def acs{n:ah}(hn:bM n=true){s d:Int}(hsd:s≠d)(hs:0<=s/\s<(n.N.length:Int)):∃L,(if(lw n s d).length<=200 then GL n s d=some (true,L)/\L.Perm (lw n s d)/\nD n L else GL n s d=some (false,[])):=by
 obtain⟨b1,b2,b3⟩:=de hn;obtain⟨k,hk⟩:∃k,n.N.length=k+2:=⟨n.N.length-2,by omega⟩;have e:TQ s n.N n.F d [s]=IV (Bv N0) s n.N n.F d [] [] [s]:=rfl;obtain⟨L,e1,e2,e3,e4,e5⟩:=nj hn hsd hs (D:=nl n s d k) (rc:=Bv N0) (L:=[]) (p:=[]) (q:=[s]) (fun L1 p1 q1 hp1 e hL1 hl1=>yI hn hsd hs k N0 (fj (by omega)) L1 p1 q1 hp1 (by grind) hL1 hl1) (fun p1 q1 h1 _=>tH hn hsd hs k p1 q1 h1) (La hn hs) ⟨K8.nil,fun r hr=>by cases hr⟩ (by simp);have hr:lw n s d=gO n s d (nl n s d k) [] [s]:=by unfold lw;rw[hk];rfl
 rw[<-hr] at e5;refine⟨L,?_⟩;unfold GL;simp only[bnd,B8,F0,I4] at e5⊢;rw[e,e1,A0];by_cases h:(lw n s d).length<=200
 ·rw[if_pos (by omega)] at e5;have hl:=e5.length_eq;have e7:decide ((200:Int)<(L.length:Int))=false:=by simp only[decide_eq_false_iff_not];omega
  rw[if_pos h];refine⟨?_,e5,e2⟩;show cond (decide ((200:Int)<(L.length:Int))) _ _=_;rw[e7,cond_false,aQ (by simp only;omega)];rfl
 ·have hl:L.length=201:=by
   by_cases h2:(lw n s d).length<=201
   ·rw[if_pos h2] at e5;have:=e5.length_eq;omega
   ·grind
  simp_all
end Vs

namespace Vs
open Go
theorem aic(m i:Nat)(hi:i<64)(hm:m<2^62):(bits .and .i64 (Int.fdiv (m:Int) (2^(min i (C8 .i64)))) 1==0)=!m.testBit i:=by
 have e1:min i (C8 .i64)=i:=by rw[show C8 .i64=64 from rfl];omega
 have e2:Int.fdiv (m:Int) (2^i)=((m/2^i:Nat):Int):=by
  rw[Int.fdiv_eq_ediv_of_nonneg _ (by exact_mod_cast E3 (2^i))];simp
 have hlt:m/2^i<2^62:=Nat.lt_of_le_of_lt (Nat.div_le_self ..) hm;rw[e1,e2];have e3:bits .and .i64 ((m/2^i:Nat):Int) 1=((m/2^i%2:Nat):Int):=by
  show A7 .i64 ((BitVec.ofInt 64 ((m/2^i:Nat):Int) &&& BitVec.ofInt 64 ((1:Nat):Int)).toNat:Int)=_
  grind [BR,BitVec.toNat_and,BitVec.toNat_ofNat,Nat.mod_eq_of_lt,aC]
 grind
def PW(xs:List Int)(hl:xs.length<=1048576):Kr xs=some xs:=by
 unfold Kr;rw[aQ (by omega)];simp only[A0];cases xs with
 |nil=>rfl
 |cons x xs=>rfl
def zP(m:Nat)(q:List Int):Prop:=m<2^8/\∀i:Nat,m.testBit i=decide ((i:Int)∈q)
def FD{w:Nat}(hw:w<8):A7 .i64 (1*2^(min w (C8 .i64)))=((2^w:Nat):Int):=by
 have e1:min w (C8 .i64)=w:=by rw[show C8 .i64=64 from rfl];omega
 have q:(2:Nat)^w<=2^8:=C9 (by omega) (by omega);have p1:(1*2^w:Int)=((2^w:Nat):Int):=by rw[L7];exact_mod_cast rfl
 grind [Int.ofNat_le,Int.natCast_nonneg,aC]
def zP.ext{m:Nat}{q:List Int}(h:zP m q){w:Nat}(hw:w<8):zP (m ||| 2^w) (q++[(w:Int)]):=by
 refine⟨E6 h.1 (Nat.pow_lt_pow_right (by omega) hw),fun i=>?_⟩;rw[Nat.testBit_or,h.2,Nat.testBit_two_pow,C3]
 grind
def nb{n:ah}(hn:bM n=true){s d:Int}{D:List Int->List Int->List aj}{rc:Int->Int->List Int->Int->List aj->Int->ah->Option (Int×List aj×Int×ah)}{p q:List Int}{m:Nat}{out:List aj}
 (hrc:∀(p1 q1:List Int)(m1:Nat)(out:List aj),kw n s p1 q1->q1.length=q.length+1->zP m1 q1->out.length+(D p1 q1).length<=1000000000000->rc (eG q1) (m1:Int) p1 d out s n=some (d,out++D p1 q1,s,n))
 (hp:kw n s p q) (hm:zP m q) (hlen:out.length+(gO n s d D p q).length<=1000000000000):
 Ln rc (eG q) (m:Int) p d out s n=some (d,out++gO n s d D p q,s,n):=by
 obtain⟨b1,b2,b3⟩:=de hn;have h1:=hp.S.le;have h2:=hp.S.len;unfold Ln;unfold gO at hlen⊢;by_cases hv:eG q=d
 ·have e0:(eG q==d)=true:=by simpa using hv
  rw[if_pos hv] at hlen⊢;simp only[B7] at hlen;rw[e0,cond_true,PW p (by omega),A0]
  grind [aQ,bnd]
 ·have e0:(eG q==d)=false:=by simpa using hv
  rw[if_neg hv] at hlen⊢;rw[e0,cond_false];generalize hvq:eG q=v at*
  obtain⟨b,o1,o2⟩:=dq (f:=M_p v (m:Int) p n rc) (fun t=>∃i:Nat,t=((i:Int),d,out++flS n D v p q i,s,n)/\i<=n.F.length) (fun t=>n.F.length-t.1.toNat) (fun b=>b=(d,out++flS n D v p q n.F.length,s,n)) (fun t⟨i,e,hi⟩=>by
   subst e;unfold M_p;by_cases h3:i<n.F.length
   ·left;have e1:decide ((i:Int)<(n.F.length:Int))=true:=by simp[h3]
    have hat:n.F[i]?=some n.F[i]:=A2 h3;have ho:cT n (i:Int) v=kg n.F[i] v:=by unfold cT;rw[A4,hat]
    have w1:A7 .i64 ((i:Int)+1)=((i+1:Nat):Int):=by rw[aC (by omega) (by omega)];rfl
    simp only[e1,cond_true,aO,hat,A0,tn,<-ho,w1];by_cases h0:0<=cT n (i:Int) v
    ·obtain⟨w,hw⟩:=I2 h0;have hlt:=Mt hn h3 h0;rw[hw] at hlt;have hw8:w<8:=by omega
     simp only[hw,A4];rw[aQ (by omega)];simp only[A0,decide_eq_true (show(0:Int)<=(w:Int) by omega),cond_true,aic m w (by omega) (by have:=hm.1;omega),hm.2 w];by_cases h4:(w:Int)∈q
     ·rw[decide_eq_true h4];simp only[A5,cond_false];have hst:gP n D v p q i=[]:=by unfold gP;rw[if_neg (by rw[hw];exact fun h=>h.2 h4)]
      exact⟨_,rfl,⟨i+1,by rw[gJ,hst,D8],by omega⟩,by simp only;omega⟩
     ·rw[decide_eq_false h4];simp only[B5,cond_true,bnd];have h5:0<=cT n (i:Int) v/\cT n (i:Int) v∉q:=⟨h0,by rw[hw];exact h4⟩;have hst:gP n D v p q i=D (p++[(i:Int)]) (q++[(w:Int)]):=by unfold gP;rw[if_pos h5,hw]
      have hP:kw n s (p++[(i:Int)]) (q++[(w:Int)]):=by subst hvq;rw[<-hw];exact hp.ext hn h3 h5.1 h5.2
      obtain⟨R,hR⟩:=rG n D v p q n.F.length (show i+1<=n.F.length by omega);rw[hR,gJ,hst,B1,B1] at hlen;have hw2:(2:Nat)^w<=2^8:=C9 (by omega) (by omega);have hm1:=hm.1;rw[aQ (by omega),A0,FD hw8,TK m (2^w) (by omega) (by omega)];have hc:=hrc (p++[(i:Int)]) (q++[(w:Int)]) (m ||| 2^w) (out++flS n D v p q i) hP (by simp) (hm.ext hw8) (by grind);rw[ta] at hc;rw[hc,A0];exact⟨_,rfl,⟨i+1,by rw[gJ,hst,G4],by omega⟩,by simp only;omega⟩
    ·have e3:decide (0<=cT n (i:Int) v)=false:=decide_eq_false h0;simp only[e3,cond_false,A0];have hst:gP n D v p q i=[]:=by unfold gP;grind
     exact⟨_,rfl,⟨i+1,by rw[gJ,hst,D8],by omega⟩,by simp only;omega⟩
   grind) N0 (0,d,out,s,n) ⟨0,by simp[flS],by omega⟩ (fj (by simp only;omega))
  rw[o1,o2];rfl
theorem Bf{n:ah}(hn:bM n=true){s d:Int}:∀(k f:Nat),k<f->∀(p q:List Int)(m:Nat)(out:List aj),kw n s p q->q.length+k=n.N.length->zP m q->out.length+(nl n s d k p q).length<=1000000000000->
 Hh f (eG q) (m:Int) p d out s n=some (d,out++nl n s d k p q,s,n)
 |0,0,h=>by omega
 |0,f+1,_=>fun p q m out hp hq hm hl=>nb hn (fun p1 q1 m1 out1 hp1 e _ _=>by have:=hp1.S.le;omega) hp hm hl
 | k + 1, f, hf => fun p q m out hp hq hm hl => by
   obtain⟨f,rfl⟩:∃f',f=f'+1:=⟨f-1,by omega⟩;exact nb hn (fun p1 q1 m1 out1 hp1 e hm1 hl1=>Bf hn k f (by omega) p1 q1 m1 out1 hp1 (by omega) hm1 hl1) hp hm hl
def Tr{n:ah}(hn:bM n=true){s d:Int}:∀(k:Nat)(p q:List Int),(nl n s d k p q).length<=14^k:=by
 obtain⟨b1,b2,b3⟩:=de hn;have body:∀(D:List Int->List Int->List aj)(B:Nat)(p q:List Int),(∀p q,(D p q).length<=B)->(gO n s d D p q).length<=max 1 (14*B):=by
  intro D B p q hD;unfold gO;split
  ·simp;omega
  ·have gen:∀m,(flS n D (eG q) p q m).length<=m*B:=by
    intro m;induction m with
    |zero=>simp[flS]
    | succ m ih =>
      rw[gJ,B1,Nat.add_mul,Nat.one_mul]
      grind [gP,eG]
   have h1:=gen n.F.length;have h2:n.F.length*B<=14*B:=Nat.mul_le_mul_right B b3;omega
 intro k;induction k with
 | zero =>
   intro p q;have:=body (fun _ _=>[]) 0 p q (fun _ _=>by simp);simpa[nl] using this
 | succ k ih =>
   intro p q;have:=body (nl n s d k) (14^k) p q ih
   grind [Nat.pow_pos,Nat.pow_succ,gO,nl]
def Ws{n:ah}(hn:bM n=true)(s d:Int):(lw n s d).length<=105413504:=by
 obtain⟨b1,b2,b3⟩:=de hn;have h1:=Tr hn (s:=s) (d:=d) (n.N.length-1) [] [s];have h2:(14:Nat)^(n.N.length-1)<=14^7:=C9 (by omega) (by omega);unfold lw;omega
def agx{n:ah}(hn:bM n=true){s d:Int}(hsd:s≠d)(hs:0<=s/\s<(n.N.length:Int)):∃ys,LP n s d=some ys/\ys.Perm (lw n s d)/\nD n ys:=by
 obtain⟨b1,b2,b3⟩:=de hn;obtain⟨k,hk⟩:∃k,n.N.length=k+2:=⟨n.N.length-2,by omega⟩;obtain⟨w,rfl⟩:=I2 hs.1;have hrl:=Ws hn (w:Int) d;have hr:lw n (w:Int) d=gO n (w:Int) d (nl n (w:Int) d k) [] [(w:Int)]:=by unfold lw;rw[hk];rfl
 have hm:zP (2^w) [(w:Int)]:=by
  have:zP 0 []:=⟨by omega,fun i=>by simp⟩;have:=this.ext (w:=w) (by omega);simpa using this
 have hc:=nb hn (s:=(w:Int)) (d:=d) (D:=nl n (w:Int) d k) (rc:=Hh N0) (p:=[]) (q:=[(w:Int)]) (m:=2^w) (out:=[]) (fun p1 q1 m1 out1 hp1 e hm1 hl1=>Bf hn k N0 (fj (by omega)) p1 q1 m1 out1 hp1 (by simp only[B7] at e;omega) hm1 hl1) (La hn hs) hm (by rw[<-hr];simp;omega);rw[<-hr] at hc;have hok:=tH hn hsd hs (n.N.length-1) [] [(w:Int)] (La hn hs);obtain⟨ys,y1,y2,y3⟩:=BG (cmp:=fun x0 x1=>yr x0 x1 n) (xs:=lw n (w:Int) d) (gg n) (by omega) (fun x hx y hy=>by
  show yr x y n=_;unfold yr;rw[qA (hok x hx).b (hok y hy).b];rfl) (fun x _=>LH n x) (fun x hx y hy z hz=>DR ((hok x hx).st.trans (hok y hy).st.symm) ((hok y hy).st.trans (hok z hz).st.symm)) (fun x hx y hy z hz=>AQ ((hok x hx).st.trans (hok y hy).st.symm) ((hok y hy).st.trans (hok z hz).st.symm))
 refine⟨ys,?_,y2,y3⟩;unfold LP;have e0:(((w:Int)) !=d)=true:=bne_iff_ne.2 hsd;have e1:Ua (w:Int) (A7 .i64 (1*2^(min (I8 (w:Int)) (C8 .i64)))) [] d [] (w:Int) n=some (d,lw n (w:Int) d,(w:Int),n):=by
  rw[A4,FD (show w<8 by omega)];rw[show eG [(w:Int)]=(w:Int) from rfl,I4] at hc;exact hc
 rw[e0,cond_true,aQ (by omega),A0,e1];simp only[A0];rw[y1];rfl
def afs(xs:List Int)(f:Int->Option Bool)(p:Int->Bool)(hf:∀x,f x=some (p x))(hl:xs.length<=1048576):Pu xs f=some (xs.any p):=by
 unfold Pu Dd;rw[cN (f:=vY xs f) xs (fun _ x=>p x) (fun i _=>(i:Int)) () (fun i x hx _=>by
  have hlt:=(A1.1 hx).1;have h1:decide ((i:Int)<xs.length)=true:=by simp[hlt]
  simp only[vY,h1,cond_true,aO,hx,hf x,A0];rw[aC (by omega) (by omega)];cases p x<;>rfl) (by simp[vY]) (by omega)]
 rw[<-sG];cases e:dv (fun _ x=>p x) xs with
 | none =>
   have h:fM (fun _ x=>p x) xs=false:=cy.2 (eu.1 e);rw[h];rfl
 | some q =>
   obtain⟨i,x⟩:=q;obtain⟨h1,h2,_⟩:=cw.1 e;have h:fM (fun _ x=>p x) xs=true:=iK.2 ⟨i,x,h1,h2⟩;rw[h];simp
def zu{n:ah}(hn:bM n=true)(hz:aR n<=1048576){s d:Int}(hsd:s≠d)(hs:0<=s/\s<(n.N.length:Int))(hd:0<=d/\d<(n.N.length:Int)):∃L,(if(lw n s d).length<=200 then zN n s d=some (L,true)/\L.Perm (lw n s d)/\nD n L else zN n s d=some ([],false)):=by
 obtain⟨b1,b2,b3⟩:=de hn;obtain⟨L,l1,l2,l3⟩:=agx hn hsd hs;have hl:=l2.length_eq;refine⟨L,?_⟩;have e1:Pv n [s,d]=some true:=by
  unfold Pv;rw[jW n hz,hn];simp only[A0,cond_true];rw[afs [s,d] _ (fun x=>!wi x 0 ((n.N.length:Int)-1)) (fun x=>by
   unfold OI;rw[aC (by omega) (by omega),eP];rfl) (by simp)]
  have q1:wi s 0 ((n.N.length:Int)-1)=true:=cx.2 (by omega);have q2:wi d 0 ((n.N.length:Int)-1)=true:=cx.2 (by omega);simp[q1,q2]
 have e2:(s==d)=false:=by simpa using hsd
 unfold zN;simp only[bnd,e1,A0,A5,cond_false,e2,l1];by_cases h:(lw n s d).length<=200
 ·rw[if_pos h];have e3:decide ((200:Int)<(L.length:Int))=false:=by simp only[decide_eq_false_iff_not];omega
  rw[e3];exact⟨rfl,l2,l3⟩
 ·rw[if_neg h];have e3:decide ((200:Int)<(L.length:Int))=true:=by simp only[decide_eq_true_eq];omega
  rw[e3];rfl
end Vs

namespace Vs
open Go
def Dg(z:Int):Prop:=∃m:Nat,z=(m:Int)/\m<2^24
def LsB(L:List af):Prop:=∀o∈L,o.N.N+o.N.F<=24
def ace{b:aX}(h:kJ b)(h3:b.N+b.F<=24):Dg (dF b):=by
 refine⟨_,(wU h).1,?_⟩;obtain⟨⟨f1,f2⟩,c1,c2⟩:=h;have hf1:1<=(2:Nat)^b.N.toNat:=J1;have g1:(2:Nat)^b.F.toNat*2^b.N.toNat<=2^24:=by rw[<-Nat.pow_add];exact C9 (by omega) (by omega)
 grind [Nat.mul_le_mul_right,Nat.one_le_two_pow,Nat.sub_mul]
theorem aeg{α:Type}(g:α->Int)(p:α->Bool):∀(xs:List α)(k:Nat)(a:Int),Dg a->(∀x∈xs,Dg (g x))->Dg (cK (fun _ x(a:Int)=>if p x then bits .or .i64 a (g x) else a) k xs a)
 |[],_,a,ha,_=>ha
 | x :: xs, k, a, ha, hg => by
   simp only[cK];refine aeg g p xs (k+1) _ ?_ fun y hy=>hg y (by simp[hy]);split
   ·obtain⟨m,rfl,hm⟩:=ha;obtain⟨j,e,hj⟩:=hg x (by simp);rw[e];exact⟨m ||| j,TK m j (by omega) (by omega),E6 hm hj⟩
   ·exact ha
def YQ:Dg 0:=⟨0,rfl,by decide⟩
def aeo{n:ah}{L:List af}(hL:kx n L)(hB:LsB L)(fs:List Int):Dg (gQ L fs):=
 aeg (pL L) (fun _=>true) fs 0 0 YQ fun f _=>aeg (fun o:af=>dF o.N) (fun o:af=>o.F.F.any fun y=>y==f) L 0 0 YQ fun o ho=>ace (hL.2 o ho).b (hB o ho)
def fmS(m:Int)(_:Nat)(f:Int)(o:List Int):List Int:=o.set f.toNat (bits .or .i64 (gz o f.toNat) m)
theorem RH(m:Int):∀(fs:List Int)(k:Nat)(o:List Int),fs.Nodup->(∀f∈fs,0<=f/\f<(o.length:Int))->
 (cK (fmS m) k fs o).length=o.length/\∀i:Nat,gz (cK (fmS m) k fs o) i=if(i:Int)∈fs then bits .or .i64 (gz o i) m else gz o i
 |[],_,o,_,_=>⟨rfl,fun i=>by simp[cK]⟩
 | f :: fs, k, o, hn, hf => by
   obtain⟨h1,h2⟩:=F9.1 hn;have hf0:=hf f (by simp);have hl:(fmS m k f o).length=o.length:=by simp[fmS]
   obtain⟨g1,g2⟩:=RH m fs (k+1) (fmS m k f o) h2 fun x hx=>by simp_all
   simp only[cK];refine⟨by rw[g1,hl],fun i=>?_⟩;rw[g2];unfold fmS;rw[aav (by omega)]
   grind
def fmG(_:Nat)(x:af)(o:List Int):List Int:=cK (fmS (dF x.N)) 0 x.F.F o
theorem OV{N:Nat}:∀(L:List af)(k:Nat)(o:List Int),o.length=N->(∀x∈L,x.F.F.Nodup/\∀f∈x.F.F,0<=f/\f<(N:Int))->
 (cK fmG k L o).length=N/\∀i:Nat,gz (cK fmG k L o) i=cK (fun _(x:af)(a:Int)=>if(x.F.F.any fun y=>y==(i:Int)) then bits .or .i64 a (dF x.N) else a) k L (gz o i)
 |[],_,o,ho,_=>⟨ho,fun i=>rfl⟩
 | x :: L, k, o, ho, hL => by
   obtain⟨h1,h2⟩:=hL x (by simp);obtain⟨a1,a2⟩:=RH (dF x.N) x.F.F 0 o h1 fun f hf=>by rw[ho];exact h2 f hf
   obtain⟨b1,b2⟩:=OV L (k+1) (fmG k x o) (by rw[<-ho];exact a1) fun y hy=>hL y (by simp[hy]);simp only[cK];refine⟨b1,fun i=>?_⟩;rw[b2];congr 1;show gz (cK _ _ _ _) i=_
   simp_all
def Vc{n:ah}{x:af}(hx:gh n x):∀f∈x.F.F,0<=f/\f<(n.F.length:Int):=fun f hf=>by
 have:=hx.r.fib f hf
 simp_all [cx,fibI]
def xr{n:ah}{L:List af}(hn:n.F.length<=14)(hL:kx n L):∃ms,Lv ⟨n,L⟩=some ms/\ms.length=n.F.length/\∀i:Nat,gz ms i=pL L (i:Int):=by
 have hx:=fun x hx=>(⟨(hL.2 x hx).r.nod,Vc (hL.2 x hx)⟩:x.F.F.Nodup/\∀f∈x.F.F,0<=f/\f<(n.F.length:Int));have h12:=hL.1;obtain⟨r1,r2⟩:=OV L 0 (H6 n.F.length 0) (by simp) hx;refine⟨_,?_,r1,fun i=>by rw[r2];unfold pL gz;congr 1;rw[List.getElem?_replicate];split<;>rfl⟩;unfold Lv;rw[aQ (by dsimp only;omega)];simp only[A0,bnd,A4];have:=dp (f:=Dq ⟨n,L⟩) L (fun i(a:List Int)=>((i:Int),a)) fmG id (fun _ a=>a.length=n.F.length) (fun i a x hxi hI=>by
  have hlt:=(A1.1 hxi).1;have hm:=A3 hxi;obtain⟨q1,q2⟩:=hx x hm;have hin:=hL.2 x hm;refine⟨by rw[<-hI];exact(RH (dF x.N) x.F.F 0 a q1 fun f hf=>by rw[hI];exact q2 f hf).1,?_⟩;have key:=dp (f:=M_j x) x.F.F (fun i(a:List Int)=>((i:Int),a)) (fmS (dF x.N)) id (fun _ a=>a.length=n.F.length) (fun j b f hf hJ=>by
   have hlt:=(A1.1 hf).1;have hfr:=q2 f (A3 hf);have:=hin.r.len;refine⟨by unfold fmS;rw[G0];exact hJ,?_⟩;simp only[M_j,decide_eq_true (show(j:Int)<(x.F.F.length:Int) by omega),cond_true,aO,hf,A0];rw[aQ (by omega)];simp only[A0,Ar (show f.toNat<b.length by omega),oi hin.b,bnd];rw[aC (n:=(j:Int)+1) (by omega) (by omega)];rfl) (fun b _=>by simp[M_j]) a hI (by have:=hin.r.len;omega)
  simp only[Dq,decide_eq_true (show(i:Int)<(L.length:Int) by omega),cond_true,aO,hxi,A0];rw[show aY (M_j x) N0 (0,a)=some (fmG i x a) from key];simp only[A0];rw[aC (n:=(i:Int)+1) (by omega) (by omega)];rfl) (fun a _=>by simp[Dq]) (H6 n.F.length 0) (by simp) (by omega)
 rw[show aY (Dq ⟨n,L⟩) N0 (0,H6 n.F.length 0)=some (cK fmG 0 L (H6 n.F.length 0)) from this];rfl
def zG{n:ah}{L:List af}(hn:n.F.length<=14)(hL:kx n L){r:aj}(hr:r.F.length<=20)(hf:∀f∈r.F,0<=f/\f<(n.F.length:Int)):RC ⟨n,L⟩ r=some (gQ L r.F):=by
 obtain⟨ms,m1,m2,m3⟩:=xr hn hL;unfold RC;rw[m1];simp only[A0];have:=dp (f:=BZ r ms) r.F (fun i(a:Int)=>(a,(i:Int))) (fun _(f:Int)(a:Int)=>if true then bits .or .i64 a (pL L f) else a) id (fun _ _=>True) (fun i a f hi _=>by
  have hlt:=(A1.1 hi).1;have hfr:=hf f (A3 hi);refine⟨trivial,?_⟩;simp only[BZ,decide_eq_true (show(i:Int)<(r.F.length:Int) by omega),cond_true,aO,hi,A0]
  grind [aQ,Ar,aC]) (fun a _=>by simp[BZ]) 0 trivial (by omega)
 grind [aY,BZ,N0,gQ]
def kN(m c:Int):List Int:=cK (fun i _(a:List Int)=>if bits .and .i64 m (dF ⟨(i:Int),c⟩)==0 then a++[(i:Int)] else a) 0 (K3 (25-c.toNat)) []
theorem Mw(m c:Int):∀(xs:List Nat)(k:Nat)(a:List Int)(x:Int),x∈cK (fun i _(a:List Int)=>if bits .and .i64 m (dF ⟨(i:Int),c⟩)==0 then a++[(i:Int)] else a) k xs a->x∈a\/((k:Int)<=x/\x<((k+xs.length:Nat):Int))
 |[],k,a,x,h=>.inl h
 | y :: xs, k, a, x, h => by
   simp only[cK] at h;rcases Mw m c xs (k+1) _ x h with h|h
   ·grind
   grind
def EU{m c x:Int}(hc:1<=c/\c<=24)(h:x∈kN m c):0<=x/\x+c<=24:=by
 rcases Mw m c _ 0 [] x h with h|h
 ·cases h
 grind
def AZ{f:Int×List Int->Option ((Int×List Int)⊕List Int)}{m c:Int}(hc:1<=c/\c<=24)
 (hf:∀(i:Nat)(a:List Int),i<25->a.length<=25->f ((i:Int),a)=if(i:Int)+c<=24 then some (.inl (((i+1:Nat):Int),if bits .and .i64 m (dF ⟨(i:Int),c⟩)==0 then a++[(i:Int)] else a)) else some (.inr a)):
 aY f N0 (0,[])=some (kN m c):=by
 refine dp (f:=f) (K3 (25-c.toNat)) (fun i(a:List Int)=>((i:Int),a)) _ id (fun i a=>a.length<=i) (fun i a x hx hI=>?_) (fun a hI=>?_) [] (B6 _) (by grind)
 ·grind
 grind
def AU{m c:Int}(hc:1<=c/\c<=24):SJ m c=some (kN m c):=by
 unfold SJ;rw[AZ (f:=Qu m c) hc fun i a hi ha=>by
  simp only[Qu];rw[aC (n:=(i:Int)+c) (by omega) (by omega)];by_cases h:(i:Int)+c<=24
  ·rw[if_pos h,decide_eq_true h,cond_true,oi (b:=⟨(i:Int),c⟩) (by unfold kJ;simp only;omega)];simp only[A0,bnd];rw[aC (n:=(i:Int)+1) (by omega) (by omega)];rcases bt (bits .and .i64 m (dF ⟨(i:Int),c⟩)==0) with e|e
   ·rw[e,cond_true,aQ (by omega)];rfl
   ·rw[e,cond_false];rfl
  ·rw[if_neg h,decide_eq_false h,cond_false]]
 rfl
def Si{m c:Int}(hc:1<=c/\c<=24):NA m c=some (kN m c):=by
 unfold NA;rw[AZ (f:=M_e m c) hc fun i a hi ha=>by
  simp only[M_e];rw[aC (n:=(i:Int)+c) (by omega) (by omega)];by_cases h:(i:Int)+c<=24
  ·rw[if_pos h,decide_eq_true h,cond_true,jN (b:=⟨(i:Int),c⟩) (by unfold kJ;simp only;omega)];simp only[A0,bnd];rw[aC (n:=(i:Int)+1) (by omega) (by omega)];rcases bt (bits .and .i64 m (dF ⟨(i:Int),c⟩)==0) with e|e
   ·rw[e,cond_true,aQ (by omega)];rfl
   ·rw[e,cond_false];rfl
  ·rw[if_neg h,decide_eq_false h,cond_false]]
 rfl
def DC{m c:Int}(hm:Dg m)(hc:1<=c/\c<=24):MS m c=some (match kN m c with|[]=>(⟨0,0⟩,false)|x::_=>(⟨x,c⟩,true)):=by
 obtain⟨k,rfl,hk⟩:=hm;unfold MS Xg UO;rw[eP,eP,cx.2 (show(0:Int)<=(k:Int)/\(k:Int)<=16777215 by omega),cx.2 hc,AU hc];simp only[A0,cond_true,A5,cond_false];cases kN (k:Int) c with
 |nil=>rfl
 | cons x l =>
   have:((((x::l).length:Nat):Int)==0)=false:=by simp only[A8,beq_eq_false_iff_ne];omega
   simp_all;rfl
end Vs

namespace Vs
open Go
def lsN(L:List af)(id:Int):Nat:=(L.takeWhile fun y=>decide (y.Id<id)).length
def nA(L:List af)(x:af):List af:=L.take (lsN L x.Id)++[x]++L.drop (lsN L x.Id)
theorem FC(id:Int):∀L:List af,lsN L id<=L.length
 |[]=>B6 _
 | y :: L => by
   unfold lsN;rw[H2];split
   ·have:=FC id L
    simp_all [A8,lsN]
   ·exact E3 _
theorem YM(id:Int):∀(L:List af)(m:Nat)(y:af),L[m]?=some y->(m<lsN L id->y.Id<id)/\(m=lsN L id->¬y.Id<id)
 |[],m,y,h=>by simp at h
 | z :: L, m, y, h => by
   unfold lsN;rw[H2];by_cases e:z.Id<id
   ·rw[if_pos (decide_eq_true e)];cases m with
    | zero =>
      simp_all
    | succ m =>
      have:=YM id L m y (by simpa using h)
      simp_all [A8,lsN]
   grind
def Ff{f:Int->Option (Int⊕Int)}{L:List af}{id:Int}(hl:L.length<=1048576)
 (h1:∀(i:Nat) y,L[i]?=some y->f (i:Int)=if y.Id<id then some (.inl ((i+1:Nat):Int)) else some (.inr (i:Int))) (h2:f (L.length:Int)=some (.inr (L.length:Int))):aY f N0 0=some (lsN L id:Int):=by
 have hle:=FC id L;obtain⟨b,hb,hq⟩:=dq (f:=f) (fun s=>∃m:Nat,s=(m:Int)/\m<=lsN L id) (fun s=>lsN L id+1-s.toNat) (fun b=>b=(lsN L id:Int)) (fun s hI=>by
  obtain⟨m,rfl,hm⟩:=hI;by_cases hml:m<L.length
  ·have e2:L[m]?=some L[m]:=A2 hml;obtain⟨g1,g2⟩:=YM id L m _ e2;rw[h1 m _ e2];by_cases hmi:m<lsN L id
   ·left;rw[if_pos (g1 hmi)];exact⟨_,rfl,⟨m+1,rfl,hmi⟩,by omega⟩
   grind
  grind) N0 0 ⟨0,rfl,E3 _⟩ (fj (by simp;omega))
 rw[hb,hq]
def qf{n:ah}(hnet:bM n=true){L:List af}(hL:kx n L){x:af}(hx:x.F.F.length<=20):Kg ⟨n,L⟩ x=some ⟨n,nA L x⟩:=by
 have hz:=gC hL.1 hL.2;have hzn:=gB hnet;have h12:=hL.1;have hle:=FC x.Id L;unfold Kg;rw[np ⟨n,L⟩ (by simpa using D3 hzn (by omega)) (by dsimp only;omega)];simp only[A0];rw[Ff (f:=Hy ⟨n,L⟩ x) (L:=L) (id:=x.Id) (by omega) (fun i y hi=>by
  have hlt:=(A1.1 hi).1;simp only[Hy,decide_eq_true (show(i:Int)<(L.length:Int) by omega),cond_true,aO,hi,A0];rw[aC (n:=(i:Int)+1) (by omega) (by omega)];by_cases e:y.Id<x.Id
  ·rw[if_pos e,decide_eq_true e];rfl
  ·rw[if_neg e,decide_eq_false e];rfl) (by simp[Hy])]
 simp only[A0];unfold zO;rw[aQ (by omega)];simp only[A0,bnd];unfold pf;rw[if_pos ⟨by omega,by simpa using hle,by simp,by simp only[B7];omega⟩];rfl
def PT{n:ah}(hnet:bM n=true){L:List af}(hL:kx n L){x:af}(hx:x.F.F.length<=20):
 NL x.Id x.F.N x.N.N x.N.F n.N n.F L x.F.F=some (n.N,nA L x,n.F,n.N,n.F,L,x.F.F):=by
 have hz:=gC hL.1 hL.2;have hzn:=gB hnet;have h12:=hL.1;have hle:=FC x.Id L;unfold NL;rw[show ng (⟨(⟨n.N,n.F⟩:ah),L⟩:aB)=some ⟨n,L⟩ from gT ⟨n,L⟩ (by simpa using D3 hzn (by omega)) (by dsimp only;omega)];simp only[A0];rw[Ff (f:=M_x x.Id (⟨n,L⟩:aB)) (L:=L) (id:=x.Id) (by omega) (fun i y hi=>by
  have hlt:=(A1.1 hi).1;simp only[M_x,decide_eq_true (show(i:Int)<(L.length:Int) by omega),cond_true];rw[aQ (by omega)];simp only[A0,A4,hi];rw[aC (n:=(i:Int)+1) (by omega) (by omega)];by_cases e:y.Id<x.Id
  ·rw[if_pos e,decide_eq_true e];rfl
  ·rw[if_neg e,decide_eq_false e];rfl) (by simp[M_x])]
 have hc:=jB x (by omega);rw[show qj (⟨x.Id,(⟨x.F.N,x.F.F⟩:aj),(⟨x.N.N,x.N.F⟩:aX)⟩:af)=some x from hc];have s1:ca L 0 (lsN L x.Id)=L.take (lsN L x.Id):=by rw[cB,E8]
 have s2:ca L (lsN L x.Id) (L.length-lsN L x.Id)=L.drop (lsN L x.Id):=by rw[cB,D0 (by rw[F1];omega)]
 have l1:(L.take (lsN L x.Id)).length=lsN L x.Id:=by rw[D5];omega
 simp only[A0,A4,bnd,s1,s2];rw[aQ ⟨trivial,by omega,trivial,by omega⟩];simp only[A0];rw[aQ (by omega)];simp only[A0];rw[aQ (by omega)];simp only[A0];rw[aQ ⟨by omega,trivial,by omega,trivial⟩];simp only[A0];rw[aQ (by simp only[B1,B7,F1];omega)];rfl
theorem AG(n:ah):∀(es:List Int)(i:Nat)(v:Int)(acc l:List Int),bH (pG n) (fun a=>some a.2) i es (v,acc)=some l->∃t,l=acc++t
 |[],i,v,acc,l,h=>⟨[],by simp_all [bH]⟩
 | e :: es, i, v, acc, l, h => by
   simp only[bH,pG] at h;split at h
   ·rename_i a ha;split at ha
    ·cases ha
    ·cases ha;obtain⟨t,ht⟩:=AG n es (i+1) _ _ l h;exact⟨cT n e v::t,by rw[ht];simp⟩
   ·rename_i b hb;split at hb
    ·cases hb;cases h
    ·cases hb
def oo{n:ah}(hn:bM n=true){r:aj}{l:List Int}(h:jD n r=some l):(0<=r.N/\r.N<(n.N.length:Int))/\(0<=fE n r/\fE n r<(n.N.length:Int))/\r.N≠fE n r:=by
 obtain⟨g1,g2,g3,g4,g5⟩:=vB (za hn) h;have h':=h;unfold jD at h';split at h'
 ·cases h'
 ·rename_i hc;simp only[I3,B3,decide_eq_true_eq,not_or] at hc;obtain⟨t,rfl⟩:=AG n _ _ _ _ _ h';have ht:0<t.length:=by rw[B1,B7] at g3;omega
  have e:fE n r=gz ([r.N]++t) t.length:=by
   unfold fE;rw[h];simp
  have hm:([r.N]++t)[t.length]?=some (fE n r):=by rw[e];exact Ar (by simp)
  have ht':∃k,t.length=k+1:=⟨t.length-1,by omega⟩;obtain⟨k,hk⟩:=ht';have hmt:fE n r∈t:=by
   rw[hk] at hm;exact A3 (by simpa using hm)
  refine⟨g2 _ (by simp),g2 _ (by simp[hmt]),fun e'=>?_⟩
  grind
def jo(n:ah)(s d:Int):List aj×Bool:=(zN n s d).getD ([],false)
def Px{n:ah}(hn:bM n=true){s d:Int}(hsd:s≠d)(hs:0<=s/\s<(n.N.length:Int))(hd:0<=d/\d<(n.N.length:Int)):Sh n s d=some true:=by
 have hb:=de hn;have hz:=gB hn;unfold Sh;rw[sy n (by omega),hn];simp only[A0,cond_true];rw[aC (by omega) (by omega),jv,jv,cx.2 (show(0:Int)<=s/\s<=(n.N.length:Int)-1 by omega),cx.2 (show(0:Int)<=d/\d<=(n.N.length:Int)-1 by omega)];simp only[A0,cond_true];rw[bne_iff_ne.2 hsd]
def qV{n:ah}(hn:bM n=true){s d:Int}(hsd:s≠d)(hs:0<=s/\s<(n.N.length:Int))(hd:0<=d/\d<(n.N.length:Int)):
 zN n s d=some (jo n s d)/\PE n s d=some ((jo n s d).2,(jo n s d).1)/\(∀r∈(jo n s d).1,RtV n s r)/\(jo n s d).1.length<=200/\((jo n s d).2=false->(jo n s d).1=[]):=by
 have hz:=gB hn;obtain⟨L,hL⟩:=zu hn (by omega) hsd hs hd;obtain⟨K,hK⟩:=acs hn hsd hs;unfold PE jo;rw[Px hn hsd hs hd];simp only[A0,A5,cond_false];by_cases h:(lw n s d).length<=200
 ·rw[if_pos h] at hL hK;obtain⟨a1,a2,a3⟩:=hL;obtain⟨b1,b2,b3⟩:=hK;have e:L=K:=EK L K (a2.trans b2.symm) a3 b3;subst e;rw[a1,b1];exact⟨rfl,rfl,fun r hr=>tH hn hsd hs _ _ _ (La hn hs) r (a2.mem_iff.1 hr),by show L.length<=200;rw[a2.length_eq];exact h,fun h=>by cases h⟩
 simp_all
def okR(L:List af)(D:List Int)(c:Int)(r:aj):Bool:=fA r.F D&&decide (0<(kN (gQ L r.F) c).length)
def wg(L:List af)(y:af)(r:aj):af:=⟨y.Id,r,⟨(kN (gQ L r.F) y.N.F).headD 0,y.N.F⟩⟩
def plX(n:ah)(L:List af)(D:List Int)(y:af):Option af:=
 if fA y.F.F D&&!(L.any fun o=>cH o.F o.N y.F y.N) then some y
 else(dv (fun _ r=>okR L D y.N.F r) (jo n y.F.N (fE n y.F)).1).map fun q=>wg L y q.2
def rsP(n:ah)(L H:List af)(D:List Int)(y:af):ae×Bool:=
 match plX n L D y with|some x=>(⟨⟨n,nA L x⟩,H,D⟩,true)|none=>(⟨⟨n,L⟩,H,D⟩,false)
theorem XB{L:List af}{y:af}(h:y.Id∉L.map (·.Id)):rM L y=L.any fun o=>cH o.F o.N y.F y.N:=by
 unfold rM
 grind
theorem Tv{α:Type}(l:List α):decide ((0:Int)<(l.length:Int))=decide (0<l.length):=by
 simp_all
structure StL(n:ah)(L:List af):Prop where
 net:bM n=true
 ls:kx n L
 b:LsB L
def Vd{m c:Int}(h:0<(kN m c).length):∃l,kN m c=(kN m c).headD 0::l:=by
 cases e:kN m c with
 |nil=>rw[e] at h;cases h
 |cons x l=>exact⟨l,rfl⟩
def Ox{n:ah}(hn:bM n=true){s:Int}{r:aj}(h:RtV n s r):PG n r:=by
 obtain⟨l,hl⟩:=F6.1 h.v;exact(vP hn hl).1
def yq{n:ah}{y:af}(hy:dW n y=true):(0<=y.N.N/\y.N.N+y.N.F<=24)/\1<=y.N.F/\y.N.F<=24:=by
 unfold dW oa at hy;simp only[A6,cx] at hy;omega
def Dx{n:ah}{L H:List af}{D:List Int}(hS:StL n L)(hH:kx n H)(hD:D.length<=1048576){k:Nat}{y:af}(hf:gN H y.Id=some (k,y))(hy:dW n y=true)(hno:y.Id∉L.map (·.Id)):
 JZ ⟨⟨n,L⟩,H,D⟩ y.Id=some (rsP n L H D y):=by
 have hz:=gC hS.ls.1 hS.ls.2;have hzh:=gC hH.1 hH.2;have hzn:=gB hS.net;have hb:=de hS.net;have h12:=hS.ls.1;have hH12:=hH.1;have hyl:=iA hS.net hy;obtain⟨hk,_⟩:=qF hf;obtain⟨l,hl⟩:=jK hy;obtain⟨s1,s2,s3⟩:=oo hS.net hl;have hc:=(yq hy).2;obtain⟨r1,r2,r3,r4,r5⟩:=qV hS.net s3 s1 s2;have hyf:=hyl.r.len;unfold JZ;rw[di ⟨⟨n,L⟩,H,D⟩ (by dsimp only;omega) (by dsimp only;omega) (by dsimp only;omega) hD,tE ⟨⟨n,L⟩,H,D⟩ y.Id (by dsimp only;omega)];have hfi:iL H y.Id=(k:Int):=by unfold iL;rw[hf]
 simp only[A0,hfi,aO,hk];rw[yZ (n:=n) ⟨⟨n,L⟩,H,D⟩ hS.ls y hyl hD];simp only[A0,XB hno];unfold rsP plX;rcases bt (fA y.F.F D&&!(L.any fun o=>cH o.F o.N y.F y.N)) with e|e
 ·rw[e,cond_true,if_pos rfl,qf hS.net hS.ls (by omega)];rfl
 ·rw[e,cond_false,if_neg (by simp),wS hS.net (by omega) hl];simp only[A0];rw[r1];simp only[A0];rcases bt (jo n y.F.N (fE n y.F)).2 with eo|eo
  ·rw[eo,A5,cond_false];rw[cN (f:=Iy ⟨⟨n,L⟩,H,D⟩ y.Id ⟨⟨n,L⟩,H,D⟩ y (jo n y.F.N (fE n y.F))) (jo n y.F.N (fE n y.F)).1 (fun _ r=>okR L D y.N.F r)
    (fun _ r=>((⟨⟨n,nA L (wg L y r)⟩,H,D⟩:ae),true)) () (fun i r hi _=>by
     have hlt:=(A1.1 hi).1;have hrv:=r3 r (A3 hi);have hri:=Ox hS.net hrv;have hrl:=hri.len;obtain⟨q,q1,_,q3⟩:=lR r.F D hrl hD;simp only[Iy,decide_eq_true (show(i:Int)<((jo n y.F.N (fE n y.F)).1.length:Int) by omega),cond_true];rw[aQ (by omega)];simp only[A0,A4,hi,q1,xp q3];rw[aC (n:=(i:Int)+1) (by omega) (by omega)];unfold okR;rcases bt (fA r.F D) with e1|e1
     ·rw[e1,A5,cond_false,zG (by omega) hS.ls (by omega) hrv.b.2.1];simp only[A0,A9];rw[DC (aeo hS.ls hS.b r.F) hc];simp only[A0];by_cases e2:0<(kN (gQ L r.F) y.N.F).length
      ·rw[decide_eq_true e2,if_pos rfl];obtain⟨t,ht⟩:=Vd e2;unfold wg;rw[ht];simp only[cond_true,List.headD_cons];rw[qf hS.net hS.ls (by dsimp only;omega)];rfl
      ·rw[decide_eq_false e2,if_neg (by simp)];have:kN (gQ L r.F) y.N.F=[]:=List.eq_nil_of_length_eq_zero (by omega);rw[this];rfl
     ·rw[e1,B5,cond_true,H4,if_neg (by simp)];rfl) (by simp[Iy]) (by omega)]
   cases dv (fun _ r=>okR L D y.N.F r) (jo n y.F.N (fE n y.F)).1<;>rfl
  ·rw[eo,B5,cond_true,r5 eo];rfl
def vg{r:ae}(z1:aR r.F.F<=1048576)(z2:aW r.F.N<=1048576)(z3:aW r.N<=1048576)(z4:r.L.length<=1048576):li r=some r:=by
 unfold li M_t;rw[gT _ z1 z2,jE _ z3,aQ (by omega)];rfl
def Dh{n:ah}{L H:List af}{D:List Int}(hS:StL n L)(hD:D.length<=1048576){y:af}(hy:dW n y=true):
 Kw ⟨⟨n,L⟩,H,D⟩ y=some (match plX n L D y with|some x=>(x,true)|none=>(⟨0,⟨0,[]⟩,⟨0,0⟩⟩,false)):=by
 have hb:=de hS.net;have h12:=hS.ls.1;have hyl:=iA hS.net hy;obtain⟨l,hl⟩:=jK hy;obtain⟨s1,s2,s3⟩:=oo hS.net hl;have hc:=(yq hy).2;obtain⟨r1,r2,r3,r4,r5⟩:=qV hS.net s3 s1 s2;have hyf:=hyl.r.len;unfold Kw plX;rw[kS y.F D (by omega) hD];simp only[A0,J3];have e0:(cond (fA y.F.F D) ((yE (⟨n,L⟩:aB) y.F).bind fun rZ3=>(rJ y.N).bind fun rZ4=>some ((bits .and .i64 rZ3 rZ4)==0)) (some false):Option Bool)=some (fA y.F.F D&&!(L.any fun o=>cH o.F o.N y.F y.N)):=by
  rw[pe (p:=⟨n,L⟩) hS.ls y.F hyf,jN hyl.b];simp only[A0];rw[pF hS.ls hyl]
  grind
 rw[e0];simp only[A0];rcases bt (fA y.F.F D&&!(L.any fun o=>cH o.F o.N y.F y.N)) with e|e
 ·rw[e,cond_true,if_pos rfl,jB y (by omega)];rfl
 ·rw[e,cond_false,if_neg (by simp),Vv hS.net (by omega) hl];simp only[A0];rw[r2];simp only[A0];rcases bt (jo n y.F.N (fE n y.F)).2 with eo|eo
  ·rw[cN (f:=Gz ⟨⟨n,L⟩,H,D⟩ y ((jo n y.F.N (fE n y.F)).2,(jo n y.F.N (fE n y.F)).1)) (jo n y.F.N (fE n y.F)).1 (fun _ r=>okR L D y.N.F r)
    (fun _ r=>(wg L y r,true)) () (fun i r hi _=>by
     have hlt:=(A1.1 hi).1;have hrv:=r3 r (A3 hi);have hri:=Ox hS.net hrv;have hrl:=hri.len;simp only[Gz,decide_eq_true (show(i:Int)<((jo n y.F.N (fE n y.F)).1.length:Int) by omega),cond_true,eo,A0];rw[aQ (by omega)];simp only[A0,A4,hi];rw[kS r D (by omega) hD,aC (n:=(i:Int)+1) (by omega) (by omega)];simp only[A0];unfold okR;rcases bt (fA r.F D) with e1|e1
     ·rw[e1,A5,cond_false,pe (p:=⟨n,L⟩) hS.ls r hrl];simp only[A0,A9];rw[Si hc];simp only[A0,Tv];by_cases e2:0<(kN (gQ L r.F) y.N.F).length
      ·rw[decide_eq_true e2,if_pos rfl,cond_true];obtain⟨t,ht⟩:=Vd e2;unfold wg Jy M_t;rw[aQ (by omega)];simp only[A0];rw[aQ (by omega),ht];rfl
      ·rw[decide_eq_false e2,if_neg (by simp)];rfl
     ·rw[e1,B5,cond_true,H4,if_neg (by simp)];rfl) (by simp[Gz]) (by omega)]
   grind
  ·rw[r5 eo,eo];rfl
def vX{n:ah}{L H:List af}{D:List Int}(hS:StL n L)(hH:kx n H)(hD:D.length<=1048576){k:Nat}{y:af}(hk:H[k]?=some y)(hy:dW n y=true)(hp:∀x,plX n L D y=some x->x.F.F.length<=20):
 SA (k:Int) n.N n.F L H D=some ((rsP n L H D y).2,n.N,n.F,(rsP n L H D y).1.F.N,H,D,n.N,n.F,L,H,D):=by
 have hz:=gC hS.ls.1 hS.ls.2;have hzh:=gC hH.1 hH.2;have hzn:=gB hS.net;have hlt:=(A1.1 hk).1;have hH12:=hH.1;unfold SA;rw[aQ (by omega)];simp only[A0,A4,hk];rw[show Kw (⟨(⟨(⟨n.N,n.F⟩:ah),L⟩:aB),H,D⟩:ae) y=_ from Dh hS hD hy];simp only[A0];rw[show li (⟨(⟨(⟨n.N,n.F⟩:ah),L⟩:aB),H,D⟩:ae)=_ from vg (r:=⟨⟨n,L⟩,H,D⟩) (by dsimp only;omega) (by dsimp only;omega) (by dsimp only;omega) hD];simp only[A0];unfold rsP;cases e:plX n L D y with
 |none=>rfl
 | some x =>
   simp only[cond_true];rw[PT hS.net hS.ls (hp x e)];rfl
end Vs

namespace Vs
open Go
def kR(L:List af)(x:af):(nA L x).Perm (x::L):=by
 unfold nA;rw[G4,I5];refine List.perm_middle.trans ?_;rw[C1]
structure StH(n:ah)(H L:List af):Prop where
 st:StL n L
 nd:(L.map (·.Id)).Nodup
 sub:∀x∈L,x.Id∈H.map (·.Id)
theorem xT{α:Type}[BEq α][LawfulBEq α]:∀(xs ys:List α),xs.Nodup->(∀x∈xs,x∈ys)->xs.length<=ys.length
 |[],_,_,_=>E3 _
 | x :: xs, ys, hn, hs => by
   obtain⟨h1,h2⟩:=F9.1 hn;have hx:=hs x (by simp);have:=xT xs (ys.erase x) h2 fun z hz=>(List.mem_erase_of_ne fun e=>h1 (by rw[<-e];exact hz)).2 (hs z (by simp[hz]));have hp:0<ys.length:=List.length_pos_of_mem hx;rw[H8 hx] at this;simp only[A8];omega
def QK{n:ah}{L:List af}{D:List Int}(hS:StL n L){y x:af}(hy:dW n y=true)(h:plX n L D y=some x):x.Id=y.Id/\gh n x/\x.N.N+x.N.F<=24:=by
 have hb:=yq hy;obtain⟨l,hl⟩:=jK hy;obtain⟨s1,s2,s3⟩:=oo hS.net hl;obtain⟨r1,r2,r3,r4,r5⟩:=qV hS.net s3 s1 s2;unfold plX at h;split at h
 ·cases h;exact⟨rfl,iA hS.net hy,hb.1.2⟩
 ·rw[C0] at h;obtain⟨q,hq,rfl⟩:=h;obtain⟨q1,q2,_⟩:=cw.1 hq;have hrv:=r3 q.2 (A3 q1);unfold okR at q2;simp only[A6,decide_eq_true_eq] at q2;obtain⟨t,ht⟩:=Vd q2.2;have hr:=EU (x:=(kN (gQ L q.2.F) y.N.F).headD 0) hb.2 (by rw[ht];simp);refine⟨rfl,⟨Ox hS.net hrv,?_⟩,hr.2⟩;show kJ ⟨_,_⟩;unfold kJ;dsimp only;omega
def aei{n:ah}{H L:List af}{D:List Int}(hS:StH n H L)(hH:H.length<=12){y x:af}(hm:y∈H)(hy:dW n y=true)(hno:y.Id∉L.map (·.Id))(h:plX n L D y=some x):StH n H (nA L x):=by
 obtain⟨h1,h2,h3⟩:=QK hS.st hy h;have hp:=kR L x;have hin:∀z,z∈nA L x->z=x\/z∈L:=fun z hz=>by
  have:=hp.mem_iff.1 hz;simpa using this
 have hsub:∀z∈nA L x,z.Id∈H.map (·.Id):=fun z hz=>by
  rcases hin z hz with rfl|hz
  ·rw[h1];exact F4 hm
  ·exact hS.sub z hz
 have hnd:((nA L x).map (·.Id)).Nodup:=by
  refine((hp.map (·.Id)).nodup_iff).2 ?_;rw[F7,F9,h1];exact⟨hno,hS.nd⟩
 have hl:=xT ((nA L x).map (·.Id)) (H.map (·.Id)) hnd fun i hi=>by
  obtain⟨z,hz,rfl⟩:=G5.1 hi;exact hsub z hz
 rw[D9,D9] at hl;exact⟨⟨hS.st.net,⟨by omega,fun z hz=>(hin z hz).elim (fun e=>e▸h2) (hS.st.ls.2 z)⟩,fun z hz=>(hin z hz).elim (fun e=>e▸h3) (hS.st.b z)⟩,hnd,hsub⟩
def rk{p:aB}(h:kL p):(p.N.map (·.Id)).Nodup:=by
 refine nv (wa fun i a b ha hb=>?_);rw[B0,C0] at ha hb;obtain⟨x,hx,rfl⟩:=ha;obtain⟨y,hy,rfl⟩:=hb;exact h.asc i x y hx hy
def SP{L:List af}{id:Int}{q:Nat×af}(h:gN L id=some q):q.2∈L/\q.2.Id=id/\L[q.1]?=some q.2:=by
 obtain⟨i,y⟩:=q;obtain⟨h1,h2⟩:=qF h;exact⟨A3 h1,h2,h1⟩
def MY{L:List af}{id:Int}:gN L id=none↔id∉L.map (·.Id):=by
 unfold gN;rw[eu];constructor
 ·intro h hm;obtain⟨z,hz,e⟩:=G5.1 hm;obtain⟨j,hj⟩:=B4 hz;have:=h j z hj;rw[e] at this;simp at this
 ·intro h j z hj;simp only[beq_eq_false_iff_ne];exact fun e=>h (e▸F4 (A3 hj))
theorem KW{L:List af}{id:Int}:iL L id<0↔id∉L.map (·.Id):=by
 rw[<-MY];unfold iL;cases h:gN L id with
 |none=>simp
 |some q=>simp
def YO{r:ae}(h:cO r=true):StH r.F.F r.N r.F.N:=by
 have hR:=jl h;refine⟨⟨hR.pl.net,⟨hR.pl.len,hR.pl.lgt⟩,fun o ho=>(yq (hR.pl.ok o ho)).1.2⟩,rk hR.pl,fun x hx=>?_⟩;unfold cO at h;simp only[A6,B3,B9] at h;have:=h.2 x hx;unfold lT at this;cases e:gN r.N x.Id with
 |none=>rw[e] at this;simp at this
 | some q =>
   obtain⟨h1,h2,_⟩:=SP e;rw[<-h2];exact F4 h1
theorem Ek{α:Type}(p:α->Bool)(g:α->Int):∀(xs:List α)(i:Nat)(a:List Int),bH (fun(_:Nat)(x:α)(a:List Int)=>(.inl (if p x then a++[g x] else a):List Int⊕List Int)) (fun a=>a) i xs a=a++(xs.filter p).map g
 |[],_,a=>by simp[bH]
 | x :: xs, i, a => by
   simp only[bH];rw[Ek p g xs (i+1)];rcases bt (p x) with e|e
   ·rw[if_pos e,List.filter_cons_of_pos e];simp
   ·rw[if_neg (by rw[e];simp),List.filter_cons_of_neg (by rw[e];simp)]
def YW(r:ae):wtL r=(r.N.filter (wtB r)).map (·.Id):=by
 unfold wtL;rw[Ek];rfl
def WR(n:ah)(L H:List af)(D:List Int)(y:af):(rsP n L H D y).1.F.F=n/\(rsP n L H D y).1.N=H/\(rsP n L H D y).1.L=D:=by
 unfold rsP;cases plX n L D y<;>exact⟨rfl,rfl,rfl⟩
def z_st{n:ah}{H L:List af}{D:List Int}(hS:StL n L)(hH:kx n H)(hD:D.length<=14):bc ⟨⟨n,L⟩,H,D⟩<=1048576:=by
 have h1:=gB hS.net;have h2:=gC hS.ls.1 hS.ls.2;have h3:=gC hH.1 hH.2;show aR n+aW L+aW H+D.length<=1048576;omega
end Vs

namespace Vs
open Go
def raS(n:ah)(H:List af)(D:List Int)(_:Nat)(y:af)(s:List af×List Int):List af×List Int:=
 ((rsP n s.1 H D y).1.F.N,if(rsP n s.1 H D y).2 then s.2++[y.Id] else s.2)
structure RaI(n:ah)(H W:List af)(i:Nat)(s:List af×List Int):Prop where
 st:StH n H s.1
 no:∀j y,i<=j->W[j]?=some y->y.Id∉s.1.map (·.Id)
 out:s.2.length<=i
def FA{n:ah}{H W:List af}{D:List Int}(hH:H.length<=12)(hW:(W.map (·.Id)).Nodup){i:Nat}{y:af}(hi:W[i]?=some y)(hm:y∈H)(hy:dW n y=true){s:List af×List Int}(h:RaI n H W i s):RaI n H W (i+1) (raS n H D i y s):=by
 have hno:=h.no i y (B6 _) hi;have hout:=h.out;have hlen:(raS n H D i y s).2.length<=i+1:=by
  unfold raS;dsimp only;split
  ·rw[B1,B7];omega
  ·omega
 unfold raS rsP at*
 cases e:plX n s.1 D y with
 | none =>
   rw[e] at hlen;exact⟨h.st,fun j z hj hz=>h.no j z (by omega) hz,hlen⟩
 | some x =>
   rw[e] at hlen;refine⟨aei h.st hH hm hy hno e,fun j z hj hz hc=>?_,hlen⟩;obtain⟨u,hu,hui⟩:=G5.1 hc;have:=(kR s.1 x).mem_iff.1 hu;rw[C2] at this;rcases this with rfl|hu
   ·have hx:=(QK h.st.st hy e).1;have h1:(W.map (·.Id))[j]?=some y.Id:=by rw[B0,hz];simp[<-hui,hx]
    have h2:(W.map (·.Id))[i]?=some y.Id:=by rw[B0,hi];rfl
    grind [List.getElem?_eq_some_iff,List.getElem_inj]
   ·exact h.no j z (by omega) hz (hui▸F4 hu)
def Fc{L:List af}(hn:(L.map (·.Id)).Nodup){i:Nat}{x:af}(h:L[i]?=some x):gN L x.Id=some (i,x):=by
 unfold gN;refine cw.2 ⟨h,by simp,fun j y hj hy=>?_⟩;have hne:y.Id≠x.Id:=by
  intro e;have h1:(L.map (·.Id))[j]?=some x.Id:=by rw[B0,hy];simp[e]
  have h2:(L.map (·.Id))[i]?=some x.Id:=by rw[B0,h];rfl
  obtain⟨p1,p2⟩:=A1.1 h1;obtain⟨q1,q2⟩:=A1.1 h2;have:=(F2 hn).1 (p2.trans q2.symm);omega
 simpa using hne
def raW(r:ae):List af:=r.N.filter (wtB r)
def raF(r:ae):List af×List Int:=cK (raS r.F.F r.N r.L) 0 (raW r) (r.F.N,[])
def raP(r:ae):ae×List Int×Bool:=if cO r then(⟨⟨r.F.F,(raF r).1⟩,r.N,r.L⟩,(raF r).2,true) else(sa,[],false)
structure RaR(r:ae):Prop where
 R:yh r
 nd:(r.N.map (·.Id)).Nodup
 wn:((raW r).map (·.Id)).Nodup
 wh:∀y∈raW r,y∈r.N
 wl:(raW r).length<=12
 i0:RaI r.F.F r.N (raW r) 0 (r.F.N,[])
def Sz{r:ae}(h:cO r=true):RaR r:=by
 have hR:=jl h;have hnd:=rk hR.hm;have hsub:(raW r).Sublist r.N:=F5;refine⟨hR,hnd,hnd.sublist (hsub.map _),fun y hy=>hsub.subset hy,D3 hsub.length_le hR.hm.len,YO h,fun j y _ hj=>?_,B6 _⟩;have:=(E5.1 (A3 hj)).2
 simp_all [KW,of_decide_eq_true,wtB]
def oQ(r:ae)(hz:bc r<=1048576):Le r=some (raP r):=by
 obtain⟨z1,z2,z3,z4⟩:=mT hz;unfold Le raP;rw[eT r hz];rcases bt (cO r) with e|e
 ·have hA:=Sz e;have hR:=hA.R;have hwl:=hA.wl;rw[e,if_pos rfl,A0,A5,cond_false,di r z1 z2 z3 z4,A0,vk r hR.hm.len hR.pl.len,A0,YW];have key:=dp (f:=Bn ((raW r).map (·.Id))) (raW r) (fun i(s:List af×List Int)=>((i:Int),s.2,r.F.F.N,r.F.F.F,s.1,r.N,r.L)) (raS r.F.F r.N r.L)
   (fun s=>(s.2,r.F.F.N,r.F.F.F,s.1,r.N,r.L)) (fun i s=>RaI r.F.F r.N (raW r) i s) (fun i s y hi hI=>by
    have hlt:=(A1.1 hi).1;have hm:=hA.wh y (A3 hi);have hy:=hR.hm.ok y hm;have ho:=hI.out;refine⟨FA hR.hm.len hA.wn hi hm hy hI,?_⟩;obtain⟨k,hk⟩:=B4 hm;have hmi:((raW r).map (·.Id))[i]?=some y.Id:=by rw[B0,hi];rfl
    simp only[Bn,D9,decide_eq_true (show(i:Int)<((raW r).length:Int) by omega),cond_true];rw[aQ (by omega)];simp only[A0,A4,hmi];rw[show JZ (⟨(⟨(⟨r.F.F.N,r.F.F.F⟩:ah),s.1⟩:aB),r.N,r.L⟩:ae) y.Id=_ from
     Dx (n:=r.F.F) (L:=s.1) (H:=r.N) (D:=r.L) hI.st.st ⟨hR.hm.len,hR.hm.lgt⟩ z4 (Fc hA.nd hk) hy (hI.no i y (B6 _) hi)]
    obtain⟨a1,a2,a3⟩:=WR r.F.F s.1 r.N r.L y;simp only[A0,a1,a2,a3];rw[aC (n:=(i:Int)+1) (by omega) (by omega)];unfold raS;rcases bt (rsP r.F.F s.1 r.N r.L y).2 with eb|eb
    ·rw[eb,cond_true,if_pos rfl]
     grind [aQ,bnd]
    simp_all) (fun s _=>by simp[Bn]) (r.F.N,[]) hA.i0 (by omega)
  rw[show aY (Bn ((r.N.filter (wtB r)).map (·.Id))) N0 (0,[],r.F.F.N,r.F.F.F,r.F.N,r.N,r.L)=_ from key];rfl
 ·rw[e,if_neg (by simp)];rfl
theorem Dz(r:ae):∀(xs:List af)(k:Nat),r.N.drop k=xs->(wtX r k xs).length=(xs.filter (wtB r)).length/\∀(i:Nat)(y:af),(xs.filter (wtB r))[i]?=some y->∃j:Nat,(wtX r k xs)[i]?=some (j:Int)/\r.N[j]?=some y
 |[],k,_=>⟨rfl,fun i y h=>by simp at h⟩
 | x :: xs, k, hd => by
   have hx:r.N[k]?=some x:=by have:=congrArg (fun l=>l[0]?) hd;simpa using this
   obtain⟨h1,h2⟩:=Dz r xs (k+1) (by rw[<-K4,hd];rfl);unfold wtX
   grind
end Vs

namespace Vs
open Go
def vn{f:Int->Option (Int⊕(Unit⊕Bool))}(a b:List Int)(hl:a.length<=1048576)(hab:a.length=b.length)
 (hf:∀s,f s=cond (decide (s<(a.length:Int))) ((bG a s).bind fun y=>(bG b s).bind fun z=>cond (y !=z) (some (.inr (.inr false))) (some (.inl (A7 .i64 (s+1))))) (some (.inr (.inl ())))):
 aY f N0 0=some (if a=b then .inl () else .inr false):=by
 rw[dY (f:=f) a (fun i x=>x !=(b[i]?).getD 0) (.inr false) (.inl ()) (fun i x hx _=>by
  have hlt:=(A1.1 hx).1;have hb:b[i]?=some b[i]:=A2 (by omega);rw[hf,decide_eq_true (show(i:Int)<(a.length:Int) by omega),cond_true,aO,aO,hx,hb];simp only[A0,Option.getD_some];rw[aC (n:=(i:Int)+1) (by omega) (by omega)];by_cases e:x=b[i]
  ·subst e;simp
  ·have e':(x !=b[i])=true:=by simpa using e
   simp only[e',cond_true,if_true]) (by rw[hf];simp) (by omega)]
 by_cases e:a=b
 ·subst e;have:fM (fun i x=>x !=(a[i]?).getD 0) a=false:=cy.2 fun i x hx=>by simp[hx]
  rw[this];simp
 ·have:fM (fun i x=>x !=(b[i]?).getD 0) a=true:=by
   cases h:fM (fun i x=>x !=(b[i]?).getD 0) a with
   |true=>rfl
   | false =>
     exfalso;refine e (List.ext_getElem hab fun i h1 h2=>?_);have:=cy.1 h i a[i] (A2 h1);rw[A2 h2] at this;simpa using this
  rw[this,if_neg e];rfl
def Mr(a b:List Int)(hl:a.length<=1048576):Gy a b=some (decide (a=b)):=by
 unfold Gy;by_cases h:a.length=b.length
 ·rw[show((a.length:Int) !=(b.length:Int))=false by simp[h],cond_false,vn (f:=Tx a b) a b hl h fun s=>rfl]
  grind
 ·rw[show((a.length:Int) !=(b.length:Int))=true by simp;omega,cond_true,decide_eq_false fun e=>h (by rw[e])]
def Me(a b:List Int)(hl:a.length<=1048576):KZ a b=some (decide (a=b)):=by
 unfold KZ;by_cases h:a.length=b.length
 ·rw[show((a.length:Int) !=(b.length:Int))=false by simp[h],cond_false,vn (f:=Um a b) a b hl h fun s=>rfl]
  grind
 ·rw[show((a.length:Int) !=(b.length:Int))=true by simp;omega,cond_true,decide_eq_false fun e=>h (by rw[e])]
def sS(x y:af):Bool:=x.F.N==y.F.N&&(decide (x.F.F=y.F.F)&&(x.N.N==y.N.N&&x.N.F==y.N.F))
def AB(x y:af)(hid:x.Id=y.Id)(hl:x.F.F.length<=1048576):RD x y=some (sS x y):=by
 unfold RD Yh sS;rw[show(x.Id==y.Id)=true by simp[hid],cond_true,Me _ _ hl]
 grind
def rvS(D:List Int)(y:af)(i:Nat)(s:List af×List Int):List af×List Int:=
 match s.1[i]? with
 |some x=>if !sS x y&&(fA y.F.F D&&!rM s.1 y) then(s.1.set i y,s.2++[y.Id]) else s
 |none=>s
def rvF(D:List Int):List af->Nat->List af×List Int->List af×List Int
 |[],_,s=>s
 |y::ys,i,s=>rvF D ys (i+1) (rvS D y i s)
def hmL(H L:List af):List af:=H.filter fun y=>decide (y.Id∈L.map (·.Id))
structure RvI(n:ah)(ids:List Int)(k:Nat)(s:List af×List Int):Prop where
 ls:kx n s.1
 ids:s.1.map (·.Id)=ids
 out:s.2.length<=k
def RvI.len{n:ah}{ids:List Int}{k:Nat}{s:List af×List Int}(h:RvI n ids k s):s.1.length=ids.length:=by rw[<-h.ids,D9]
def RvI.step{n:ah}{ids D:List Int}{k:Nat}{s:List af×List Int}(h:RvI n ids k s){y:af}(hy:gh n y){i:Nat}(hi:ids[i]?=some y.Id):RvI n ids (k+1) (rvS D y i s):=by
 unfold rvS;split
 ·rename_i x hx;split
  ·refine⟨⟨by rw[G0];exact h.ls.1,fun o ho=>?_⟩,?_,by simp only[B1,A8,B8];have:=h.out;omega⟩
   ·rcases F3 ho with h1|h1
    ·exact h.ls.2 o h1
    ·rw[h1];exact hy
   ·rw[L4,h.ids]
    grind [List.getElem?_eq_some_iff,List.set_getElem_self]
  ·exact⟨h.ls,h.ids,by have:=h.out;omega⟩
 ·exact⟨h.ls,h.ids,by have:=h.out;omega⟩
theorem NJ{L:List af}(hn:(L.map (·.Id)).Nodup){i:Nat}{x:af}(h:L[i]?=some x):gN L x.Id=some (i,x):=by
 unfold gN;refine cw.2 ⟨h,by simp,fun j y hj hy=>?_⟩;have hne:y.Id≠x.Id:=by
  intro e;have h1:(L.map (·.Id))[j]?=some x.Id:=by rw[B0,hy];simp[e]
  have h2:(L.map (·.Id))[i]?=some x.Id:=by rw[B0,h];rfl
  obtain⟨p1,p2⟩:=A1.1 h1;obtain⟨q1,q2⟩:=A1.1 h2;have:=(F2 hn).1 (p2.trans q2.symm);omega
 simpa using hne
def adn{L:List af}{id:Int}(h:id∉L.map (·.Id)):gN L id=none:=by
 unfold gN
 grind [eu,List.mem_of_getElem?]
def Gb{L:List af}(hn:(L.map (·.Id)).Nodup){i:Nat}{x y:af}(hx:L[i]?=some x)(hid:x.Id=y.Id):((L.eraseIdx i).any fun o=>cH o.F o.N y.F y.N)=rM L y:=by
 unfold rM;rw[C3,E1,E1];constructor
 ·rintro⟨o,ho,hc⟩;rw[List.mem_eraseIdx_iff_getElem?] at ho;obtain⟨j,hj,hjo⟩:=ho;refine⟨o,A3 hjo,?_⟩;have hne:o.Id≠y.Id:=by
   intro e;have h1:(L.map (·.Id))[j]?=some y.Id:=by rw[B0,hjo];simp[e]
   have h2:(L.map (·.Id))[i]?=some y.Id:=by rw[B0,hx];simp[hid]
   obtain⟨p1,p2⟩:=A1.1 h1;obtain⟨q1,q2⟩:=A1.1 h2;exact hj ((F2 hn).1 (p2.trans q2.symm))
  simp_all
 ·rintro⟨o,ho,hc⟩;rw[A6,bne_iff_ne] at hc
  grind [List.getElem?_of_mem,List.mem_eraseIdx_iff_getElem?]
def Tz{n:ah}(hnet:bM n=true){L:List af}(hL:kx n L)(hp:(L.map (·.Id)).Pairwise (·<·)){i:Nat}{x y:af}(hx:L[i]?=some x)(hid:x.Id=y.Id)(hy:gh n y):
 KL y.Id y.F.N y.N.N y.N.F n.N n.F (L.eraseIdx i) y.F.F=some (n.N,L.set i y,n.F,n.N,n.F,L.eraseIdx i,y.F.F):=by
 have hlt:=(A1.1 hx).1;have h12:=hL.1;have hle:(L.eraseIdx i).length=L.length-1:=by rw[List.length_eraseIdx,if_pos hlt]
 have hE:kx n (L.eraseIdx i):=⟨by omega,fun o ho=>hL.2 o (H9 ho)⟩;have hz:=gC hE.1 hE.2;have hzn:=gB hnet;have hid2:∀(j:Nat)(o:af),L[j]?=some o->(j<i->o.Id<y.Id)/\(i<j->y.Id<o.Id):=by
  intro j o hj;have hjl:=(A1.1 hj).1;have g1:(L.map (·.Id))[j]'(by simpa using hjl)=o.Id:=by rw[G9,(A1.1 hj).2]
  have g2:(L.map (·.Id))[i]'(by simpa using hlt)=y.Id:=by rw[G9,(A1.1 hx).2,hid]
  constructor
  ·intro h;have:=B2.1 hp j i (by simpa using hjl) (by simpa using hlt) h;rw[g1,g2] at this;exact this
  ·intro h;have:=B2.1 hp i j (by simpa using hlt) (by simpa using hjl) h;rw[g1,g2] at this;exact this
 unfold KL;rw[show ng (⟨(⟨n.N,n.F⟩:ah),L.eraseIdx i⟩:aB)=some ⟨n,L.eraseIdx i⟩ from gT ⟨n,L.eraseIdx i⟩ (by simpa using D3 hzn (by omega)) (by simp only;omega)];simp only[A0];obtain⟨b,hb,hq⟩:=dq (f:=SH y.Id (⟨n,L.eraseIdx i⟩:aB)) (fun s=>∃m:Nat,s=(m:Int)/\m<=i) (fun s=>i+1-s.toNat) (fun b=>b=(i:Int)) (fun s hI=>by
  obtain⟨m,rfl,hm⟩:=hI;simp only[SH];by_cases hml:m<(L.eraseIdx i).length
  ·rw[decide_eq_true (show(m:Int)<((L.eraseIdx i).length:Int) by omega),cond_true,aQ (by omega)];simp only[A0,A4];by_cases hmi:m<i
   ·left;have e:(L.eraseIdx i)[m]?=L[m]?:=List.getElem?_eraseIdx_of_lt hmi;have e2:L[m]?=some L[m]:=A2 (by omega);rw[e,e2];simp only[A0];rw[decide_eq_true ((hid2 m _ e2).1 hmi),cond_true,aC (n:=(m:Int)+1) (by omega) (by omega)];exact⟨_,rfl,⟨m+1,by simp,by omega⟩,by omega⟩
   ·right;obtain rfl:m=i:=by omega
    have e:(L.eraseIdx m)[m]?=L[m+1]?:=List.getElem?_eraseIdx_of_ge (B6 _);have e2:L[m+1]?=some L[m+1]:=A2 (by omega);rw[e,e2];simp only[A0];rw[decide_eq_false (by have:=(hid2 (m+1) _ e2).2 (by omega);omega),cond_false];exact⟨_,rfl,rfl⟩
  ·right;obtain rfl:m=i:=by omega
   rw[decide_eq_false (show¬(m:Int)<((L.eraseIdx m).length:Int) by omega),cond_false];exact⟨_,rfl,rfl⟩) N0 0 ⟨0,rfl,by omega⟩ (fj (by omega))
 rw[hb,hq];simp only[A0,A4,bnd];rw[aQ ⟨trivial,by omega,trivial,by omega⟩];simp only[A0];have s1:ca (L.eraseIdx i) 0 i=L.take i:=by
  rw[cB,E8,G6,H1 (by rw[D5];omega),K1,L3]
 have s2:ca (L.eraseIdx i) i ((L.eraseIdx i).length-i)=L.drop (i+1):=by
  rw[cB,D0 (by rw[F1];omega),G6,List.drop_append_of_le_length (by rw[D5];omega),List.drop_eq_nil_of_le (by rw[D5];omega),I4]
 have l1:(L.take i).length=i:=by rw[D5];omega
 have hgi:i<=(L.eraseIdx i).length:=by omega
 simp only[s1,s2];rw[aQ (by omega)];simp only[A0];have hc:=jB y (by have:=hy.r.len;omega);rw[show qj (⟨y.Id,(⟨y.F.N,y.F.F⟩:aj),(⟨y.N.N,y.N.F⟩:aX)⟩:af)=some y from hc];simp only[A0];rw[aQ (by omega)];simp only[A0];rw[aQ ⟨by omega,trivial,by omega,trivial⟩];simp only[A0];rw[aQ (by simp only[B1,A8,B8,F1];omega)];simp only[A0];rw[List.set_eq_take_append_cons_drop,if_pos hlt];simp
end Vs

namespace Vs
open Go
def wv{n:ah}(hnet:bM n=true){L:List af}(hL:kx n L)(i:Nat)(hi:i<L.length):
 NW 0 n.N.length 0 n.F.length 0 L.length (i:Int) n.N n.F L=some (n.N,L.eraseIdx i,n.F,n.N,n.F,L):=by
 have hz:=gC hL.1 hL.2;have hzn:=gB hnet;have h12:=hL.1;unfold NW;simp only[dJ,bnd];rw[show ng (⟨(⟨n.N,n.F⟩:ah),L⟩:aB)=some ⟨n,L⟩ from gT ⟨n,L⟩ (D3 hzn (by omega)) (by simp only;omega)];simp only[A0,A4];rw[aQ ⟨trivial,by omega,trivial,by omega⟩];have s1:ca L 0 i=L.take i:=by rw[cB];simp
 have s2:ca L (i+1) (L.length-(i+1))=L.drop (i+1):=by rw[cB,D0 (by rw[F1];omega)]
 have l1:(L.take i).length=i:=by rw[D5];omega
 rw[aC (n:=(i:Int)+1) (by omega) (by omega),show I8 ((i:Int)+1)=i+1 by omega];simp only[A0,s1,s2];rw[aQ (by omega)];simp only[A0];rw[aQ ⟨by omega,trivial,by omega,trivial⟩]
 grind [aQ,List.length_drop,List.eraseIdx_eq_take_drop_succ]
def rvT(n:ah)(j:Nat)(s:List af×List Int):Int×Nat×Nat×Nat×List Int×List ByteArray×List aw×List af:=((j:Int),n.N.length,n.F.length,s.1.length,s.2,n.N,n.F,s.1)
def PP{n:ah}{H:List af}{D ids:List Int}(hH:H.length<=12){j:Nat}{y:af}(hj:H[j]?=some y){s:List af×List Int}(hI:RvI n ids j s)(hno:y.Id∉ids):
 M_h H D (rvT n j s)=some (.inl (rvT n (j+1) s)):=by
 have hlt:=(A1.1 hj).1;have h12:=hI.ls.1;show M_h H D ((j:Int),n.N.length,n.F.length,s.1.length,s.2,n.N,n.F,s.1)=_;simp only[M_h,bnd,dJ];simp only[decide_eq_true (show(j:Int)<(H.length:Int) by omega),cond_true,aQ (show 0<=(j:Int)/\(j:Int)<(H.length:Int) by omega),A0,A4,hj];rw[nZ (⟨(⟨n.N,n.F⟩:ah),s.1⟩:aB) y.Id (by simp only;omega)];have e:iL s.1 y.Id=-1:=by unfold iL;rw[adn (by rw[hI.ids];exact hno)]
 simp only[A0,e];rw[aC (n:=(j:Int)+1) (by omega) (by omega)];rfl
def SS{n:ah}(hnet:bM n=true){H:List af}{D ids:List Int}(hH:H.length<=12)(hD:D.length<=1048576)(hp:ids.Pairwise (·<·)){j:Nat}{y:af}(hj:H[j]?=some y)(hy:gh n y){s:List af×List Int}(hI:RvI n ids j s){i:Nat}(hi:ids[i]?=some y.Id)(hjb:j<=12):
 M_h H D (rvT n j s)=some (.inl (rvT n (j+1) (rvS D y i s))):=by
 have hlt:=(A1.1 hj).1;have h12:=hI.ls.1;have hids:(s.1.map (·.Id))[i]?=some y.Id:=by rw[hI.ids];exact hi
 rw[B0,C0] at hids;obtain⟨x,hx,hid⟩:=hids;have hxl:=(A1.1 hx).1;have hnod:(s.1.map (·.Id)).Nodup:=by rw[hI.ids];exact hp.imp fun h=>by omega
 have hxin:=hI.ls.2 x (A3 hx);have hlen:(rvS D y i s).1.length=s.1.length:=by unfold rvS;rw[hx];simp only;split<;>simp
 show M_h H D ((j:Int),n.N.length,n.F.length,s.1.length,s.2,n.N,n.F,s.1)=_;rw[show rvT n (j+1) (rvS D y i s)=(((j+1:Nat):Int),n.N.length,n.F.length,s.1.length,(rvS D y i s).2,n.N,n.F,(rvS D y i s).1) by unfold rvT;rw[hlen]];simp only[M_h,bnd,dJ];simp only[decide_eq_true (show(j:Int)<(H.length:Int) by omega),cond_true,aQ (show 0<=(j:Int)/\(j:Int)<(H.length:Int) by omega),A0,A4,hj];rw[nZ (⟨(⟨n.N,n.F⟩:ah),s.1⟩:aB) y.Id (by simp only;omega)];have e:iL s.1 y.Id=(i:Int):=by unfold iL;rw[<-hid,NJ hnod hx]
 simp only[A0,e,A4];rw[decide_eq_false (show¬(i:Int)<0 by omega),cond_false,aQ (by omega)];simp only[A0,hx];rw[AB x y hid (by have:=hxin.r.len;omega),aC (n:=(j:Int)+1) (by omega) (by omega)];simp only[A0];unfold rvS;rw[hx];simp only;rcases bt (sS x y) with e1|e1
 ·rw[e1];rfl
 rw[e1];simp only[cond_false,kS y.F D (by have:=hy.r.len;omega) hD,A0,B5,A9];rcases bt (fA y.F.F D) with e2|e2
 ·have hE:kx n (s.1.eraseIdx i):=⟨D3 (List.length_eraseIdx_le ..) h12,fun o ho=>hI.ls.2 o (H9 ho)⟩;rw[e2];simp only[A5,cond_false,A9];rw[wv hnet hI.ls i hxl];simp only[A0];rw[pe (p:=(⟨(⟨n.N,n.F⟩:ah),s.1.eraseIdx i⟩:aB)) hE y.F hy.r.len,jN hy.b];simp only[A0];rw[pF hE hy,Gb hnod hx hid];rcases bt (rM s.1 y) with e3|e3
  ·rw[e3];rfl
  ·rw[e3];simp only[B5,cond_true,if_true,jB y (show y.F.F.length<=1048576 by have:=hy.r.len;omega),A0];rw[Tz hnet hI.ls (by rw[hI.ids];exact hp) hx hid hy];simp only[A0];rw[aQ (by have:=hI.out;omega)];simp only[A0,G0];rfl
 ·rw[e2];rfl
def ahs{H:List af}{p:af->Bool}{j:Nat}{y:af}(hj:H[j]?=some y)(hy:p y=true):(H.filter p)[((H.take j).filter p).length]?=some y:=by
 have hlt:=(A1.1 hj).1;have e:H=H.take j++y::H.drop (j+1):=by
  rw[<-(A1.1 hj).2,List.getElem_cons_drop,C1]
 grind
theorem FG{H:List af}{p:af->Bool}{j:Nat}{y:af}(hj:H[j]?=some y):((H.take (j+1)).filter p).length=((H.take j).filter p).length+if p y then 1 else 0:=by
 grind [List.getElem?_eq_some_iff,List.take_add_one,List.length_append]
def rvG(D ids:List Int)(_:Nat)(y:af)(a:Nat×(List af×List Int)):Nat×(List af×List Int):=if decide (y.Id∈ids) then(a.1+1,rvS D y a.1 a.2) else a
theorem sn(D ids:List Int):∀(H:List af)(k i:Nat)(s:List af×List Int),(cK (rvG D ids) k H (i,s)).2=rvF D (H.filter fun y=>decide (y.Id∈ids)) i s
 |[],_,_,_=>rfl
 | y :: H, k, i, s => by
   simp only[cK];rcases bt (decide (y.Id∈ids)) with e|e
   ·have e1:rvG D ids k y (i,s)=(i+1,rvS D y i s):=by unfold rvG;rw[if_pos e]
    rw[e1,sn D ids H (k+1),J6,if_pos e];rfl
   simp_all [if_neg,sn,J6,rvG]
theorem lZ{n:ah}{L:List af}(h:kL ⟨n,L⟩):(L.map (·.Id)).Pairwise (·<·):=by
 have step:=h.asc;simp only at step;clear h;induction L with
 |nil=>simp
 | cons a L ih =>
   have hL:=ih fun i x y hx hy=>step (i+1) x y (by simpa using hx) (by simpa using hy);rw[F7,G2];refine⟨fun z hz=>?_,hL⟩;cases L with
   |nil=>simp at hz
   | cons b L =>
     have h0:=step 0 a b rfl rfl
     grind [List.pairwise_cons]
def SL{n:ah}{H L:List af}(hH:kL ⟨n,H⟩)(hL:kL ⟨n,L⟩)(hsub:∀x∈L,∃q,gN H x.Id=some q):(hmL H L).map (·.Id)=L.map (·.Id):=by
 have a1:=lZ hH;refine xg _ _ ?_ (lZ hL) fun z=>?_
 ·grind [hmL]
 ·unfold hmL;simp only[G5,E5,decide_eq_true_eq];constructor
  ·grind
  ·rintro⟨x,hx,rfl⟩;obtain⟨⟨k,y⟩,hq⟩:=hsub x hx;obtain⟨f1,f2⟩:=qF hq
   grind
def rvP(r:ae):ae×List Int×Bool:=
 if cO r then(⟨⟨r.F.F,(rvF r.L (hmL r.N r.F.N) 0 (r.F.N,[])).1⟩,r.N,r.L⟩,(rvF r.L (hmL r.N r.F.N) 0 (r.F.N,[])).2,true) else(sa,[],false)
def En{r:ae}(h:cO r=true):∀x∈r.F.N,∃q,gN r.N x.Id=some q:=by
 unfold cO at h;simp only[A6,B3,B9] at h;intro x hx;have:=h.2 x hx;unfold lT at this
 grind
end Vs

namespace Vs
open Go
def QN{n:ah}{H:List af}(hH:kL ⟨n,H⟩){y:af}(hy:y∈H):∃k,gN H y.Id=some (k,y)/\H[k]?=some y/\k<H.length:=by
 grind [List.getElem?_of_mem,NJ,lZ,List.getElem?_eq_some_iff]
def Vm{n:ah}{r:ae}{ids:List Int}(hn:r.F.F=n)(hH:kL ⟨n,r.N⟩)(hD:r.L.length<=1048576)(hlen:r.F.N.length=ids.length){i:Nat}{y:af}(hyH:y∈r.N){s:List af×List Int}(hI:RvI n ids i s)(hi:ids[i]?=some y.Id)(hp:ids.Pairwise (·<·))(hjb:i<=12):
 Cq r ((i:Int),s.2,s.1)=some (.inl (((i+1:Nat):Int),(rvS r.L y i s).2,(rvS r.L y i s).1)):=by
 subst hn;have h12:=hI.ls.1;have hil:=(A1.1 hi).1;have hids:(s.1.map (·.Id))[i]?=some y.Id:=by rw[hI.ids];exact hi
 rw[B0,C0] at hids;obtain⟨x,hx,hid⟩:=hids;have hxl:=(A1.1 hx).1;have hxin:=hI.ls.2 x (A3 hx);have hyin:gh r.F.F y:=hH.lgt y hyH;have hH12:r.N.length<=12:=hH.len;obtain⟨k,hk1,hk2,hk3⟩:=QN hH hyH;have ek:iL r.N x.Id=(k:Int):=by unfold iL;rw[hid,hk1]
 simp only[Cq,decide_eq_true (show(i:Int)<(r.F.N.length:Int) by omega),cond_true,aQ (show 0<=(i:Int)/\(i:Int)<(s.1.length:Int) by omega),A0,A4,hx,bnd];rw[tE (⟨(⟨(⟨r.F.F.N,r.F.F.F⟩:ah),s.1⟩:aB),r.N,r.L⟩:ae) x.Id (by simp only;omega)];simp only[A0,ek,A4,aQ (show 0<=(k:Int)/\(k:Int)<(r.N.length:Int) by omega),hk2];have es:(cond (x.F.N==y.F.N) ((Gy x.F.F y.F.F).bind fun rZ12=>cond (rZ12) (some (x.N.N==y.N.N&&x.N.F==y.N.F)) (some false)) (some false):Option Bool)=some (sS x y):=by
  rw[Mr _ _ (by have:=hxin.r.len;omega)];unfold sS;cases x.F.N==y.F.N
  ·rfl
  ·simp only[cond_true,A0,A9];cases decide (x.F.F=y.F.F)<;>rfl
 rw[es];simp only[A0];rw[yZ (n:=r.F.F) (⟨(⟨(⟨r.F.F.N,r.F.F.F⟩:ah),s.1⟩:aB),r.N,r.L⟩:ae) hI.ls y hyin hD,aC (n:=(i:Int)+1) (by omega) (by omega)];simp only[A0];unfold rvS;rw[hx];simp only;have ey:(⟨x.Id,(⟨y.F.N,y.F.F⟩:aj),(⟨y.N.N,y.N.F⟩:aX)⟩:af)=y:=by rw[hid]
 rcases bt (sS x y) with e1|e1
 ·rw[e1];rfl
 rw[e1];simp only[B5,cond_true,A0,A9];rcases bt (fA y.F.F r.L&&!rM s.1 y) with e2|e2
 ·rw[e2];simp only[cond_true,if_true];unfold zO;rw[aQ (by have:=hyin.r.len;omega)];simp only[A0];rw[aQ (by have:=hI.out;omega)];simp only[A0,ey,hid];rfl
 ·rw[e2];rfl
theorem Be(D:List Int):∀(ys:List af)(i:Nat)(s:List af×List Int),cK (fun i y s=>rvS D y i s) i ys s=rvF D ys i s
 |[],_,_=>rfl
 |y::ys,i,s=>by simp only[cK,rvF];exact Be D ys (i+1) _
def Ah{r:ae}(e:cO r=true):(hmL r.N r.F.N).length=r.F.N.length/\(∀y∈hmL r.N r.F.N,y∈r.N)/\∀(k:Nat) y,(hmL r.N r.F.N)[k]?=some y->(r.F.N.map (·.Id))[k]?=some y.Id:=by
 have hR:=jl e;have hhm:=SL hR.hm (L:=r.F.N) hR.pl (En e);refine⟨by have:=congrArg List.length hhm;simpa using this,fun y hy=>(E5.1 hy).1,fun k y hk=>?_⟩
 grind
def mz(r:ae)(hz:bc r<=1048576):Rr r=some (rvP r):=by
 obtain⟨z1,z2,z3,z4⟩:=mT hz;unfold Rr rvP;rw[iO r hz];simp only[A0];rcases bt (cO r) with e|e
 ·rw[e];simp only[A5,cond_false,if_true];have hR:=jl e;obtain⟨f1,f2,f3⟩:=Ah e;have h12:r.F.N.length<=12:=hR.pl.len;rw[di r z1 z2 z3 z4];simp only[A0];have key:=dp (f:=Cq r) (hmL r.N r.F.N) (fun j(s:List af×List Int)=>((j:Int),s.2,s.1)) (fun i y s=>rvS r.L y i s) (fun s=>(s.2,s.1))
   (fun j s=>RvI r.F.F (r.F.N.map (·.Id)) j s) (fun j s y hy hI=>by
    have hlt:=(A1.1 hy).1;have hyH:=f2 y (A3 hy);exact⟨hI.step (hR.hm.lgt y hyH) (f3 j y hy),Vm rfl hR.hm z4 (by simp) hyH hI (f3 j y hy) (lZ (n:=r.F.F) hR.pl) (by omega)⟩)
   (fun s hI=>by simp[Cq,f1]) (r.F.N,[]) ⟨⟨h12,hR.pl.lgt⟩,rfl,by simp⟩ (by omega)
  have e0:((0:Nat):Int)=0:=rfl;simp only[e0] at key;rw[key,Be];rfl
 ·rw[e];rfl
end Vs

namespace Vs
open Go
theorem HU(xs ys:List Int)(hx:xs.length<=1048576)(hy:ys.length<=1048576):Sd [xs,ys]=some (xs++ys):=by
 unfold Sd;have h1:aY (M_z [xs,ys]) N0 (0,0)=some ((xs.length+ys.length:Nat):Int):=by
  have:=dp (f:=M_z [xs,ys]) [xs,ys] (fun i(a:Int)=>(a,(i:Int))) (fun _(x:List Int) a=>a+x.length) id (fun i a=>0<=a/\a<=i*1048576) (fun i a x hx' hI=>by
   have hlt:=(A1.1 hx').1;have hxl:x.length<=1048576:=by
    have:=A3 hx';simp at this;rcases this with e|e<;>rw[e]<;>assumption
   simp only[A8,B8] at hlt;have e1:decide ((i:Int)<(([xs,ys]:List (List Int)).length:Int))=true:=by simp only[decide_eq_true_eq,A8,B8];omega
   refine⟨by constructor<;>omega,?_⟩;simp only[M_z,e1,cond_true,aO,hx',A0];rw[aC (n:=a+(x.length:Int)) (by omega) (by omega)];have e2:decide (a+(x.length:Int)<0)=false:=by simp;omega
   rw[e2,cond_false,aC (by omega) (by omega)];rfl) (fun a _=>by simp[M_z]) 0 ⟨by omega,by omega⟩ (by simp)
  refine Eq.trans this ?_;simp[cK]
 rw[h1,A0];have h2:∃L,Mb ((xs.length+ys.length:Nat):Int)=some (0,0,L):=by
  unfold Mb;have e1:decide (((xs.length+ys.length:Nat):Int)<0)=false:=by simp;omega
  have e2:A7 .i64 (0-((0:Nat):Int))=0:=by decide
  rw[e1,cond_false,e2,Int.sub_zero,aC (by omega) (by omega)];by_cases h0:xs.length+ys.length=0
  ·rw[h0];exact⟨[],rfl⟩
  ·have e3:decide (0<((xs.length+ys.length:Nat):Int))=true:=by simp only[decide_eq_true_eq];omega
   rw[e3,cond_true,aQ ⟨by omega,by omega⟩,A0];simp only[bnd];rw[aQ ⟨trivial,by omega,trivial,by simp⟩,A0];exact⟨_,rfl⟩
 obtain⟨L,hL⟩:=h2;rw[hL,A0];have h0:ca L 0 0=[]:=by
  unfold ca;split
  ·rename_i e;exact G3.1 e.2.symm
  ·simp
 obtain⟨b,hb,hq⟩:=dq (f:=Qm [xs,ys]) (fun t=>∃(i:Nat)(M:List Int),t=(0,([xs,ys].take i).flatten.length,(i:Int),M)/\i<=2/\ca M 0 ([xs,ys].take i).flatten.length=([xs,ys].take i).flatten) (fun t=>2-t.2.2.1.toNat)
  (fun b=>b.1=0/\b.2.1=(xs++ys).length/\ca b.2.2 0 b.2.1=xs++ys)
  (fun t⟨i,M,e,hi,hM⟩=>by
   subst e;unfold Qm;by_cases hi2:i<2
   ·left;have e1:decide ((i:Int)<(([xs,ys]:List (List Int)).length:Int))=true:=by simp only[decide_eq_true_eq,A8,B8];omega
    obtain⟨x,hx'⟩:∃x,([xs,ys]:List (List Int))[i]?=some x:=⟨_,A2 (by simpa using hi2)⟩;have hxl:x.length<=1048576:=by
     have:=A3 hx';simp at this;rcases this with e|e<;>rw[e]<;>assumption
    have hfl:([xs,ys].take i).flatten.length<=2097152:=by
     match i,hi2 with
     |0,_=>simp
     |1,_=>simp;omega
    have ht:([xs,ys].take (i+1)).flatten=([xs,ys].take i).flatten++x:=by
     rw[C7,hx'];simp
    simp only[e1,cond_true,aO,hx',A0,bnd,hM];rw[aQ (by omega),A0,aC (by omega) (by omega)];refine⟨_,rfl,⟨i+1,_,by rw[ht,B1];rfl,by omega,?_⟩,by simp;omega⟩;rw[ht];exact dJ _
   ·right;have hi3:i=2:=by omega
    subst hi3;refine⟨_,rfl,rfl,by simp,?_⟩;simpa using hM) N0 (0,0,0,L) ⟨0,L,rfl,by omega,h0⟩ (fj (by simp))
 rw[hb,A0];simp only[bnd,hq.1,hq.2.2]
def dnP(d fs:List Int):List Int:=ddp ((d++fs).mergeSort fun x y=>decide (x<=y)) (d++fs).length
theorem wC(d fs:List Int):(dnP d fs).Pairwise (·<·)/\∀x,x∈dnP d fs↔x∈d\/x∈fs:=by
 have hs:((d++fs).mergeSort fun x y=>decide (x<=y)).Pairwise (·<=·):=by
  have:=List.pairwise_mergeSort (le:=fun x y:Int=>decide (x<=y)) (by intro a b c;simp;omega) (by intro a b;simp;omega) (d++fs);exact this.imp (by simp)
 have hl:((d++fs).mergeSort fun x y=>decide (x<=y)).length=(d++fs).length:=I6 _;obtain⟨s1,_,s3⟩:=nk hs (d++fs).length (by rw[hl];exact B6 _);refine⟨s1,fun x=>?_⟩;show x∈ddp _ _↔_;rw[s3,<-hl,G8,(List.mergeSort_perm _ _).mem_iff,D7]
def faK(fs:List Int)(x:af):Bool:=fA x.F.F fs
def faP(r:ae)(fs:List Int):ae×List Int×Bool:=
 if cO r&&eE fs r.F.F.F.length then(⟨⟨r.F.F,r.F.N.filter (faK fs)⟩,r.N,dnP r.L fs⟩,(r.F.N.filter fun x=>!faK fs x).map (·.Id),true) else(sa,[],false)
theorem ahd(x:af)(fs ids:List Int)(hx:x.F.F.length<=12)(hf:fs.length<=1048576)(hi:ids.length<=1048576):
 lF x fs ids=some (!faK fs x,fs,if faK fs x then ids else ids++[x.Id]):=by
 unfold lF faK;obtain⟨a,a1,_,a3⟩:=lR x.F.F fs hx hf;simp only[a1,A0,xp a3];cases fA x.F.F fs with
 |true=>rfl
 | false =>
   simp only[B5,cond_true,bnd]
   grind [aQ]
theorem Fr(fs:List Int)(hf:fs.length<=1048576):∀(xs:List af)(ids:List Int),(∀x∈xs,x.F.F.length<=12)->ids.length+xs.length<=1048576->
 ej (fun t s=>lF t s.1 s.2) xs (fs,ids)=some (xs.filter (faK fs),(fs,ids++(xs.filter fun x=>!faK fs x).map (·.Id)))
 |[],ids,_,_=>by simp[ej]
 | x :: xs, ids, hx, hl => by
   simp only[A8] at hl;simp only[ej,ahd x fs ids (hx x (by simp)) hf (by omega),A0];rw[Fr fs hf xs _ (fun y hy=>hx y (by simp[hy])) (by split<;>(try simp only[B1,A8,B8])<;>omega)];cases h:faK fs x with
   |true=>simp[h]
   |false=>simp[h]
theorem VX(X:List af)(a b:List Int):rH id (⟨0,(⟨0,[]⟩:aj),(⟨0,0⟩:aX)⟩:af) X a b=tN (fun t s=>lF t s.1 s.2) (⟨0,(⟨0,[]⟩:aj),(⟨0,0⟩:aX)⟩:af) X (a,b):=by
 have h1:M_r id (⟨0,(⟨0,[]⟩:aj),(⟨0,0⟩:aX)⟩:af) X=so (fun t s=>lF t s.1 s.2) X:=rfl;have h2:M_s id (⟨0,(⟨0,[]⟩:aj),(⟨0,0⟩:aX)⟩:af) X=te (fun t s=>lF t s.1 s.2) X:=rfl
 grind [GK,id,JN,lF,rH,tN]
def HD(r:ae)(fs:List Int)(hR:yh r)(z4:r.L.length<=1048576)(hf:fs.length<=1048576):
 ∃k l,rH id (⟨0,(⟨0,[]⟩:aj),(⟨0,0⟩:aX)⟩:af) r.F.N fs []=some (0,k,l,fs,(r.F.N.filter fun x=>!faK fs x).map (·.Id))/\ca l 0 k=r.F.N.filter (faK fs):=by
 have h12:=hR.pl.len;have h:=Fr fs hf r.F.N [] (fun x hx=>(hR.pl.lgt x hx).r.len) (by simp;omega);have hd:=OK (fun t s=>lF t s.1 s.2) (⟨0,(⟨0,[]⟩:aj),(⟨0,0⟩:aX)⟩:af) (by omega) h
 grind [VX,cB,List.take_left]
def oW(r:ae)(fs:List Int)(hz:bc r<=1048576)(hf:bU fs<=1048576):KO r fs=some (faP r fs):=by
 obtain⟨z1,z2,z3,z4⟩:=mT hz;unfold KO faP;rw[nt r fs hz hf];simp only[A0];rcases bt (cO r&&eE fs r.F.F.F.length) with e|e
 ·have e':=e;simp only[A6] at e';have hR:=jl e'.1;have hfl:fs.length<=1048576:=hf;obtain⟨k,l,d1,d2⟩:=HD r fs hR z4 hf;rw[e,if_pos rfl];have hs:oA (r.L++fs)=some ((r.L++fs).mergeSort fun x y=>decide (x<=y)):=if_pos (by simp;omega);have hl:((r.L++fs).mergeSort fun x y=>decide (x<=y)).length=(r.L++fs).length:=I6 _;have hN:=oh hR.dn;have hN2:=oh e'.2;have hNb:=(de hR.pl.net).2.2;obtain⟨k',l',c1,c2⟩:=uR ((r.L++fs).mergeSort fun x y=>decide (x<=y)) (by rw[hl];simp;omega);rw[hl] at c1 c2;simp only[A5,cond_false,di r z1 z2 z3 z4,A0,bnd,HU r.L fs z4 hf,hs,c1,d1,d2,c2];rfl
 ·rw[e];rfl
def Nj(r:ae)(z1:aR r.F.F<=1048576)(z2:aW r.F.N<=1048576)(z3:aW r.N<=1048576)(z4:r.L.length<=1048576):li r=some r:=by
 unfold li M_t;rw[gT r.F z1 z2,jE r.N z3,aQ (by omega)];rfl
def ahz{L:List af}(hn:(L.map (·.Id)).Nodup){i:Nat}{x:af}(h:L[i]?=some x):gN L x.Id=some (i,x):=by
 unfold gN;refine cw.2 ⟨h,by simp,fun j y hj hy=>?_⟩;have hne:y.Id≠x.Id:=by
  intro e;have h1:(L.map (·.Id))[j]?=some x.Id:=by rw[B0,hy];simp[e]
  have h2:(L.map (·.Id))[i]?=some x.Id:=by rw[B0,h];rfl
  obtain⟨p1,p2⟩:=A1.1 h1;obtain⟨q1,q2⟩:=A1.1 h2;have:=(F2 hn).1 (p2.trans q2.symm);omega
 simpa using hne
def HO{p:aB}(h:kL p):(p.N.map (·.Id)).Nodup:=by
 refine nv (wa fun i a b ha hb=>?_);rw[B0,C0] at ha hb;obtain⟨x,hx,rfl⟩:=ha;obtain⟨y,hy,rfl⟩:=hb;exact h.asc i x y hx hy
def Am(n:ah)(L:List af)(i:Nat)(hi:i<L.length)(z1:aR n<=1048576)(z2:aW L<=1048576):KX (i:Int) n.N n.F L=some (n.N,L.eraseIdx i,n.F,n.N,n.F,L):=by
 have hl:=uT z2;unfold KX;rw[show ng (⟨(⟨n.N,n.F⟩:ah),L⟩:aB)=some ⟨n,L⟩ from gT ⟨n,L⟩ z1 z2];simp only[A0,A4,bnd];have ew:A7 .i64 ((i:Int)+1)=((i+1:Nat):Int):=by rw[aC (by omega) (by omega)];rfl
 rw[aQ ⟨trivial,by omega,trivial,by omega⟩,ew];simp only[A0,A4];have l1:(ca L 0 i).length=i:=by rw[cB];simp;omega
 have l2:(ca L (i+1) (L.length-(i+1))).length=L.length-(i+1):=by rw[cB];simp
 rw[aQ (by omega),A0,aQ ⟨by omega,trivial,by omega,trivial⟩,A0,aQ (by omega),A0]
 grind [cB,List.take_of_length_le,List.eraseIdx_eq_take_drop_succ]
def GU{M L:List af}(h:M.Sublist L):aW M<=aW L:=by
 unfold aW;have h1:=h.length_le;have h2:(M.map fun x=>cu x).sum<=(L.map fun x=>cu x).sum:=by
  clear h1;induction h with
  |slnil=>exact B6 _
  |cons a _ ih=>simp;omega
  |cons_cons a _ ih=>simp;omega
 omega
end Vs

namespace Vs
open Go
def Es{n:ah}(hn:bM n=true){s d:Int}(hsd:s≠d)(hs:0<=s/\s<(n.N.length:Int)){D:List Int->List Int->List aj}{p q:List Int}(hD:∀p1 q1,kw n s p1 q1->∀r∈D p1 q1,fE n r=d)(h:kw n s p q):∀r∈gO n s d D p q,fE n r=d:=by
 intro r hr;unfold gO at hr;split at hr
 ·rename_i e;rw[D6] at hr;subst hr;have hp:p.length≠0:=fun e0=>by
   have e1:p=[]:=G3.1 e0;subst e1;have h1:=h.V [];have h2:=h.S.len;obtain⟨x,hx⟩:∃x,q=[x]:=by
    match q,h2 with
    |[x],_=>exact⟨x,rfl⟩
   subst hx;simp only[D8,bH,Option.some.injEq,List.cons.injEq,and_true] at h1;apply hsd;rw[h1,<-e];rfl
  have e1:wi s 0 ((n.N.length:Int)-1)=true:=cx.2 (by omega);have h3:=h.V [];rw[D8] at h3;unfold fE jD;simp only[e1,decide_eq_false hp];rw[h3];exact e
 ·unfold flS at hr;rw[I1] at hr;obtain⟨i,hi,hr⟩:=hr;rw[I7] at hi;unfold gP at hr;split at hr
  ·rename_i h1;exact hD _ _ (h.ext hn hi h1.1 h1.2) r hr
  ·cases hr
theorem AH{n:ah}(hn:bM n=true){s d:Int}(hsd:s≠d)(hs:0<=s/\s<(n.N.length:Int)):∀(k:Nat)(p q:List Int),kw n s p q->∀r∈nl n s d k p q,fE n r=d
 |0,p,q,h=>Es hn hsd hs (fun _ _ _ _ hr=>by cases hr) h
 |k+1,p,q,h=>Es hn hsd hs (fun p1 q1 h1=>AH hn hsd hs k p1 q1 h1) h
def Yc{n:ah}(hn:bM n=true){s d:Int}(hsd:s≠d)(hs:0<=s/\s<(n.N.length:Int))(hd:0<=d/\d<(n.N.length:Int)):∀r∈(jo n s d).1,fE n r=d:=by
 have hz:=gB hn;obtain⟨L,hL⟩:=zu hn (by omega) hsd hs hd;unfold jo;split at hL
 ·rw[hL.1];exact fun r hr=>AH hn hsd hs _ _ _ (La hn hs) r (hL.2.1.mem_iff.1 hr)
 simp_all
structure vO(n:ah)(L:List af):Prop where
 net:bM n=true
 len:L.length<=12
 ok:∀s∈L,dW n s=true
 asc:(L.map (·.Id)).Pairwise (·<·)
 cl:L.Pairwise fun o s=>cH o.F o.N s.F s.N=false
theorem Ai{n:ah}{L:List af}:fk ⟨n,L⟩=true↔vO n L:=by
 constructor
 ·intro h;have hP:=tk h;unfold fk at h;simp only[A6,decide_eq_true_eq,B3] at h;refine⟨hP.net,hP.len,hP.ok,lZ hP,B2.2 fun i j hi hj hij=>?_⟩;have:=cy.1 h.2 j L[j] (A2 hj);unfold io at this;simp only[C5,B9] at this;have h2:=this.2 L[i] (H7.2 ⟨i,by omega,rfl⟩);simpa using h2
 ·intro h;unfold fk;simp only[A6,decide_eq_true_eq,B3];refine⟨⟨h.net,h.len⟩,cy.2 fun i x hx=>?_⟩;obtain⟨hi,hx⟩:=A1.1 hx;unfold io;simp only[C5,G1,B9];refine⟨⟨h.ok x (hx▸E2 hi),?_⟩,fun o ho=>?_⟩
  ·cases i with
   |zero=>rfl
   | succ i =>
     have hg:L[i]?=some (L[i]'(by omega)):=A2 (by omega);have h3:=B2.1 h.asc i (i+1) (by simp;omega) (by simpa using hi) (by omega);simp only[G9] at h3;rw[Nat.add_sub_cancel,hg];subst hx;simp only[Bool.and_eq_false_iff,decide_eq_false_iff_not];right;omega
  ·obtain⟨k,hk,e⟩:=H7.1 ho;have h3:=B2.1 h.cl k i (by omega) hi (by omega);rw[<-e,<-hx,h3];simp
theorem vO.sub{n:ah}{L M:List af}(h:vO n L)(hs:M.Sublist L):vO n M:=
 ⟨h.net,D3 hs.length_le h.len,fun s hm=>h.ok s (hs.subset hm),h.asc.sublist (hs.map _),h.cl.sublist hs⟩
def GdX(n:ah)(H:List af)(D:List Int)(x:af):Prop:=∃y∈H,y.Id=x.Id/\fA x.F.F D=true/\y.F.N=x.F.N/\fE n y.F=fE n x.F/\y.N.F=x.N.F
structure lQ(n:ah)(L H:List af)(D:List Int):Prop where
 pl:vO n L
 hm:vO n H
 dn:eE D n.F.length=true
 gd:∀x∈L,GdX n H D x
def Ct{L:List af}(h:(L.map (·.Id)).Pairwise (·<·)):(L.map (·.Id)).Nodup:=h.imp fun h=>by omega
theorem gF{n:ah}{L H:List af}{D:List Int}:cO ⟨⟨n,L⟩,H,D⟩=true↔lQ n L H D:=by
 unfold cO;simp only[A6,B3,B9,Ai];have key:∀(hH:vO n H)(x:af),¬lT ⟨⟨n,L⟩,H,D⟩ x=true↔GdX n H D x:=by
  intro hH x;unfold lT GdX;constructor
  ·intro h;cases e:gN H x.Id with
   |none=>simp[e] at h
   | some q =>
     obtain⟨q1,q2,_⟩:=SP e;simp only[e,I3,not_or,bne_iff_ne,ne_eq,Decidable.not_not,B3,J4] at h;exact⟨q.2,q1,q2,h.1,h.2.1,h.2.2.1,h.2.2.2⟩
  ·rintro⟨y,hy,e1,e2,e3,e4,e5⟩;obtain⟨k,hk⟩:=B4 hy;rw[show(⟨⟨n,L⟩,H,D⟩:ae).N=H from rfl,<-e1,Fc (Ct hH.asc) hk];simp[e2,e3,e4,e5]
 constructor
 ·rintro⟨⟨⟨h1,h2⟩,h3⟩,h4⟩;exact⟨h1,h2,h3,fun x hx=>(key h2 x).1 (h4 x hx)⟩
 ·rintro⟨h1,h2,h3,h4⟩;exact⟨⟨⟨h1,h2⟩,h3⟩,fun x hx=>(key h2 x).2 (h4 x hx)⟩
def Bo{l:List Int}{N:Int}(h1:l.Pairwise (·<·))(h2:∀x∈l,0<=x/\x<N):eE l N=true:=by
 unfold eE;simp only[B3];refine cy.2 fun i x hx=>?_
 grind [List.getElem?_eq_some_iff,List.getElem_mem,cx,List.getElem?_eq_getElem,List.pairwise_iff_getElem,Nat.add_sub_cancel,lC,wi]
theorem mh{a b:List Int}:fA a b=true↔∀x∈a,x∉b:=by
 unfold fA;simp
theorem UU{n:ah}{L H:List af}{D fs:List Int}(h:lQ n L H D)(hf:eE fs n.F.length=true):lQ n (L.filter (faK fs)) H (dnP D fs):=by
 obtain⟨d1,d2⟩:=wC D fs;refine⟨h.pl.sub F5,h.hm,Bo d1 fun x hx=>?_,fun x hx=>?_⟩
 ·exact((d2 x).1 hx).elim (fun h'=>(ry h.dn).2 x h') fun h'=>(ry hf).2 x h'
 ·obtain⟨hx1,hx2⟩:=E5.1 hx;obtain⟨y,a1,a2,a3,a4⟩:=h.gd x hx1;refine⟨y,a1,a2,mh.2 fun z hz hd=>?_,a4⟩;exact((d2 z).1 hd).elim (mh.1 a3 z hz) (mh.1 hx2 z hz)
def Vt{n:ah}{L H:List af}{D:List Int}(p:Int->Bool)(h:lQ n L H D):lQ n L H (D.filter p):=by
 obtain⟨d1,d2⟩:=ry h.dn;refine⟨h.pl,h.hm,Bo (d1.sublist F5) fun x hx=>d2 x (E5.1 hx).1,fun x hx=>?_⟩;obtain⟨y,a1,a2,a3,a4⟩:=h.gd x hx;exact⟨y,a1,a2,mh.2 fun z hz hd=>mh.1 a3 z hz (E5.1 hd).1,a4⟩
end Vs

namespace Vs
open Go
theorem zI(m c:Int):∀(xs:List Nat)(k:Nat)(a:List Int)(x:Int),x∈cK (fun i _(a:List Int)=>if bits .and .i64 m (dF ⟨(i:Int),c⟩)==0 then a++[(i:Int)] else a) k xs a->x∈a\/(bits .and .i64 m (dF ⟨x,c⟩)==0)=true
 |[],k,a,x,h=>.inl h
 | y :: xs, k, a, x, h => by
   simp only[cK] at h;rcases zI m c xs (k+1) _ x h with h|h
   ·split at h
    ·rename_i e;rw[D7,D6] at h;rcases h with h|h
     ·exact .inl h
     ·exact .inr (h▸e)
    ·exact .inl h
   ·exact .inr h
theorem zk(id:Int):∀L:List af,(L.map (·.Id)).Pairwise (·<·)->id∉L.map (·.Id)->(∀a∈L.take (lsN L id),a.Id<id)/\∀a∈L.drop (lsN L id),id<a.Id
 |[],_,_=>⟨fun a h=>by simp at h,fun a h=>by simp at h⟩
 | y :: L, h, hn => by
   rw[F7,G2] at h;simp only[F7,C2,not_or] at hn;obtain⟨i1,i2⟩:=zk id L h.2 hn.2;unfold lsN at i1 i2⊢;rw[H2];by_cases e:y.Id<id
   ·simp_all
   ·rw[if_neg (by simpa using e)]
    grind [List.length_nil,List.mem_map_of_mem]
def Ms{n:ah}{L:List af}(h:vO n L){x:af}(hx:dW n x=true)(hno:x.Id∉L.map (·.Id))(hl:L.length<12)(hc:∀o∈L,cH o.F o.N x.F x.N=false):vO n (nA L x):=by
 have hp:=kR L x;obtain⟨s1,s2⟩:=zk x.Id L h.asc hno;refine⟨h.net,by rw[hp.length_eq,A8];omega,fun z hz=>?_,?_,?_⟩
 ·have:=hp.mem_iff.1 hz;rw[C2] at this;rcases this with rfl|h'
  ·exact hx
  ·exact h.ok z h'
 ·have ha:=h.asc;rw[<-C1 (lsN L x.Id) L,List.map_append,E0] at ha;obtain⟨a1,a2,a3⟩:=ha;unfold nA
  grind
 ·have ha:=h.cl;rw[<-C1 (lsN L x.Id) L,E0] at ha;obtain⟨a1,a2,a3⟩:=ha;unfold nA
  grind [List.append_assoc,List.singleton_append,List.pairwise_cons,rT,List.mem_of_mem_drop,List.mem_of_mem_take]
def EZ{n:ah}{L H:List af}{D:List Int}(h:lQ n L H D){y x:af}(hy:y∈H)(e:plX n L D y=some x):x.Id=y.Id/\dW n x=true/\GdX n H D x/\∀o∈L,cH o.F o.N x.F x.N=false:=by
 have hyo:=h.hm.ok y hy;have hb:=yq hyo;have hn:=h.pl.net;have hS:kx n L:=⟨h.pl.len,fun o ho=>iA hn (h.pl.ok o ho)⟩;obtain⟨l,hl⟩:=jK hyo;obtain⟨s1,s2,s3⟩:=oo hn hl;obtain⟨r1,r2,r3,r4,r5⟩:=qV hn s3 s1 s2;unfold plX at e;split at e
 ·rename_i hc;cases e;simp only[A6,B3,B9] at hc;exact⟨rfl,hyo,⟨y,hy,rfl,hc.1,rfl,rfl,rfl⟩,fun o ho=>by simpa using hc.2 o ho⟩
 ·rw[C0] at e;obtain⟨q,hq,rfl⟩:=e;obtain⟨q1,q2,_⟩:=cw.1 hq;have hm:=A3 q1;have hrv:=r3 q.2 hm;have hre:=Yc hn s3 s1 s2 q.2 hm;unfold okR at q2;simp only[A6,decide_eq_true_eq] at q2;obtain⟨t,ht⟩:=Vd q2.2;have hf0:(kN (gQ L q.2.F) y.N.F).headD 0∈kN (gQ L q.2.F) y.N.F:=by rw[ht];simp
  have hr:=EU hb.2 hf0;have hfree:=(zI _ _ _ 0 [] _ hf0).resolve_left (by simp);have hok:dW n (wg L y q.2)=true:=by
   unfold dW at hyo⊢;simp only[A6] at hyo⊢;refine⟨⟨hyo.1.1,hrv.v⟩,?_⟩;unfold oa wg;simp only[A6,cx];omega
  refine⟨rfl,hok,⟨y,hy,rfl,q2.1,hrv.st.symm,hre.symm,rfl⟩,fun o ho=>?_⟩;have h2:=pF hS (iA hn hok);have h3:(bits .and .i64 (gQ L (wg L y q.2).F.F) (dF (wg L y q.2).N)==0)=true:=hfree
  grind
theorem WF{n:ah}{L H:List af}{D:List Int}(h:lQ n L H D){y x:af}(hy:y∈H)(hno:y.Id∉L.map (·.Id))(e:plX n L D y=some x):lQ n (nA L x) H D:=by
 obtain⟨e1,e2,e3,e4⟩:=EZ h hy e;have hp:=kR L x;have hlen:L.length<12:=by
  have hsub:∀i∈(x::L).map (·.Id),i∈H.map (·.Id):=fun i hi=>by
   rw[F7,C2] at hi;rcases hi with rfl|hi
   ·grind
   ·obtain⟨z,hz,rfl⟩:=G5.1 hi;obtain⟨w,hw,we,_⟩:=h.gd z hz
    grind
  have hnd:((x::L).map (·.Id)).Nodup:=by
   rw[F7,F9,e1];exact⟨hno,Ct h.pl.asc⟩
  have:=xT _ _ hnd hsub;have:=h.hm.len;simp only[D9,A8] at*
  omega
 refine⟨Ms h.pl e2 (e1▸hno) hlen e4,h.hm,h.dn,fun z hz=>?_⟩;have:=hp.mem_iff.1 hz;rw[C2] at this;rcases this with rfl|h'
 ·exact e3
 ·exact h.gd z h'
theorem yT{n:ah}{H W:List af}{D:List Int}(hW:(W.map (·.Id)).Nodup)(hm:∀y∈W,y∈H):∀(xs:List af)(i:Nat)(s:List af×List Int),W.drop i=xs->lQ n s.1 H D->(∀j y,i<=j->W[j]?=some y->y.Id∉s.1.map (·.Id))->lQ n (cK (raS n H D) i xs s).1 H D
 |[],i,s,_,h,_=>h
 | x :: xs, i, s, hd, h, hno => by
   have hi:W[i]?=some x:=by have:=congrArg (fun l=>l[0]?) hd;simpa using this
   have hx:=hm x (A3 hi);have hnx:=hno i x (B6 _) hi;simp only[cK];refine yT hW hm xs (i+1) _ (by rw[<-K4,hd];rfl) ?_ fun j y hj hy hc=>?_
   ·grind [WF,raS,rsP,plX]
   ·unfold raS rsP at hc;cases e:plX n s.1 D x with
    |none=>grind
    | some z =>
      rw[e] at hc;obtain⟨u,hu,hui⟩:=G5.1 hc;have:=(kR s.1 z).mem_iff.1 hu;rw[C2] at this;rcases this with rfl|hu
      ·have hz:=(EZ h hx e).1;have h1:(W.map (·.Id))[j]?=some x.Id:=by rw[B0,hy];simp[<-hui,hz]
       have h2:(W.map (·.Id))[i]?=some x.Id:=by rw[B0,hi];rfl
       grind [List.getElem?_eq_some_iff,List.getElem_inj]
      grind
def Xf{r:ae}(h:cO r=true):lQ r.F.F (raF r).1 r.N r.L:=by
 have hA:=Sz h;exact yT (W:=raW r) hA.wn hA.wh _ 0 _ rfl (gF.1 h) hA.i0.no
theorem abd{n:ah}{L H:List af}{D:List Int}(h:lQ n L H D){y x:af}{i:Nat}(hy:y∈H)(hx:L[i]?=some x)(hid:x.Id=y.Id)(h1:fA y.F.F D=true)(h2:rM L y=false):lQ n (L.set i y) H D:=by
 obtain⟨hi,hxe⟩:=A1.1 hx;have hids:(L.set i y).map (·.Id)=L.map (·.Id):=by
  rw[L4,<-hid,<-hxe];have:(L.map (·.Id)).set i (L[i].Id)=(L.map (·.Id)).set i ((L.map (·.Id))[i]'(by simpa using hi)):=by rw[G9]
  rw[this,List.set_getElem_self]
 have hnd:=Ct h.pl.asc;have hbar:∀(j:Nat)(hj:j<L.length),j≠i->cH L[j].F L[j].N y.F y.N=false:=fun j hj hne=>by
  unfold rM at h2;rw[B9] at h2;have h3:=h2 L[j] (E2 hj);have h4:L[j].Id≠y.Id:=fun e=>by
   rw[<-hid,<-hxe] at e;have:=(F2 (xs:=L.map (·.Id)) (h₀:=by simpa using hj) (h₁:=by simpa using hi) hnd).1 (by simpa using e);exact hne this
  simp only[A6,bne_iff_ne,not_and] at h3;simpa using h3 h4
 refine⟨⟨h.pl.net,by rw[G0];exact h.pl.len,fun z hz=>?_,by rw[hids];exact h.pl.asc,?_⟩,h.hm,h.dn,fun z hz=>?_⟩
 ·rcases F3 hz with h'|h'
  ·exact h.pl.ok z h'
  ·rw[h'];exact h.hm.ok y hy
 ·refine B2.2 fun a b ha hb hab=>?_;rw[G0] at ha hb;rw[J7,J7];by_cases ea:i=a
  ·rw[if_pos ea,if_neg (by omega),rT];exact hbar b hb (by omega)
  ·rw[if_neg ea];by_cases eb:i=b
   ·rw[if_pos eb];exact hbar a ha (by omega)
   ·rw[if_neg eb];exact B2.1 h.pl.cl a b ha hb hab
 ·rcases F3 hz with h'|h'
  ·exact h.gd z h'
  ·rw[h'];exact⟨y,hy,rfl,h1,rfl,rfl,rfl⟩
theorem yL{n:ah}{H:List af}{D ids:List Int}:∀(ys:List af)(i:Nat)(s:List af×List Int),lQ n s.1 H D->s.1.map (·.Id)=ids->(∀y∈ys,y∈H)->(∀k y,ys[k]?=some y->ids[i+k]?=some y.Id)->lQ n (rvF D ys i s).1 H D
 |[],i,s,h,_,_,_=>h
 | y :: ys, i, s, h, hs, hm, hk => by
   unfold rvF;have h0:=hk 0 y rfl;rw[Nat.add_zero,<-hs,B0,C0] at h0;obtain⟨x,hx,hid⟩:=h0;have hy:=hm y (by simp);have hstep:lQ n (rvS D y i s).1 H D/\(rvS D y i s).1.map (·.Id)=ids:=by
    unfold rvS;rw[hx];dsimp only;split
    ·rename_i hc;simp only[A6,B3] at hc
     grind [abd,List.getElem?_eq_some_iff,List.map_set,List.set_getElem_self]
    ·exact⟨h,hs⟩
   exact yL ys (i+1) _ hstep.1 hstep.2 (fun z hz=>hm z (by simp[hz])) fun k z hz=>by
    have:=hk (k+1) z (by simpa using hz)
    grind
def Uj{r:ae}(h:cO r=true):lQ r.F.F (rvP r).1.F.N r.N r.L:=by
 unfold rvP;rw[if_pos h];obtain⟨f1,f2,f3⟩:=Ah h;exact yL (ids:=r.F.N.map (·.Id)) _ 0 (r.F.N,[]) (gF.1 h) rfl f2 fun k y hk=>by simp_all
end Vs

namespace Vs
open Go
def fh{α β:Type}{o:Option α}{v:α}{k:α->Option β}{r:Option β}(h:o=some v)(g:k v=r):o.bind k=r:=by rw[h];exact g
def SU(fs d:List Int)(hp:d.Pairwise (·<·))(hl:d.length+fs.length<=1048576):∃o,aY (M_m fs) N0 (0,d)=some o/\o.Pairwise (·<·)/\∀x,x∈o↔x∈d\/x∈fs:=by
 obtain⟨o,h1,h2⟩:=dq (f:=M_m fs) (fun s=>∃(i:Nat)(l:List Int),s=((i:Int),l)/\i<=fs.length/\l.Pairwise (·<·)/\l.length<=d.length+i/\∀x,x∈l↔x∈d\/x∈fs.take i)
  (fun s=>fs.length-s.1.toNat) (fun o=>o.Pairwise (·<·)/\∀x,x∈o↔x∈d\/x∈fs) (fun s hI=>by
   obtain⟨i,l,rfl,h1,h2,h3,h4⟩:=hI;by_cases hi:i<fs.length
   ·left;have e1:decide ((i:Int)<(fs.length:Int))=true:=decide_eq_true (by omega);have hx:fs[i]?=some fs[i]:=A2 hi;obtain⟨o,o1,o2,o3,o4⟩:=XO fs[i] l (by omega);simp only[M_m,e1,cond_true,aO,hx];simp only[A0,o1];rw[aC (n:=(i:Int)+1) (by omega) (by omega)];refine⟨_,rfl,⟨i+1,o,by simp,by omega,o4 h2,by omega,fun x=>?_⟩,by simp only[];omega⟩
    grind [List.take_add_one,Option.toList_some,List.mem_singleton]
   ·right;have e1:decide ((i:Int)<(fs.length:Int))=false:=decide_eq_false (by omega);refine⟨l,by simp only[M_m,e1,cond_false],h2,fun x=>?_⟩
    grind) N0 (((0:Nat):Int),d) ⟨0,d,rfl,E3 _,hp,by omega,fun x=>by simp⟩ (fj (by simp;omega))
 exact⟨o,h1,h2⟩
theorem BI(r:ae)(fs:List Int)(hR:yh r)(hf:fs.length<=1048576)(z1:aR r.F.F<=1048576)(z2:aW r.F.N<=1048576):
 aY (M_n 0 r.F.N.length fs r.F.N) N0 (0,[],r.F.F.N,r.F.F.F,r.F.N)=some ((r.F.N.filter fun x=>!faK fs x).map (·.Id),r.F.F.N,r.F.F.F,r.F.N.filter (faK fs)):=by
 have h12:=hR.pl.len;have hnd:=HO hR.pl;generalize hL:r.F.N=L at*
 obtain⟨o,h1,h2⟩:=dq (f:=M_n 0 L.length fs L) (fun s=>∃(i:Nat),s=((i:Int),((L.take i).filter fun x=>!faK fs x).map (·.Id),r.F.F.N,r.F.F.F,(L.take i).filter (faK fs)++L.drop i)/\i<=L.length)
  (fun s=>L.length-s.1.toNat) (fun o=>o=((L.filter fun x=>!faK fs x).map (·.Id),r.F.F.N,r.F.F.F,L.filter (faK fs))) (fun s hI=>by
   obtain⟨i,rfl,hi0⟩:=hI;by_cases hi:i<L.length
   ·left;have e1:decide ((i:Int)<(L.length:Int))=true:=decide_eq_true (by omega);have hx:L[i]?=some L[i]:=A2 hi;have hin:L[i].F.F.length<=12:=(hR.pl.lgt L[i] (by rw[hL];exact E2 hi)).r.len;have hdrop:L.drop i=L[i]::L.drop (i+1):=List.drop_eq_getElem_cons hi;have htake:L.take (i+1)=L.take i++[L[i]]:=by rw[C7,hx];rfl
    have hF:∀p:af->Bool,(L.take (i+1)).filter p=(L.take i).filter p++(if p L[i]=true then [L[i]] else []):=fun p=>by
     rw[htake,H5];congr 1;cases h:p L[i]<;>simp[h]
    have hsub:((L.take i).filter (faK fs)++L.drop i).Sublist L:=by
     have:=(F5 (l:=L.take i) (p:=faK fs)).append (List.Sublist.refl (L.drop i));rwa[C1] at this
    simp only[M_n,e1,cond_true,A4,F0,hx];rw[aQ (by omega)];simp only[A0,kS L[i].F fs (by omega) hf];rw[aC (n:=(i:Int)+1) (by omega) (by omega)];have hk:fA L[i].F.F fs=faK fs L[i]:=rfl;rw[hk];cases h:faK fs L[i] with
    | true =>
      simp only[A5,cond_false];refine⟨_,rfl,⟨i+1,?_,by omega⟩,by simp only[];omega⟩;rw[hF,hF];simp[h]
    | false =>
      have hm:((L.take i).filter (faK fs)++L.drop i)[((L.take i).filter (faK fs)).length]?=some L[i]:=by
       rw[List.getElem?_append_right (B6 _),L5,hdrop];rfl
      have hfl:((L.take i).filter (faK fs)).length<=L.length:=D3 (G7 _ _) (by simp;omega);have hml:((L.take i).filter (faK fs)++L.drop i).length<=L.length:=hsub.length_le;have hid:iL ((L.take i).filter (faK fs)++L.drop i) L[i].Id=((((L.take i).filter (faK fs)).length:Nat):Int):=by
       unfold iL;rw[ahz ((hsub.map _).nodup hnd) hm]
      have hids:(((L.take i).filter fun x=>!faK fs x).map (·.Id)).length<=L.length:=by
       rw[D9];exact D3 (G7 _ _) (by simp;omega)
      simp only[B5,cond_true,bnd];rw[aQ (by omega)];simp only[A0];rw[nZ (⟨(⟨r.F.F.N,r.F.F.F⟩:ah),(L.take i).filter (faK fs)++L.drop i⟩:aB) L[i].Id (by show((L.take i).filter (faK fs)++L.drop i).length<=_;omega)];simp only[A0,hid];rw[Am r.F.F _ _ (A1.1 hm).1 z1 (D3 (GU hsub) z2)];simp only[A0];refine⟨_,rfl,⟨i+1,?_,by omega⟩,by simp only[];omega⟩;rw[List.eraseIdx_append_of_length_le (B6 _),L5,hF,hF,hdrop];simp[h]
   ·right;have hi':i=L.length:=by omega
    have e1:decide ((i:Int)<(L.length:Int))=false:=decide_eq_false (by omega);refine⟨(((L.take i).filter fun x=>!faK fs x).map (·.Id),r.F.F.N,r.F.F.F,(L.take i).filter (faK fs)++L.drop i),by simp only[M_n,e1,cond_false],?_⟩;rw[hi',G8,List.drop_length,D8]) N0 (((0:Nat):Int),[],r.F.F.N,r.F.F.F,L) ⟨0,by simp,E3 _⟩ (fj (by simp;omega))
 have e0:((0:Nat):Int)=0:=rfl;rw[e0] at h1;rw[h1,h2]
def UH(r:ae)(fs:List Int)(hR:yh r)(hz:bc r<=1048576)(hs:eE fs r.F.F.F.length=true)(hf:fs.length<=1048576):
 Rg 0 r.F.F.N.length 0 r.F.F.F.length 0 r.F.N.length fs r.F.F.N r.F.F.F r.F.N r.N r.L=some ((r.F.N.filter fun x=>!faK fs x).map (·.Id),r.F.F.N,r.F.F.F,r.F.N.filter (faK fs),r.N,dnP r.L fs,r.F.F.N,r.F.F.F,r.F.N,r.N,r.L):=by
 obtain⟨z1,z2,z3,z4⟩:=mT hz;have hN:=oh hR.dn;have hN2:=oh hs;have hNb:=(de hR.pl.net).2.2;obtain⟨o,o1,o2,o3⟩:=SU fs r.L (ry hR.dn).1 (by omega);have ho:o=dnP r.L fs:=xg _ _ o2 (wC r.L fs).1 fun x=>by grind [wC]
 unfold Rg;simp only[bnd,dJ];rw[show li (⟨(⟨(⟨r.F.F.N,r.F.F.F⟩:ah),r.F.N⟩:aB),r.N,r.L⟩:ae)=some r from Nj r z1 z2 z3 z4]
 grind [BI]
def Wi(r:ae)(fs:List Int)(hz:bc r<=1048576)(hf:fs.length<=1048576):Nh r fs=some ⟨r.F,r.N,r.L.filter fun x=>!decide (x∈fs)⟩:=by
 obtain⟨z1,z2,z3,z4⟩:=mT hz;have hown:li r=some r:=by
  unfold li M_t;rw[gT r.F z1 z2,jE r.N z3,aQ (by omega)];rfl
 have:=dj (f:=Ge r fs) r.L (fun i(a:List Int)=>((i:Int),a)) (fun _ x a=>.inl (if !decide (x∈fs) then a++[x] else a)) (fun a=>a) (fun i a=>a.length<=i) (fun i a x hx hI=>by
  have hlt:=(A1.1 hx).1;have e1:decide ((i:Int)<r.L.length)=true:=by simp[hlt]
  refine .inl ⟨_,rfl,by grind,?_⟩;simp only[Ge,e1,cond_true,aO,hx,A0,nP fs x hf,<-qI,bnd]
  grind [aQ,aC]) (fun a _=>by simp[Ge]) [] (B6 0) (by omega)
 have e0:((0:Nat):Int)=0:=rfl;simp only[e0] at this;unfold Nh;simp only[hown,A0,this];rw[rE];rfl
def XI(r:ae)(e:cO r=true)(hz:bc r<=1048576):SN r.F.F.N r.F.F.F r.F.N r.N r.L=
 some ((raF r).2,r.F.F.N,r.F.F.F,(raF r).1,r.N,r.L,r.F.F.N,r.F.F.F,r.F.N,r.N,r.L):=by
 obtain⟨z1,z2,z3,z4⟩:=mT hz;have hA:=Sz e;have hR:=hA.R;have hwl:=hA.wl;have hH12:=hR.hm.len;obtain⟨w1,w2⟩:=Dz r r.N 0 rfl;unfold SN;rw[show li (⟨(⟨(⟨r.F.F.N,r.F.F.F⟩:ah),r.F.N⟩:aB),r.N,r.L⟩:ae)=_ from vg (r:=r) z1 z2 z3 z4,
  show DI (⟨(⟨(⟨r.F.F.N,r.F.F.F⟩:ah),r.F.N⟩:aB),r.N,r.L⟩:ae)=_ from ol r hR.hm.len hR.pl.len]
 simp only[A0];have key:=dp (f:=M_l r.N (wtX r 0 r.N)) (raW r) (fun i(s:List af×List Int)=>((i:Int),s.2,r.F.F.N,r.F.F.F,s.1,r.N,r.L)) (raS r.F.F r.N r.L)
  (fun s=>(s.2,r.F.F.N,r.F.F.F,s.1,r.N,r.L)) (fun i s=>RaI r.F.F r.N (raW r) i s) (fun i s y hi hI=>by
   have hlt:=(A1.1 hi).1;have hm:=hA.wh y (A3 hi);have hy:=hR.hm.ok y hm;have ho:=hI.out;have hl':(wtX r 0 r.N).length=(raW r).length:=w1;refine⟨FA hR.hm.len hA.wn hi hm hy hI,?_⟩;obtain⟨j,hj1,hj2⟩:=w2 i y hi;have hjl:=(A1.1 hj2).1;simp only[M_l,decide_eq_true (show(i:Int)<((wtX r 0 r.N).length:Int) by omega),cond_true];rw[aQ (by omega)];simp only[A0,A4,hj1];rw[vX (n:=r.F.F) (L:=s.1) (H:=r.N) (D:=r.L) hI.st.st ⟨hR.hm.len,hR.hm.lgt⟩ z4 hj2 hy (fun x hx=>by have:=(QK hI.st.st hy hx).2.1.r.len;omega)];simp only[A0];rw[aC (n:=(i:Int)+1) (by omega) (by omega)];unfold raS;rcases bt (rsP r.F.F s.1 r.N r.L y).2 with eb|eb
   ·rw[eb,cond_true,if_pos rfl,aQ (by omega)]
    grind [Int.toNat_natCast,aQ,bnd]
   simp_all) (fun s _=>by
    simp_all [wtX,raW,M_l]) (r.F.N,[]) hA.i0 (by omega)
 rw[show aY (M_l r.N (wtX r 0 r.N)) N0 (0,[],r.F.F.N,r.F.F.F,r.F.N,r.N,r.L)=_ from key];rfl
def WC(r:ae)(e:cO r=true)(hz:bc r<=1048576):LX r.F.F.N r.F.F.F r.F.N r.N r.L=
 some (0,(rvP r).1.F.F.N.length,0,(rvP r).1.F.F.F.length,0,(rvP r).1.F.N.length,(rvP r).2.1,(rvP r).1.F.F.N,(rvP r).1.F.F.F,(rvP r).1.F.N,(rvP r).1.N,(rvP r).1.L,
  r.F.F.N,r.F.F.F,r.F.N,r.N,r.L):=by
 obtain⟨z1,z2,z3,z4⟩:=mT hz;unfold rvP;rw[if_pos e];have hR:=jl e;have hP:=hR.pl;have hH:=hR.hm;have h12:r.N.length<=12:=hH.len;have hpid:=lZ (n:=r.F.F) (L:=r.F.N) hP;have hhm:=SL hH (L:=r.F.N) hP (En e);unfold LX li;rw[show ng (⟨(⟨r.F.F.N,r.F.F.F⟩:ah),r.F.N⟩:aB)=some r.F from gT r.F z1 z2];simp only[A0,jE r.N z3];unfold M_t;simp only[A0,aQ (show r.L.length*8<=140737488355328 by omega)];have key:=dp (f:=M_h r.N r.L) r.N (fun j(a:Nat×(List af×List Int))=>rvT r.F.F j a.2) (rvG r.L (r.F.N.map (·.Id)))
  (fun a=>(r.F.F.N.length,r.F.F.F.length,a.2.1.length,a.2.2,r.F.F.N,r.F.F.F,a.2.1))
  (fun j a=>a.1=((r.N.take j).filter fun y=>decide (y.Id∈r.F.N.map (·.Id))).length/\RvI r.F.F (r.F.N.map (·.Id)) j a.2)
  (fun j a y hy hI=>by
   obtain⟨hi,hI⟩:=hI;have hlt:=(A1.1 hy).1;have hyin:gh r.F.F y:=hH.lgt y (A3 hy);rcases bt (decide (y.Id∈r.F.N.map (·.Id))) with e1|e1
   ·have hat:=ahs (p:=fun y=>decide (y.Id∈r.F.N.map (·.Id))) hy e1;have hid:(r.F.N.map (·.Id))[a.1]?=some y.Id:=by
     rw[<-hhm,B0,hi];unfold hmL;rw[hat];rfl
    have eg:rvG r.L (r.F.N.map (·.Id)) j y a=(a.1+1,rvS r.L y a.1 a.2):=by unfold rvG;rw[if_pos e1]
    rw[eg];refine⟨⟨?_,hI.step hyin hid⟩,SS hP.net h12 z4 hpid hy hyin hI hid (by omega)⟩;rw[FG hy]
    simp_all
   ·have eg:rvG r.L (r.F.N.map (·.Id)) j y a=a:=by unfold rvG;rw[if_neg (by rw[e1];simp)]
    rw[eg];refine⟨⟨?_,⟨hI.ls,hI.ids,by have:=hI.out;omega⟩⟩,PP h12 hy hI (by simpa using e1)⟩
    grind [FG])
  (fun a hI=>by simp[M_h,rvT]) (0,(r.F.N,[])) ⟨by simp,⟨hP.len,hP.lgt⟩,rfl,by simp⟩ (by omega)
 have e0:rvT r.F.F 0 (r.F.N,[])=(0,r.F.F.N.length,r.F.F.F.length,r.F.N.length,[],r.F.F.N,r.F.F.F,r.F.N):=rfl;rw[e0] at key;rw[key];simp only[A0];have hg:=sn r.L (r.F.N.map (·.Id)) r.N 0 0 (r.F.N,[]);rw[hg];rfl
end Vs

namespace Vs
open Go
def ev1(r:ae)(e:ax):ae:=if e.N then(faP r e.F).1 else(rpP r e.F).1
def evS(r:ae)(e:ax):ae:=(rvP (raP (ev1 r e)).1).1
def evW(r:ae):Int:=((wtX r 0 r.N).length:Int)
def sE{r:ae}(h:cO r=true):bc r<=1048576:=by
 have hR:=jl h;have hS:=YO h;have hD:=oh hR.dn;have:=(de hR.pl.net).2.2;exact z_st (H:=r.N) hS.st ⟨hR.hm.len,hR.hm.lgt⟩ (by omega)
theorem sU{r:ae}(h:cO r=true){e:ax}(hs:eE e.F r.F.F.F.length=true):cO (ev1 r e)=true/\(ev1 r e).F.F=r.F.F:=by
 have hX:=gF.1 h;unfold ev1 faP rpP;rw[h,hs];simp only[Bool.and_self,if_true];split
 ·grind [gF,UU]
 ·exact⟨gF.2 (Vt _ hX),rfl⟩
theorem tr{r:ae}(h:cO r=true):cO (raP r).1=true/\(raP r).1.F.F=r.F.F:=by
 unfold raP;rw[if_pos h];exact⟨gF.2 (Xf h),rfl⟩
theorem tm{r:ae}(h:cO r=true):cO (rvP r).1=true/\(rvP r).1.F.F=r.F.F:=by
 have:=Uj h;have e:(rvP r).1=⟨⟨r.F.F,(rvP r).1.F.N⟩,r.N,r.L⟩:=by unfold rvP;rw[if_pos h]
 rw[e];exact⟨gF.2 this,rfl⟩
def Rl{r:ae}(h:cO r=true){e:ax}(hs:eE e.F r.F.F.F.length=true):cO (evS r e)=true/\(evS r e).F.F=r.F.F:=by
 grind [sU,tr,tm,evS]
def reG(N:Int)(_:Nat)(e:ax)(s:List Int×ae):(List Int×ae)⊕Option (List Int×ae):=
 if eE e.F N then .inl (s.1++[evW (evS s.2 e)],evS s.2 e) else .inr none
def reW(N:Int)(evs:List ax)(s:List Int×ae):Option (List Int×ae):=bH (reG N) (fun s=>some s) 0 evs s
def reP(p:aB)(evs:List ax):List Int×ae×Bool:=
 if fk p&&decide (evs.length<=20) then match reW p.F.F.length evs ([],⟨p,p.N,[]⟩) with
  |some s=>(s.1,s.2,true)
  |none=>([],sa,false)
 else([],sa,false)
structure ReI(p:aB)(i:Nat)(s:List Int×ae):Prop where
 ok:cO s.2=true
 net:s.2.F.F=p.F
 out:s.1.length<=i
def ReI.step{p:aB}{i:Nat}{s:List Int×ae}(h:ReI p i s){e:ax}(hs:eE e.F p.F.F.length=true):ReI p (i+1) (s.1++[evW (evS s.2 e)],evS s.2 e):=by
 obtain⟨a,b⟩:=Rl h.ok (e:=e) (by rw[h.net];exact hs);exact⟨a,by rw[b,h.net],by have:=h.out;simp only[B1,B7];omega⟩
def sH{p:aB}(h:fk p=true):ReI p 0 ([],⟨p,p.N,[]⟩):=by
 have hX:=Ai.1 h;refine⟨gF.2 ⟨hX,hX,Bo K8.nil fun x hx=>(by cases hx),fun x hx=>⟨x,hx,rfl,?_,rfl,rfl,rfl⟩⟩,rfl,B6 _⟩
 grind [mh]
def z_ev{evs:List ax}(hz:be evs<=1048576){i:Nat}{e:ax}(h:evs[i]?=some e):e.F.length<=1048576:=by
 have:=iv (fun x=>bA x) h;unfold be at hz;have h2:bA e=e.F.length:=rfl;omega
def afi(r:ae):((wtL r).length:Int)=evW r:=by
 unfold evW;rw[YW,D9,(Dz r r.N 0 rfl).1]
def RJ(i:Nat)(s:List Int×ae):Int×List Int×List ByteArray×List aw×List af×List af×List Int:=((i:Int),s.1,s.2.F.F.N,s.2.F.F.F,s.2.F.N,s.2.N,s.2.L)
def TC{p:aB}{evs:List ax}(hz:be evs<=1048576)(h20:evs.length<=20){i:Nat}{s:List Int×ae}{e:ax}(he:evs[i]?=some e)(hI:ReI p i s):
 De evs (RJ i s)=some (if eE e.F p.F.F.length then .inl (RJ (i+1) (s.1++[evW (evS s.2 e)],evS s.2 e)) else .inr (.inr ([],sa,false))):=by
 have hlt:=(A1.1 he).1;have hf:=z_ev hz he;have hr:=sE hI.ok;have hout:=hI.out;unfold De RJ;dsimp only;rw[decide_eq_true (show(i:Int)<(evs.length:Int) by omega),cond_true];refine fh (v:=e) (by rw[aO,he]) ?_;refine fh (nt s.2 e.F hr hf) ?_;rw[show(cO s.2&&eE e.F s.2.F.F.F.length)=eE e.F p.F.F.length by rw[hI.ok,hI.net,A9]];rcases bt (eE e.F p.F.F.length) with hs|hs
 ·have hs':eE e.F s.2.F.F.F.length=true:=by rw[hI.net];exact hs
  obtain⟨a1,a2⟩:=sU hI.ok hs';obtain⟨b1,b2⟩:=tr a1;obtain⟨c1,c2⟩:=tm b1;have hR:=jl c1;rw[hs,if_pos rfl];simp only[A5,cond_false];refine fh (v:=((ev1 s.2 e).F.F.N,(ev1 s.2 e).F.F.F,(ev1 s.2 e).F.N,(ev1 s.2 e).N,(ev1 s.2 e).L)) ?_ ?_
  ·unfold ev1;rcases bt e.N with ef|ef
   ·rw[ef,cond_true,if_pos rfl];exact fh (oW s.2 e.F hr hf) rfl
   ·rw[ef,cond_false,if_neg (by simp)];exact fh (mB s.2 e.F hr hf) rfl
  ·refine fh (oQ (ev1 s.2 e) (sE a1)) ?_;refine fh (mz (raP (ev1 s.2 e)).1 (sE b1)) ?_;refine fh (vk (rvP (raP (ev1 s.2 e)).1).1 hR.hm.len hR.pl.len) ?_;simp only[bnd];rw[aQ (by omega),A0,afi,aC (n:=(i:Int)+1) (by omega) (by omega)];rfl
 ·rw[hs,if_neg (by simp)];rfl
theorem pD(p:aB)(evs:List ax)(hz:bW p<=1048576)(hz2:be evs<=1048576):Ih p evs=some (reP p evs):=by
 unfold Ih reP;refine fh (jV p hz) ?_;unfold srP;rcases bt (fk p) with e|e
 ·rw[e,if_pos rfl,A9];simp only[A5,cond_false,A0];by_cases h20:evs.length<=20
  ·rw[decide_eq_false (show¬(20:Int)<(evs.length:Int) by omega),decide_eq_true h20,cond_false,if_pos rfl];have key:=dj (f:=De evs) evs RJ
    (fun i e s=>match reG p.F.F.length i e s with| .inl a=>.inl a| .inr _=>.inr (.inr ([],sa,false))) (fun s=>.inl (s.1,s.2.F.F.N,s.2.F.F.F,s.2.F.N,s.2.N,s.2.L)) (fun i s=>ReI p i s) (fun i s e he hI=>by
     have h:=TC hz2 h20 he hI;unfold reG;rcases bt (eE e.F p.F.F.length) with hs|hs
     ·rw[hs,if_pos rfl] at h;exact .inl ⟨_,by rw[hs];rfl,hI.step hs,h⟩
     simp_all) (fun s _=>by simp[De,RJ]) ([],⟨p,p.N,[]⟩) (sH e) (by omega)
   refine fh key ?_;unfold reW;have gen:∀(ys:List ax)(i:Nat)(s:List Int×ae),(match(bH (fun i e s=>match reG p.F.F.length i e s with| .inl a=>.inl a| .inr _=>.inr (.inr ([],sa,false))) (fun s=>.inl (s.1,s.2.F.F.N,s.2.F.F.F,s.2.F.N,s.2.N,s.2.L)) i ys s:(List Int×List ByteArray×List aw×List af×List af×List Int)⊕(List Int×ae×Bool)) with| .inl vZ25=>some (vZ25.1,(⟨(⟨(⟨vZ25.2.1,vZ25.2.2.1⟩:ah),vZ25.2.2.2.1⟩:aB),vZ25.2.2.2.2.1,vZ25.2.2.2.2.2⟩:ae),true)| .inr xZ26=>some xZ26)=some (match bH (reG p.F.F.length) (fun s=>some s) i ys s with|some s=>(s.1,s.2,true)|none=>([],sa,false)):=by
    intro ys;induction ys with
    |nil=>intro i s;rfl
    | cons y ys ih =>
      intro i s;unfold bH;have hd:reG p.F.F.length i y s=.inl (s.1++[evW (evS s.2 y)],evS s.2 y)\/reG p.F.F.length i y s=.inr none:=by
       unfold reG;split
       ·exact .inl rfl
       ·exact .inr rfl
      rcases hd with hd|hd
      ·simp_all
      ·rw[hd]
   exact gen evs 0 _
  ·rw[decide_eq_true (show(20:Int)<(evs.length:Int) by omega),decide_eq_false h20];rfl
 ·rw[e];rfl
end Vs

namespace Vs
open Go
def Gj(i:Nat)(s:List Int×ae):Int×List Int×Nat×Nat×Nat×Nat×Nat×Nat×List ByteArray×List aw×List af×List af×List Int:=
 ((i:Int),s.1,0,s.2.F.F.N.length,0,s.2.F.F.F.length,0,s.2.F.N.length,s.2.F.F.N,s.2.F.F.F,s.2.F.N,s.2.N,s.2.L)
def TW{p:aB}{evs:List ax}(hz:be evs<=1048576)(h20:evs.length<=20){i:Nat}{s:List Int×ae}{e:ax}(he:evs[i]?=some e)(hI:ReI p i s):
 Bu p.F.N p.F.F p.N evs (Gj i s)=some (if eE e.F p.F.F.length then .inl (Gj (i+1) (s.1++[evW (evS s.2 e)],evS s.2 e)) else .inr (.inr (0,0,0,0,0,0,false,[],[],[],[],[],[],p.F.N,p.F.F,p.N,evs))):=by
 have hlt:=(A1.1 he).1;have hf:=z_ev hz he;have hr:=sE hI.ok;have hout:=hI.out;have hRs:=jl hI.ok;have hNb:=(de hRs.pl.net).2.2;rw[hI.net] at hNb;unfold Bu Gj;dsimp only;rw[decide_eq_true (show(i:Int)<(evs.length:Int) by omega),cond_true,aQ (by omega)];refine fh (v:=()) rfl ?_;refine fh (v:=e) (by rw[A4,he]) ?_;refine fh (v:=eE e.F p.F.F.length) (by rw[aC (by omega) (by omega)];exact BT e.F (p.F.F.length:Int) hf) ?_;rcases bt (eE e.F p.F.F.length) with hs|hs
 ·have hs':eE e.F s.2.F.F.F.length=true:=by rw[hI.net];exact hs
  obtain⟨a1,a2⟩:=sU hI.ok hs';obtain⟨b1,b2⟩:=tr a1;obtain⟨c1,c2⟩:=tm b1;have hR:=jl c1;have hra:(raP (ev1 s.2 e)).1=⟨⟨(ev1 s.2 e).F.F,(raF (ev1 s.2 e)).1⟩,(ev1 s.2 e).N,(ev1 s.2 e).L⟩:=by unfold raP;rw[if_pos a1]
  rw[hs,if_pos rfl];simp only[A5,cond_false];refine fh (v:=((ev1 s.2 e).F.F.N,(ev1 s.2 e).F.F.F,(ev1 s.2 e).F.N,(ev1 s.2 e).N,(ev1 s.2 e).L)) ?_ ?_
  ·have hc:(cO s.2&&eE e.F s.2.F.F.F.length)=true:=by rw[hI.ok,hs'];rfl
   unfold ev1;rcases bt e.N with ef|ef
   ·rw[ef,cond_true,if_pos rfl];unfold faP;rw[if_pos hc];exact fh (UH s.2 e.F hRs hr hs' hf) rfl
   ·rw[ef,cond_false,if_neg (by simp)];unfold rpP;rw[if_pos hc];simp only[bnd,dJ];exact fh (Wi s.2 e.F hr hf) rfl
  ·refine fh (XI (ev1 s.2 e) a1 (sE a1)) ?_;rw[hra] at b1;refine fh (WC (⟨⟨(ev1 s.2 e).F.F,(raF (ev1 s.2 e)).1⟩,(ev1 s.2 e).N,(ev1 s.2 e).L⟩:ae) b1 (sE b1)) ?_;rw[<-hra];simp only[bnd,dJ];refine fh (ol (rvP (raP (ev1 s.2 e)).1).1 hR.hm.len hR.pl.len) ?_;rw[aQ (by omega),A0,aC (n:=(i:Int)+1) (by omega) (by omega)];rfl
 ·rw[hs,if_neg (by simp)];rfl
def reB{β:Type}(N:Int)(bad:β)(i:Nat)(e:ax)(s:List Int×ae):(List Int×ae)⊕β:=match reG N i e s with
 | .inl a=>.inl a
 | .inr _=>.inr bad
theorem zH{β:Type}(N:Int)(bad:β)(fin:List Int×ae->β):∀(ys:List ax)(i:Nat)(s:List Int×ae),bH (reB N bad) fin i ys s=match bH (reG N) (fun s=>some s) i ys s with|some s=>fin s|none=>bad
 |[],_,_=>rfl
 | y :: ys, i, s => by
   rw[bH,bH];unfold reB reG;rcases bt (eE y.F N) with hs|hs
   ·rw[hs,if_pos rfl];exact zH N bad fin ys (i+1) _
   ·rw[hs,if_neg (by simp)]
theorem pc(p:aB)(evs:List ax)(hz:bW p<=1048576)(hz2:be evs<=1048576):MP p.F.N p.F.F p.N evs=
 some (0,(reP p evs).2.1.F.F.N.length,0,(reP p evs).2.1.F.F.F.length,0,(reP p evs).2.1.F.N.length,(reP p evs).2.2,(reP p evs).1,(reP p evs).2.1.F.F.N,(reP p evs).2.1.F.F.F,(reP p evs).2.1.F.N,(reP p evs).2.1.N,(reP p evs).2.1.L,
  p.F.N,p.F.F,p.N,evs):=by
 unfold MP reP;refine fh (jH p hz) ?_;unfold srP;rcases bt (fk p) with e|e
 ·rw[e,if_pos rfl,A9];simp only[A5,cond_false,A0];by_cases h20:evs.length<=20
  ·rw[decide_eq_false (show¬(20:Int)<(evs.length:Int) by omega),decide_eq_true h20,cond_false,if_pos rfl];have key:=dj (f:=Bu p.F.N p.F.F p.N evs) evs Gj
    (reB p.F.F.length (.inr (0,0,0,0,0,0,false,[],[],[],[],[],[],p.F.N,p.F.F,p.N,evs))) (fun s=>.inl (Gj 0 s).2) (fun i s=>ReI p i s) (fun i s e he hI=>by
     have h:=TW hz2 h20 he hI;unfold reB reG;rcases bt (eE e.F p.F.F.length) with hs|hs
     ·rw[hs,if_pos rfl] at h;exact .inl ⟨_,by rw[hs];rfl,hI.step hs,h⟩
     ·rw[hs,if_neg (by simp)] at h;exact .inr ⟨_,by rw[hs];rfl,h⟩) (fun s _=>by simp[Bu,Gj]) ([],⟨p,p.N,[]⟩) (sH e) (by omega)
   rw[zH] at key;refine fh key ?_;unfold reW;cases bH (reG p.F.F.length) (fun s=>some s) 0 evs ([],⟨p,p.N,[]⟩) with
   |none=>rfl
   |some s=>rfl
  ·rw[decide_eq_true (show(20:Int)<(evs.length:Int) by omega),decide_eq_false h20];rfl
 ·rw[e];rfl
theorem ZB(p:aB):∀(evs:List ax)(i:Nat)(s t:List Int×ae),ReI p i s->bH (reG p.F.F.length) (fun s=>some s) i evs s=some t->ReI p (i+evs.length) t
 |[],i,s,t,h,e=>by cases e;exact h
 | y :: ys, i, s, t, h, e => by
   unfold bH reG at e;rcases bt (eE y.F p.F.F.length) with hs|hs
   ·rw[hs,if_pos rfl] at e;have:=ZB p ys (i+1) _ t (h.step hs) e;rw[A8,show i+(ys.length+1)=i+1+ys.length by omega];exact this
   ·rw[hs,if_neg (by simp)] at e;cases e
def wY(p:aB)(evs:List ax)(hz:bW p<=1048576)(hz2:be evs<=1048576):bU (reP p evs).1<=1048576/\bc (reP p evs).2.1<=1048576:=by
 unfold reP;split
 ·rename_i e;simp only[A6,decide_eq_true_eq] at e;unfold reW;cases h:bH (reG p.F.F.length) (fun s=>some s) 0 evs ([],⟨p,p.N,[]⟩) with
  |none=>exact⟨E3 _,by decide⟩
  | some t =>
    have hI:=ZB p evs 0 _ t (sH e.1) h;have:=hI.out;exact⟨by show t.1.length<=_;omega,sE hI.ok⟩
 ·exact⟨E3 _,by decide⟩
end Vs

namespace Vs
open Go
theorem jO{α:Type}{xs:List α}{n:Nat}(h:xs.length=n):ca xs 0 n=xs:=by subst h;exact dJ xs
def mX(x1:aB)(x2:List ax)(o1:vU x1)(o2:iu x2):VV x1 x2=some true:=by
 unfold VV;rw[OE x1 _ (by omega) (by omega) o1];simp only[A0];by_cases hc1:(1048576:Int)-bW x1<0
 ·simp[hc1]
 simp only[hc1,if_false,decide_false,cond_false];rw[qo x2 _ (by omega) (by omega) o2];simp only[A0];by_cases hc2:(1048576:Int)-bW x1-be x2<0
 ·simp[hc2]
 simp only[hc2,if_false,decide_false,cond_false];have z1:bW x1<=1048576:=by omega
 have z2:be x2<=1048576:=by omega
 have zr:=wY x1 x2 z1 z2;obtain⟨zr1,zr2⟩:=zr;have w1:=w_kb x1;have f1:=xB 1 x1;have m1:=sQ x1 1 (by omega) (by omega) z1;have n1:decide ((ge 1 x1).1<0)=false:=decide_eq_false (by omega);have w2:=w_kc x2;have f2:=bx ee uv lN x2 ((ge 1 x1).1);have m2:=oB x2 ((ge 1 x1).1) (by omega) (by omega) z2;have n2:decide ((aA ee ((ge 1 x1).1) x2).1<0)=false:=decide_eq_false (by omega);have w3:=CE (reP x1 x2).1;have f3:=bx aZ cW gc (reP x1 x2).1 1;have m3:=km (reP x1 x2).1 1 (by omega) (by omega) zr1;have n3:decide ((aA aZ 1 (reP x1 x2).1).1<0)=false:=decide_eq_false (by omega);have w4:=w_kd (reP x1 x2).2.1;have f4:=mC ((aA aZ 1 (reP x1 x2).1).1) (reP x1 x2).2.1;have m4:=oY (reP x1 x2).2.1 ((aA aZ 1 (reP x1 x2).1).1) (by omega) (by omega) zr2;have n4:decide ((bd ((aA aZ 1 (reP x1 x2).1).1) (reP x1 x2).2.1).1<0)=false:=decide_eq_false (by omega);have grZ42:=ka (reP x1 x2).1 1 (by omega) (by omega) zr1;have grZ54:yf (⟨(⟨(⟨(bd ((aA aZ 1 (reP x1 x2).1).1) (reP x1 x2).2.1).2.1,(bd ((aA aZ 1 (reP x1 x2).1).1) (reP x1 x2).2.1).2.2.1⟩:ah),(bd ((aA aZ 1 (reP x1 x2).1).1) (reP x1 x2).2.1).2.2.2.1⟩:aB),(bd ((aA aZ 1 (reP x1 x2).1).1) (reP x1 x2).2.1).2.2.2.2.1,(bd ((aA aZ 1 (reP x1 x2).1).1) (reP x1 x2).2.1).2.2.2.2.2⟩:ae) ((aA aZ 1 (reP x1 x2).1).1)=some (bd ((aA aZ 1 (reP x1 x2).1).1) (reP x1 x2).2.1).1:=iP (reP x1 x2).2.1 ((aA aZ 1 (reP x1 x2).1).1) (by omega) (by omega) zr2;have grZ66:=ka (reP x1 x2).1 1 (by omega) (by omega) zr1;have grZ68:yf (⟨(⟨(⟨(bd ((aA aZ 1 (reP x1 x2).1).1) (reP x1 x2).2.1).2.1,(bd ((aA aZ 1 (reP x1 x2).1).1) (reP x1 x2).2.1).2.2.1⟩:ah),(bd ((aA aZ 1 (reP x1 x2).1).1) (reP x1 x2).2.1).2.2.2.1⟩:aB),(bd ((aA aZ 1 (reP x1 x2).1).1) (reP x1 x2).2.1).2.2.2.2.1,(bd ((aA aZ 1 (reP x1 x2).1).1) (reP x1 x2).2.1).2.2.2.2.2⟩:ae) ((aA aZ 1 (reP x1 x2).1).1)=some (bd ((aA aZ 1 (reP x1 x2).1).1) (reP x1 x2).2.1).1:=iP (reP x1 x2).2.1 ((aA aZ 1 (reP x1 x2).1).1) (by omega) (by omega) zr2;simp only[pc x1 x2 z1 z2,pD x1 x2 z1 z2,Md x1 z1,ql x2 z2,oJ ((reP x1 x2).1) zr1,qC ((reP x1 x2).2.1) zr2,Ad x1 z1,qv x2 z2,m1,n1,m2,n2,m3,n3,m4,n4,jO (bT aZ (reP x1 x2).1 1),grZ42,jO (lz ((aA aZ 1 (reP x1 x2).1).1) (reP x1 x2).2.1),jO (lM ((aA aZ 1 (reP x1 x2).1).1) (reP x1 x2).2.1),jO (lc ((aA aZ 1 (reP x1 x2).1).1) (reP x1 x2).2.1),jO (ln ((aA aZ 1 (reP x1 x2).1).1) (reP x1 x2).2.1),jO (lG ((aA aZ 1 (reP x1 x2).1).1) (reP x1 x2).2.1),grZ54,grZ66,grZ68,dJ,A0,A5,beq_self_eq_true,bnd,bne_self_eq_false,cond_false,cond_true]
end Vs

