/-
  Part of the proof that FnExactCheapestPair returns true at every input.
-/
import Derived.Test.YtfmhphgpijjejaaGreatUe
import Derived.Test.YtfmhphgpijjejaaGreatEa
set_option linter.defProp false
set_option linter.unusedSimpArgs false
set_option linter.unusedVariables false
namespace Vs
open Go
theorem xY:∀(ns:List Int)(r:ByteArray),(ns.foldl (fun r n=>r.push (UInt8.ofNat n.toNat)) r).size=r.size+ns.length
 |[],r=>by simp
 | n :: ns, r => by
   simp only[List.foldl_cons,xY ns,List.length_cons,ByteArray.size_push];omega
theorem pB(ns:List Int):(b2s ns).size=ns.length:=by
 unfold b2s;rw[xY];simp
def txt(k:Int):ByteArray:=(xw k).getD ⟨#[]⟩
theorem wu(k:Int)(h0:0<=k)(h1:k<=1000000000000):xw k=some (txt k):=by
 have:∃r,xw k=some r:=by
  unfold xw;by_cases h:k<=0
  ·exact⟨_,by rw[decide_eq_true h,cond_true]⟩
  ·rw[decide_eq_false h,cond_false];obtain⟨b,hb,hq⟩:=cz (f:=AC) (fun s=>0<=s.1/\s.2.size<=13/\s.1*10^s.2.size<=1000000000000) (fun s=>s.1.toNat) (fun b=>b.size<=13) (fun s hI=>by
    obtain⟨a,z⟩:=s;obtain⟨i1,i2,i3⟩:=hI;simp only at i1 i2 i3;by_cases hp:0<a
    ·left;have hz:z.size<=12:=by
      apply Decidable.byContradiction;intro hc;have e:z.size=13:=by omega
      rw[e] at i3;omega
     have hd:10*(a.tdiv 10)<=a:=by rw[Int.tdiv_eq_ediv_of_nonneg i1];omega
     have hd2:a.tdiv 10<a:=by rw[Int.tdiv_eq_ediv_of_nonneg i1];omega
     have hd3:0<=a.tdiv 10:=by rw[Int.tdiv_eq_ediv_of_nonneg i1];omega
     have hpow:(0:Int)<=10^z.size:=Int.le_of_lt (Int.pow_pos (by omega));have ha:a<=1000000000000:=by
      have h1:(1:Int)<=10^z.size:=Int.pow_pos (by omega);have:=Int.mul_le_mul_of_nonneg_left h1 i1;omega
     refine⟨(a.tdiv 10,b2s [IntKind.wrap .u8 (IntKind.wrap .i64 (48+(Int.tmod a 10)))]++z),?_,⟨hd3,?_,?_⟩,by simp only;omega⟩
     ·simp only[AC,decide_eq_true hp,cond_true,bnd];rw[bD (by omega),bD (by rw[pB];simp;omega)];simp only[Option.bind_some];rw[aH (n:=Int.tdiv a 10) (by omega) (by omega)]
     ·simp only[ByteArray.size_append,pB,List.length_cons,List.length_nil];omega
     ·simp only[ByteArray.size_append,pB,List.length_cons,List.length_nil];rw[show 0+1+z.size=z.size+1 by omega,Int.pow_succ,Int.mul_comm (10^z.size) 10,<-Int.mul_assoc,Int.mul_comm (a.tdiv 10) 10];exact Int.le_trans (Int.mul_le_mul_of_nonneg_right hd hpow) i3
    ·right;exact⟨z,by simp only[AC,decide_eq_false hp,cond_false],i2⟩) N0 (k,⟨#[]⟩) ⟨h0,by show(0:Nat)<=13;omega,by show k*10^0<=1000000000000;simpa using h1⟩ (eH (by simp;omega))
   rw[hb];simp only[Option.bind_some];rw[bD (by have:(⟨#[109]⟩:ByteArray).size=1:=rfl;omega)];exact⟨_,rfl⟩
 obtain⟨r,hr⟩:=this;unfold txt;rw[hr];rfl
def bL(xs:(List ByteArray)):Nat:=xs.length+(xs.map fun x=>x.size).sum
def kQ(xs:(List ByteArray)):Prop:=xs.length<=9223372036854775807/\∀x∈xs,x.size<=9223372036854775807
theorem tY(xs:(List ByteArray))(l:Int)(h1:0<=l)(h2:l<=1048576)(hs:kQ xs):FO xs l=some (if l-bL xs<0 then(-1:Int) else l-bL xs):=by
 unfold FO;have hs1:=hs.1;rw[aH (by omega) (by omega)];simp only[gB,decide_eq_true_eq];by_cases h:l-(xs.length:Int)<0
 ·rw[if_pos h,if_pos (by unfold bL;omega)]
 ·rw[if_neg h,KP (f:=M_k xs) xs (fun x=>x.size) (fun i x l' hx h3 h4=>by
   have hlt:=(List.getElem?_eq_some_iff.1 hx).1;have h1:decide ((i:Int)<xs.length)=true:=by simp[hlt]
   have hx2:=hs.2 x (List.mem_of_getElem? hx);simp only[M_k,h1,cond_true,aW,hx,Option.bind_some,gB,decide_eq_true_eq];rw[aH (by omega) (by omega),aH (by omega) (by omega)];by_cases h5:l'-(x.size:Int)<0
   ·simp only[if_pos h5,if_true]
   ·simp only[if_neg h5,if_true];rfl) (fun l=>by simp[M_k]) _ (by omega) (by omega) (by omega)]
  have e:l-(xs.length:Int)-((xs.map fun x=>x.size).sum:Nat)=l-(bL xs:Int):=by unfold bL;omega
  rw[e];by_cases h5:l-(bL xs:Int)<0
  ·simp only[if_pos h5,Option.bind_some]
  ·simp only[if_neg h5,Option.bind_some]
theorem uw(xs:(List ByteArray))(hl:bL xs<=1048576):ED xs=some xs:=by
 unfold ED;have hlen:xs.length<=1048576:=by unfold bL at hl;omega
 have key:=fun l0(h0:l0.length=xs.length)=>ml (f:=M_y xs) xs id l0 h0 (fun i l x y hx hy hll=>by
  have hlt:=(List.getElem?_eq_some_iff.1 hx).1;have h1:decide ((i:Int)<xs.length)=true:=by simp[hlt]
  have h2:(0<=(i:Int)/\(i:Int)<(l.length:Int)):=by omega
  simp only[M_y,h1,cond_true,aW,hx,Option.bind_some,bD h2,Int.toNat_natCast,hy,bnd,id];rw[aH (by omega) (by omega)];rfl) (fun l=>by simp[M_y]) (by omega)
 rw[bD (by omega)];simp only[Option.bind_some,bnd];rw[key _ (by simp)];simp
theorem uS(xs:(List ByteArray))(hl:bL xs<=1048576):Ka xs xs=some true:=by
 unfold Ka;have hlen:xs.length<=1048576:=by unfold bL at hl;omega
 rw[nI (f:=AN xs xs) xs (fun i x hx=>by
  have hlt:=(List.getElem?_eq_some_iff.1 hx).1;have h1:decide ((i:Int)<xs.length)=true:=by simp[hlt]
  simp only[AN,h1,cond_true,aW,hx,Option.bind_some,beq_self_eq_true,Bool.not_true,cond_false];rw[aH (by omega) (by omega)];rfl) (by simp[AN]) (by omega)]
 simp
theorem BN(x:ax):AH x=some x:=by unfold AH;rfl
theorem AY(x:ax):zA x x=some true:=by unfold zA;simp
def cw(xs:(List ax)):Nat:=xs.length
def im(xs:(List ax)):Prop:=xs.length<=9223372036854775807
theorem vJ(xs:(List ax))(l:Int)(h1:0<=l)(h2:l<=1048576)(hs:im xs):Ft xs l=some (if l-cw xs<0 then(-1:Int) else l-cw xs):=by
 unfold Ft;unfold im at hs;rw[aH (by omega) (by omega)];simp only[gB,decide_eq_true_eq];by_cases h:l-(xs.length:Int)<0
 ·rw[if_pos h,if_pos (show l-(cw xs:Int)<0 from h)]
 ·rw[if_neg h,if_neg (show¬l-(cw xs:Int)<0 from h)];rfl
theorem vz(xs:(List ax))(hl:cw xs<=1048576):IG xs=some xs:=by
 unfold IG;have hlen:xs.length<=1048576:=by unfold cw at hl;omega
 have key:=fun l0(h0:l0.length=xs.length)=>ml (f:=M_z xs) xs id l0 h0 (fun i l x y hx hy hll=>by
  have hlt:=(List.getElem?_eq_some_iff.1 hx).1;have h1:decide ((i:Int)<xs.length)=true:=by simp[hlt]
  have h2:(0<=(i:Int)/\(i:Int)<(l.length:Int)):=by omega
  have hto:AH x=some x:=BN x;simp only[M_z,h1,cond_true,aW,hx,Option.bind_some,bD h2,Int.toNat_natCast,hy,hto,bnd,id];rw[aH (by omega) (by omega)];rfl) (fun l=>by simp[M_z]) (by omega)
 rw[bD (by omega)];simp only[Option.bind_some,bnd];rw[key _ (by simp)];simp
theorem wQ(xs:(List ax))(hl:cw xs<=1048576):Dp xs xs=some true:=by
 unfold Dp;have hlen:xs.length<=1048576:=by unfold cw at hl;omega
 rw[nI (f:=Bx xs xs) xs (fun i x hx=>by
  have hlt:=(List.getElem?_eq_some_iff.1 hx).1;have h1:decide ((i:Int)<xs.length)=true:=by simp[hlt]
  have he:zA x x=some true:=AY x;simp only[Bx,h1,cond_true,aW,hx,Option.bind_some,he,Bool.not_true,cond_false];rw[aH (by omega) (by omega)];rfl) (by simp[Bx]) (by omega)]
 simp
def bb(x:ae):Nat:=bL x.N+cw x.F
def kK(x:ae):Prop:=kQ x.N/\im x.F
theorem tA(x:ae)(l:Int)(h1:0<=l)(h2:l<=1048576)(hs:kK x):Gn x l=some (if l-bb x<0 then(-1:Int) else l-bb x):=by
 unfold Gn;obtain⟨hs0,hs1⟩:=hs;rw[tY _ _ (by omega) (by omega) hs0];simp only[Option.bind_some];by_cases h10:l-(bL x.N:Int)<0
 ·rw[if_pos h10,if_pos (show l-(bb x:Int)<0 by unfold bb;omega)];simp
 ·simp only[if_neg h10];simp only[h10,decide_false,cond_false];rw[vJ _ _ (by omega) (by omega) hs1];simp only[Option.bind_some];by_cases h11:l-(bL x.N:Int)-(cw x.F:Int)<0
  ·rw[if_pos h11,if_pos (show l-(bb x:Int)<0 by unfold bb;omega)];simp
  ·simp only[if_neg h11];simp only[h11,decide_false,cond_false];have e:l-(bL x.N:Int)-(cw x.F:Int)=l-(bb x:Int):=by unfold bb;omega
   rw[e,if_neg (by omega)]
theorem tl(x:ae)(hl:bb x<=1048576):tz x=some x:=by
 unfold tz;simp only[uw x.N (by unfold bb at hl;omega),vz x.F (by unfold bb at hl;omega),Option.bind_some]
theorem tL(x:ae)(hl:bb x<=1048576):Jw x x=some true:=by
 unfold Jw;simp[uS x.N (by unfold bb at hl;omega),wQ x.F (by unfold bb at hl;omega)]
theorem wz(x:au):zY x=some x:=by unfold zY;rfl
theorem vG(x:au):Bz x x=some true:=by unfold Bz;simp
def bQ(xs:(List au)):Nat:=xs.length
def gw(xs:(List au)):Prop:=xs.length<=9223372036854775807
theorem sU(xs:(List au))(l:Int)(h1:0<=l)(h2:l<=1048576)(hs:gw xs):Hq xs l=some (if l-bQ xs<0 then(-1:Int) else l-bQ xs):=by
 unfold Hq;unfold gw at hs;rw[aH (by omega) (by omega)];simp only[gB,decide_eq_true_eq];by_cases h:l-(xs.length:Int)<0
 ·rw[if_pos h,if_pos (show l-(bQ xs:Int)<0 from h)]
 ·rw[if_neg h,if_neg (show¬l-(bQ xs:Int)<0 from h)];rfl
theorem ux(xs:(List au))(hl:bQ xs<=1048576):ug xs=some xs:=by
 unfold ug;have hlen:xs.length<=1048576:=by unfold bQ at hl;omega
 have key:=fun l0(h0:l0.length=xs.length)=>ml (f:=AF xs) xs id l0 h0 (fun i l x y hx hy hll=>by
  have hlt:=(List.getElem?_eq_some_iff.1 hx).1;have h1:decide ((i:Int)<xs.length)=true:=by simp[hlt]
  have h2:(0<=(i:Int)/\(i:Int)<(l.length:Int)):=by omega
  have hto:zY x=some x:=wz x;simp only[AF,h1,cond_true,aW,hx,Option.bind_some,bD h2,Int.toNat_natCast,hy,hto,bnd,id];rw[aH (by omega) (by omega)];rfl) (fun l=>by simp[AF]) (by omega)
 rw[bD (by omega)];simp only[Option.bind_some,bnd];rw[key _ (by simp)];simp
theorem tk(xs:(List au))(hl:bQ xs<=1048576):GJ xs xs=some true:=by
 unfold GJ;have hlen:xs.length<=1048576:=by unfold bQ at hl;omega
 rw[nI (f:=zr xs xs) xs (fun i x hx=>by
  have hlt:=(List.getElem?_eq_some_iff.1 hx).1;have h1:decide ((i:Int)<xs.length)=true:=by simp[hlt]
  have he:Bz x x=some true:=vG x;simp only[zr,h1,cond_true,aW,hx,Option.bind_some,he,Bool.not_true,cond_false];rw[aH (by omega) (by omega)];rfl) (by simp[zr]) (by omega)]
 simp
theorem wN(x:aI):ve x=some x:=by unfold ve;rfl
def fm(xs:(List Int)):Nat:=xs.length
theorem Hn(xs:(List Int))(hl:fm xs<=1048576):FZ xs xs=some true:=by
 unfold FZ;have hlen:xs.length<=1048576:=by unfold fm at hl;omega
 rw[nI (f:=BL xs xs) xs (fun i x hx=>by
  have hlt:=(List.getElem?_eq_some_iff.1 hx).1;have h1:decide ((i:Int)<xs.length)=true:=by simp[hlt]
  simp only[BL,h1,cond_true,aW,hx,Option.bind_some,bne_self_eq_false,cond_false];rw[aH (by omega) (by omega)];rfl) (by simp[BL]) (by omega)]
 simp
def dJ(x:ah):Nat:=fm x.F
theorem rf(x:ah)(hl:dJ x<=1048576):pW x x=some true:=by
 unfold pW;simp[Hn x.F (by unfold dJ at hl;omega)]
def dc(k:Int)(_:ByteArray):Int×ByteArray:=(k+1,txt k)
def lq(_:ByteArray):Nat:=1
theorem kJ(k:Int)(x:ByteArray):(dc k x).1=k+(lq x:Int):=rfl
theorem w_fv(xs:(List ByteArray)):(xs.map lq).sum<=16*bL xs:=by
 unfold bL;induction xs with
 |nil=>simp
 |cons x xs ih=>simp only[List.map_cons,List.sum_cons,List.length_cons,lq] at ih⊢;omega
theorem qB(xs:(List ByteArray))(k0:Int)(hk:0<=k0)(hK:k0+((xs.map lq).sum:Nat)<=1000000000000)(hl:bL xs<=1048576):FY k0 xs=some (cl dc k0 xs):=by
 unfold FY;have hlen:xs.length<=1048576:=by unfold bL at hl;omega
 rw[jT (f:=zD) xs dc lq kJ 1000000000000 (fun i x k l hll hi hx hli h0 hK2=>by
  have hw1:lq x=lq x:=rfl;have h1:decide ((i:Int)<(l.length:Int))=true:=decide_eq_true (by omega);have h2:0<=(i:Int)/\(i:Int)<(l.length:Int):=by omega
  simp only[zD,h1,cond_true,bD h2,Option.bind_some,Int.toNat_natCast,hli,bnd,wu k h0 (by omega)];rw[aH (n:=k+1) (by unfold lq at hK2;omega) (by unfold lq at hK2;omega),aH (n:=(i:Int)+1) (by unfold lq at hK2;omega) (by unfold lq at hK2;omega)];rfl) (fun k l hll=>by simp[zD,hll]) k0 hk hK (by omega)]
 rfl
def eK(k:Int)(_:ax):Int×ax:=(k+4,⟨k,k+1,k+2,k+3⟩)
def w_v(_:ax):Nat:=4
theorem mu(k:Int)(x:ax):(eK k x).1=k+(w_v x:Int):=rfl
theorem w_fw(xs:(List ax)):(xs.map w_v).sum<=16*cw xs:=by
 unfold cw;induction xs with
 |nil=>simp
 |cons x xs ih=>simp only[List.map_cons,List.sum_cons,List.length_cons,w_v] at ih⊢;omega
theorem sB(xs:(List ax))(k0:Int)(hk:0<=k0)(hK:k0+((xs.map w_v).sum:Nat)<=1000000000000)(hl:cw xs<=1048576):HG k0 xs=some (cl eK k0 xs):=by
 unfold HG;have hlen:xs.length<=1048576:=by unfold cw at hl;omega
 rw[jT (f:=zR) xs eK w_v mu 1000000000000 (fun i x k l hll hi hx hli h0 hK2=>by
  have hw1:w_v x=w_v x:=rfl;have h1:decide ((i:Int)<(l.length:Int))=true:=decide_eq_true (by omega);have h2:0<=(i:Int)/\(i:Int)<(l.length:Int):=by omega
  simp only[zR,h1,cond_true,bD h2,Option.bind_some,Int.toNat_natCast,hli,bnd,List.getElem?_set_self (show i<l.length by omega),List.set_set];rw[aH (n:=k+1) (by unfold w_v at hK2;omega) (by unfold w_v at hK2;omega),aH (n:=k+1+1) (by unfold w_v at hK2;omega) (by unfold w_v at hK2;omega),aH (n:=k+1+1+1) (by unfold w_v at hK2;omega) (by unfold w_v at hK2;omega),aH (n:=k+1+1+1+1) (by unfold w_v at hK2;omega) (by unfold w_v at hK2;omega),aH (n:=(i:Int)+1) (by unfold w_v at hK2;omega) (by unfold w_v at hK2;omega)];simp only[Int.add_assoc,Int.reduceAdd,eK];rfl) (fun k l hll=>by simp[zR,hll]) k0 hk hK (by omega)]
 rfl
def eD(k:Int)(x:ae):Int×List ByteArray×List ax:=((cl eK (cl dc k x.N).1 x.F).1,(cl dc k x.N).2,(cl eK (cl dc k x.N).1 x.F).2)
def ft(x:ae):Nat:=(x.N.map lq).sum+(x.F.map w_v).sum
theorem nj(k:Int)(x:ae):(eD k x).1=k+(ft x:Int):=by
 unfold eD ft;simp only[dr dc lq kJ,dr eK w_v mu];try omega
theorem w_ft(x:ae):ft x<=16*bb x:=by
 unfold ft;have hz:bb x=bL x.N+cw x.F:=by unfold bb;omega
 have:=w_fv x.N;have:=w_fw x.F;omega
theorem qc(x:ae)(k0:Int)(hk:0<=k0)(hK:k0+(ft x:Int)<=1000000000000)(hl:bb x<=1048576):CR k0 x.N x.F=some (eD k0 x):=by
 unfold CR;unfold ft at hK;have hz:bb x=bL x.N+cw x.F:=by unfold bb;omega
 have f0:=dr dc lq kJ x.N k0;have f1:=dr eK w_v mu x.F ((cl dc k0 x.N).1);rw[qB x.N k0 (by omega) (by omega) (by omega)];simp only[Option.bind_some];rw[sB x.F ((cl dc k0 x.N).1) (by omega) (by omega) (by omega)];simp only[Option.bind_some];rfl
def fj(k:Int)(_:au):Int×au:=(k+2,⟨k,k+1⟩)
def lD(_:au):Nat:=2
theorem pC(k:Int)(x:au):(fj k x).1=k+(lD x:Int):=rfl
theorem w_fu(xs:(List au)):(xs.map lD).sum<=16*bQ xs:=by
 unfold bQ;induction xs with
 |nil=>simp
 |cons x xs ih=>simp only[List.map_cons,List.sum_cons,List.length_cons,lD] at ih⊢;omega
theorem qz(xs:(List au))(k0:Int)(hk:0<=k0)(hK:k0+((xs.map lD).sum:Nat)<=1000000000000)(hl:bQ xs<=1048576):Hg k0 xs=some (cl fj k0 xs):=by
 unfold Hg;have hlen:xs.length<=1048576:=by unfold bQ at hl;omega
 rw[jT (f:=BB) xs fj lD pC 1000000000000 (fun i x k l hll hi hx hli h0 hK2=>by
  have hw1:lD x=lD x:=rfl;have h1:decide ((i:Int)<(l.length:Int))=true:=decide_eq_true (by omega);have h2:0<=(i:Int)/\(i:Int)<(l.length:Int):=by omega
  simp only[BB,h1,cond_true,bD h2,Option.bind_some,Int.toNat_natCast,hli,bnd,List.getElem?_set_self (show i<l.length by omega),List.set_set];rw[aH (n:=k+1) (by unfold lD at hK2;omega) (by unfold lD at hK2;omega),aH (n:=k+1+1) (by unfold lD at hK2;omega) (by unfold lD at hK2;omega),aH (n:=(i:Int)+1) (by unfold lD at hK2;omega) (by unfold lD at hK2;omega)];simp only[Int.add_assoc,Int.reduceAdd,fj];rfl) (fun k l hll=>by simp[BB,hll]) k0 hk hK (by omega)]
 rfl
def cJ(k:Int)(_:Int):Int×Int:=(k+1,k)
def cX(_:Int):Nat:=1
theorem lQ(k:Int)(x:Int):(cJ k x).1=k+(cX x:Int):=rfl
theorem w_fx(xs:(List Int)):(xs.map cX).sum<=16*fm xs:=by
 unfold fm;induction xs with
 |nil=>simp
 |cons x xs ih=>simp only[List.map_cons,List.sum_cons,List.length_cons,cX] at ih⊢;omega
theorem vX(xs:(List Int))(k0:Int)(hk:0<=k0)(hK:k0+((xs.map cX).sum:Nat)<=1000000000000)(hl:fm xs<=1048576):Ii k0 xs=some (cl cJ k0 xs):=by
 unfold Ii;have hlen:xs.length<=1048576:=by unfold fm at hl;omega
 rw[jT (f:=Cw) xs cJ cX lQ 1000000000000 (fun i x k l hll hi hx hli h0 hK2=>by
  have hw1:cX x=cX x:=rfl;have h1:decide ((i:Int)<(l.length:Int))=true:=decide_eq_true (by omega);have h2:0<=(i:Int)/\(i:Int)<(l.length:Int):=by omega
  simp only[Cw,h1,cond_true,bD h2,Option.bind_some,Int.toNat_natCast,hli,bnd];rw[aH (n:=k+1) (by unfold cX at hK2;omega) (by unfold cX at hK2;omega),aH (n:=(i:Int)+1) (by unfold cX at hK2;omega) (by unfold cX at hK2;omega)];rfl) (fun k l hll=>by simp[Cw,hll]) k0 hk hK (by omega)]
 rfl
theorem vC(xs:(List Int))(k0:Int)(hk:0<=k0)(hK:k0+((xs.map cX).sum:Nat)<=1000000000000)(hl:fm xs<=1048576):AX (cl cJ k0 xs).2 k0=some (cl cJ k0 xs).1:=by
 unfold AX;have hlen:xs.length<=1048576:=by unfold fm at hl;omega
 rw[BZ (f:=Aj (cl cJ k0 xs).2) xs cJ cX lQ 1000000000000 k0 (fun i x k hx hm h0 hK2=>by
  have hi:=(List.getElem?_eq_some_iff.1 hx).1;have h1:decide ((i:Int)<((cl cJ k0 xs).2.length:Int))=true:=decide_eq_true (by rw[dq];omega);simp only[Aj,h1,cond_true,aW,hm,Option.bind_some,cJ,bne_self_eq_false,cond_false];rw[aH (n:=k+1) (by unfold cX at hK2;omega) (by unfold cX at hK2;omega),aH (n:=(i:Int)+1) (by unfold cX at hK2;omega) (by unfold cX at hK2;omega)];rfl) (fun k=>by simp[Aj,dq]) hk hK (by omega)]
 rfl
def bU(k:Int)(x:ah):Int×List Int:=((cl cJ k x.F).1,(cl cJ k x.F).2)
theorem jG(k:Int)(x:ah):(bU k x).2.length=x.F.length:=dq cJ _ _
def fL(x:ah):Nat:=(x.F.map cX).sum
def qK(k:Int)(x:ah):ah:=⟨x.N,(cl cJ k x.F).2⟩
theorem kw(k:Int)(x:ah):(bU k x).1=k+(fL x:Int):=by
 unfold bU fL;simp only[dr cJ cX lQ];try omega
theorem w_fs(x:ah):fL x<=16*dJ x:=by
 unfold fL;have hz:dJ x=fm x.F:=by unfold dJ;omega
 have:=w_fx x.F;omega
theorem mN(x:ah)(k0:Int)(hk:0<=k0)(hK:k0+(fL x:Int)<=1000000000000)(hl:dJ x<=1048576):zK x.N k0 x.F=some (bU k0 x):=by
 unfold zK;unfold fL at hK;have hz:dJ x=fm x.F:=by unfold dJ;omega
 have f0:=dr cJ cX lQ x.F k0;rw[vX x.F k0 (by omega) (by omega) (by omega)];simp only[Option.bind_some];rfl
theorem mI(x:ah)(k0:Int)(hk:0<=k0)(hK:k0+(fL x:Int)<=1000000000000)(hl:dJ x<=1048576):pV (qK k0 x) k0=some (bU k0 x).1:=by
 unfold fL at hK;have hz:dJ x=fm x.F:=by unfold dJ;omega
 have f0:=dr cJ cX lQ x.F k0;have h0:AX (qK k0 x).F k0=some (cl cJ k0 x.F).1:=vC x.F k0 (by omega) (by omega) (by omega);have n0:decide ((cl cJ k0 x.F).1<0)=false:=decide_eq_false (by omega);unfold pV;simp only[h0,n0,Option.bind_some,cond_false];rfl
end Vs

namespace Vs
open Go
def wi(x a b:Int):Bool:=decide (a<=x)&&decide (x<=b)
theorem cG{x a b:Int}:wi x a b=true↔a<=x/\x<=b:=by simp[wi]
theorem tP{x a b:Int}:wi x a b=false↔¬(a<=x/\x<=b):=by rw[<-cG];simp
theorem eR(x a b:Int):M_b x a b=some (wi x a b):=by
 unfold M_b wi;by_cases h:a<=x<;>simp[h]
theorem mB(x a b:Int):M_c x a b=some (wi x a b):=by
 unfold M_c wi;by_cases h:a<=x<;>simp[h]
def qv(c:UInt8):Bool:=decide (97<=c.toNat)&&decide (c.toNat<=122)
def tQ(c:UInt8):Bool:=decide (48<=c.toNat)&&decide (c.toNat<=57)
def ge(i:Nat)(c:UInt8):Bool:=!qv c&&(!tQ c||i==0)
def oA(s:ByteArray):Bool:=!eV ge s.data.toList&&wi s.size 1 8
theorem oa(s:ByteArray)(i:Nat):sD s (i:Int)=s.data.toList[i]?:=by
 unfold sD;rw[if_pos (by omega),Int.toNat_natCast];by_cases h:i<s.size
 ·have h2:i<s.data.toList.length:=by simpa using h
  rw[getElem?_pos s i h,List.getElem?_eq_getElem h2];rfl
 ·have h2:¬i<s.data.toList.length:=by simpa using h
  rw[getElem?_neg s i h,List.getElem?_eq_none (Nat.le_of_not_lt h2)]
theorem fy(s:ByteArray):s.size=s.data.toList.length:=by show s.data.size=s.data.toList.length;rw[Array.length_toList]
theorem vQ(c:UInt8):qv c=(decide (97<=(c.toNat:Int))&&decide ((c.toNat:Int)<=122)):=by
 unfold qv;congr 1<;>exact decide_eq_decide.2 (by omega)
theorem Dk(c:UInt8):tQ c=(decide (48<=(c.toNat:Int))&&decide ((c.toNat:Int)<=57)):=by
 unfold tQ;congr 1<;>exact decide_eq_decide.2 (by omega)
theorem Jt(s:ByteArray)(hl:s.size<=1048576):EB s=some (oA s):=by
 unfold EB oA;rw[fy] at*
 rw[eG (f:=Ad s) s.data.toList ge (.inr false) (.inl ()) (fun i c hc _=>by
  have hlt:=(List.getElem?_eq_some_iff.1 hc).1;have h1:decide ((i:Int)<s.size)=true:=decide_eq_true (by rw[fy];omega);simp only[Ad,h1,cond_true,oa,hc,Option.bind_some,ge,vQ,Dk];rw[aH (by omega) (by omega)];have hi:((i:Int)==0)=(i==0):=by rw[Bool.eq_iff_iff];simp
  rw[hi];cases decide (97<=(c.toNat:Int))<;>cases decide ((c.toNat:Int)<=122)<;>cases decide (48<=(c.toNat:Int))<;>cases decide ((c.toNat:Int)<=57)<;>cases(i==0)<;>rfl) (by simp[Ad]) (by omega)]
 rw[<-fy];cases eV ge s.data.toList<;>simp[eR]
theorem Gt(c:UInt8):Dh (c.toNat:Int)=some (qv c||tQ c):=by
 unfold Dh;simp only[vQ,Dk];cases decide (97<=(c.toNat:Int))<;>cases decide ((c.toNat:Int)<=122)<;>cases decide (48<=(c.toNat:Int))<;>rfl
theorem fstc(c:UInt8):(cond (decide ((c.toNat:Int)<97)) (some true) (some (decide (122<(c.toNat:Int)))):Option Bool)=some (!qv c):=by
 rw[vQ];by_cases h1:(c.toNat:Int)<97
 ·have h2:¬97<=(c.toNat:Int):=by omega
  simp[h1,h2]
 ·have h2:97<=(c.toNat:Int):=by omega
  simp only[h1,decide_false,cond_false,h2,decide_true,Bool.true_and];by_cases h3:122<(c.toNat:Int)
  ·have h4:¬(c.toNat:Int)<=122:=by omega
   simp[h3,h4]
  ·have h4:(c.toNat:Int)<=122:=by omega
   simp[h3,h4]
theorem IK(s:ByteArray)(hl:s.size<=1048576):DS s=some (oA s):=by
 unfold DS oA;simp only[mB,Option.bind_some];rcases bt (wi s.size 1 8) with hw|hw
 ·simp only[hw,Bool.not_true,cond_false,Bool.and_true];have hs:0<s.data.toList.length:=by rw[<-fy];have:=(cG.1 hw).1;omega
  have h0:s.data.toList[0]?=some s.data.toList[0]:=List.getElem?_eq_getElem hs;have g0:sD s 0=some s.data.toList[0]:=by rw[<-h0];exact oa s 0
  simp only[g0,Option.bind_some];have key:=eG (f:=M_a s) s.data.toList (fun _ c=>!(qv c||tQ c)) (.inr false) (.inl ()) (fun i c hc _=>by
   have hlt:=(List.getElem?_eq_some_iff.1 hc).1;have h1:decide ((i:Int)<s.size)=true:=decide_eq_true (by rw[fy];omega);rw[fy] at hl;simp only[M_a,h1,cond_true,oa,hc,Option.bind_some,Gt];rw[aH (by omega) (by omega)];cases qv c<;>cases tQ c<;>rfl) (by simp[M_a]) (by rw[fy] at hl;omega)
  rw[fstc];simp only[Option.bind_some,key];rcases bt (qv s.data.toList[0]) with hL|hL
  ·simp only[hL,Bool.not_true,cond_false];have e:eV (fun _ c=>!(qv c||tQ c)) s.data.toList=eV ge s.data.toList:=by
    refine vl fun i c hc _=>?_;unfold ge;by_cases hi:i=0
    ·subst hi;rw[h0] at hc;cases hc;rw[hL];rfl
    ·have:(i==0)=false:=by simpa using hi
     rw[this];cases qv c<;>cases tQ c<;>rfl
   rw[e];cases eV ge s.data.toList<;>rfl
  ·have:eV ge s.data.toList=true:=gr.2 ⟨0,_,h0,by unfold ge;rw[hL];simp⟩;simp only[hL,this,Bool.not_false,cond_true,Bool.not_true]
 ·simp[hw]
def PI(v:ByteArray)(xs:List ByteArray):Option (Nat×ByteArray):=ct (fun _ x=>x.toList==v.toList) xs
def Lt(v:ByteArray)(xs:List ByteArray):Int:=match PI v xs with|some q=>(q.1:Int)|none=>-1
theorem Fw(xs:List ByteArray)(v:ByteArray)(hl:xs.length<=1048576):Ku xs v=some (Lt v xs):=by
 unfold Ku Lt;rw[cI (f:=BA xs v) xs (fun _ x=>x.toList==v.toList) (fun i _=>(i:Int)) () (fun i x hx _=>by
  have hlt:=(List.getElem?_eq_some_iff.1 hx).1;have h1:decide ((i:Int)<xs.length)=true:=by simp[hlt]
  simp only[BA,h1,cond_true,aW,hx,Option.bind_some];rw[aH (by omega) (by omega)];cases x.toList==v.toList<;>rfl) (by simp[BA]) (by omega)]
 unfold PI;cases ct (fun _ x=>x.toList==v.toList) xs<;>rfl
theorem rF(xs:List ByteArray)(v:ByteArray)(hl:xs.length<=1048576):HJ xs v=some (xs.any fun x=>x.toList==v.toList):=by
 unfold HJ LY;rw[cI (f:=BE xs v) xs (fun _ x=>x.toList==v.toList) (fun i _=>(i:Int)) () (fun i x hx _=>by
  have hlt:=(List.getElem?_eq_some_iff.1 hx).1;have h1:decide ((i:Int)<xs.length)=true:=by simp[hlt]
  simp only[BE,h1,cond_true,aW,hx,Option.bind_some];rw[aH (by omega) (by omega),show(v.toList==x.toList)=(x.toList==v.toList) from Bool.beq_comm ..];cases x.toList==v.toList<;>rfl) (by simp[BE]) (by omega)]
 cases e:ct (fun _ x=>x.toList==v.toList) xs with
 | none =>
   have:=dK.1 e;have h:(xs.any fun x=>x.toList==v.toList)=false:=by
    rw[<-pU (fun x:ByteArray=>x.toList==v.toList),dz];exact this
   rw[h];rfl
 | some q =>
   obtain⟨i,x⟩:=q;obtain⟨h1,h2,_⟩:=cB.1 e;have h:(xs.any fun x=>x.toList==v.toList)=true:=List.any_eq_true.2 ⟨x,List.mem_of_getElem? h1,h2⟩;rw[h];simp
def cH(x y:Int):Int:=if x<y then -1 else if y<x then 1 else 0
theorem sM(x y:Int):M_i x y=some (cH x y):=by
 unfold M_i sZ cH;by_cases h:x<y
 ·simp[h]
 ·by_cases h2:y<x<;>simp[h,h2]
def xe(f g:ax):Int:=if f.A≠g.A then cH f.A g.A else if f.B≠g.B then cH f.B g.B else if f.N≠g.N then cH f.N g.N else cH f.F g.F
theorem bT{x y:Int}:cH x y=0↔x=y:=by
 unfold cH;split
 ·simp;omega
 ·split
  ·simp;omega
  ·simp;omega
theorem nq(f g:ax):FK f g=some (xe f g):=by
 unfold FK;simp only[sM,Option.bind_some,bnd];unfold M_r;have key:=cI (f:=M_j [cH f.A g.A,cH f.B g.B,cH f.N g.N,cH f.F g.F]) [cH f.A g.A,cH f.B g.B,cH f.N g.N,cH f.F g.F] (fun _ x=>x !=0) (fun _ x=>x) () (fun i x hx _=>by
  have hlt:=(List.getElem?_eq_some_iff.1 hx).1;have h1:decide ((i:Int)<([cH f.A g.A,cH f.B g.B,cH f.N g.N,cH f.F g.F].length:Nat))=true:=decide_eq_true (by omega);simp only[List.length_cons,List.length_nil] at hlt;simp only[M_j,h1,cond_true,aW,hx,Option.bind_some];rw[aH (by omega) (by omega)];cases x !=0<;>rfl) (by simp[M_j]) (by simp)
 rw[key];unfold xe ct;simp only[List.zipIdx_cons,List.zipIdx_nil,List.find?_cons,List.find?_nil];by_cases h1:f.A=g.A
 ·rw[bT.2 h1];by_cases h2:f.B=g.B
  ·rw[bT.2 h2];by_cases h3:f.N=g.N
   ·rw[bT.2 h3];by_cases h4:f.F=g.F
    ·simp[h1,h2,h3,h4,bT.2]
    ·have:(cH f.F g.F !=0)=true:=bne_iff_ne.2 fun e=>h4 (bT.1 e);simp[h1,h2,h3,this]
   ·have:(cH f.N g.N !=0)=true:=bne_iff_ne.2 fun e=>h3 (bT.1 e);simp[h1,h2,h3,this]
  ·have:(cH f.B g.B !=0)=true:=bne_iff_ne.2 fun e=>h2 (bT.1 e);simp[h1,h2,this]
 ·have:(cH f.A g.A !=0)=true:=bne_iff_ne.2 fun e=>h1 (bT.1 e);simp[h1,this]
end Vs

namespace Vs
open Go
theorem Lw{α:Type}(xs:List α)(i:Nat)(h:i<=xs.length):slT xs (i:Int)=some (xs.take i):=by
 unfold slT;rw[if_pos ⟨by omega,by simpa using h⟩];simp
theorem OA{n:ae}(h:bb n<=1048576):n.N.length<=1048576/\n.F.length<=1048576/\∀x∈n.N,x.size<=1048576:=by
 unfold bb bL cw at h;refine⟨by omega,by omega,fun x hx=>?_⟩;obtain⟨i,hi,rfl⟩:=List.getElem_of_mem hx;have:n.N[i].size<=(n.N.map fun x:ByteArray=>x.size).sum:=HA (fun x:ByteArray=>x.size) (xs:=n.N) (i:=i) (x:=n.N[i]) (by simp[hi]);omega
def iB(n:ae)(i:Nat)(x:ByteArray):Bool:=!oA x||(n.N.take i).any fun y=>y.toList==x.toList
def vV(m:Nat)(f:ax):Bool:=decide (f.A<0)||decide (f.B<=f.A)||decide ((m:Int)<=f.B)||!wi f.N 1 5000||!wi f.F 0 9
def gU(n:ae)(i:Nat)(f:ax):Bool:=vV n.N.length f||(decide (0<i)&&match n.F[i-1]? with|some g=>decide (0<xe g f)|none=>false)
def ce(n:ae):Bool:=!eV (iB n) n.N&&!eV (gU n) n.F&&wi n.N.length 2 8&&decide (n.F.length<=14)
theorem ip(n:ae)(hz:bb n<=1048576):BG n=some (ce n):=by
 obtain⟨h1,h2,h3⟩:=OA hz;unfold BG ce;rw[eG (f:=zl n) n.N (iB n) (.inr false) (.inl ()) (fun i x hx _=>by
  have hlt:=(List.getElem?_eq_some_iff.1 hx).1;have e1:decide ((i:Int)<n.N.length)=true:=by simp[hlt]
  simp only[zl,e1,cond_true,aW,hx,Option.bind_some,Jt x (h3 x (List.mem_of_getElem? hx)),Lw n.N i (Nat.le_of_lt hlt),rF (n.N.take i) x (by simp;omega),iB];rw[aH (by omega) (by omega)];rcases bt (oA x) with e|e<;>rcases bt ((n.N.take i).any (fun y=>y.toList==x.toList)) with e'|e'<;>simp only[e,e']<;>rfl) (by simp[zl]) (by omega)]
 rcases bt (eV (iB n) n.N) with hN|hN
 ·simp[hN]
 ·simp only[hN,Bool.false_eq_true,if_false,Option.bind_some,Bool.not_false,Bool.true_and];rw[eG (f:=zH n) n.F (gU n) (.inr false) (.inl ()) (fun i x hx _=>by
   have hlt:=(List.getElem?_eq_some_iff.1 hx).1;have e1:decide ((i:Int)<n.F.length)=true:=by simp[hlt]
   simp only[zH,e1,cond_true,aW,hx,Option.bind_some,eR];rw[aH (n:=(i:Int)+1) (by omega) (by omega)];unfold gU vV;cases decide (x.A<0)
   ·cases decide (x.B<=x.A)
    ·cases decide ((n.N.length:Int)<=x.B)
     ·cases wi x.N 1 5000
      ·rfl
      ·cases wi x.F 0 9
       ·rfl
       ·by_cases hi:0<i
        ·have hi':decide ((0:Int)<(i:Int))=true:=by simp[hi]
         have hp:n.F[i-1]?=some n.F[i-1]:=List.getElem?_eq_getElem (by omega);have hw:IntKind.wrap .i64 ((i:Int)-1)=((i-1:Nat):Int):=by rw[aH (by omega) (by omega)];omega
         simp only[hi',cond_true,cond_false,Bool.not_true,hw,aW,hp,Option.bind_some,nq,hi,decide_true,Bool.true_and,Bool.false_or];cases decide (0<xe n.F[i-1] x)<;>rfl
        ·have hi':decide ((0:Int)<(i:Int))=false:=by simp;omega
         simp[hi',hi]
     ·rfl
    ·rfl
   ·rfl) (by simp[zH]) (by omega)]
  rcases bt (eV (gU n) n.F) with hF|hF
  ·simp[hF]
  ·simp only[hF,Bool.false_eq_true,if_false,Option.bind_some,Bool.not_false,Bool.true_and,eR];have e:decide ((n.F.length:Int)<=14)=decide (n.F.length<=14):=decide_eq_decide.2 (by omega);rw[e];cases wi n.N.length 2 8<;>rfl
theorem Dj(n:ae)(i:Nat)(x:ByteArray)(hx:n.N[i]?=some x):
 (Lt x n.N !=(i:Int))=(n.N.take i).any fun y=>y.toList==x.toList:=by
 unfold Lt;cases e:PI x n.N with
 | none =>
   have:=dK.1 e i x hx;simp at this
 | some q =>
   obtain⟨j,y⟩:=q;obtain⟨h1,h2,h3⟩:=cB.1 e;simp only;by_cases hj:j=i
   ·subst hj;have:((n.N.take j).any fun y=>y.toList==x.toList)=false:=by
     rw[List.any_eq_false];intro z hz;obtain⟨k,hk,rfl⟩:=List.getElem_of_mem hz;simp only[List.length_take] at hk;have:=h3 k (n.N.take j)[k] (by omega) (by rw[List.getElem_take];exact List.getElem?_eq_getElem (by omega));rw[this];simp
    rw[this];simp
   ·have hji:j<i:=by
     rcases Nat.lt_trichotomy j i with h|h|h
     ·exact h
     ·exact(hj h).elim
     ·have:=h3 i x h hx;simp at this
    have:((n.N.take i).any fun y=>y.toList==x.toList)=true:=List.any_eq_true.2 ⟨y,by
     have:(n.N.take i)[j]?=some y:=by rw[List.getElem?_take,if_pos hji];exact h1
     exact List.mem_of_getElem? this,h2⟩
    rw[this];simp;omega
theorem Ay(f:ax)(m:Nat)(hm:m<=8)(hm2:2<=m):DN f (m:Int)=some (!vV m f):=by
 unfold DN vV;simp only[mB,Option.bind_some];rw[aH (n:=(m:Int)-1) (by omega) (by omega)];rcases bt (wi f.A 0 ((m:Int)-1)) with h1|h1
 ·have h2:=cG.1 h1;rw[aH (n:=f.A+1) (by omega) (by omega)];rcases bt (wi f.B (f.A+1) ((m:Int)-1)) with h3|h3
  ·have h4:=cG.1 h3;have a1:decide (f.A<0)=false:=by simp;omega
   have a2:decide (f.B<=f.A)=false:=by simp;omega
   have a3:decide ((m:Int)<=f.B)=false:=by simp;omega
   simp only[h1,h3,a1,a2,a3,cond_true,Bool.false_or];cases wi f.N 1 5000<;>cases wi f.F 0 9<;>rfl
  ·have h4:=tP.1 h3;simp only[h1,h3,cond_true,cond_false];by_cases a2:f.B<=f.A
   ·simp[a2]
   ·have a3:(m:Int)<=f.B:=by omega
    simp[a3]
 ·have h2:=tP.1 h1;simp only[h1,cond_false];by_cases a1:f.A<0
  ·simp[a1]
  ·by_cases a2:f.B<=f.A
   ·simp[a2]
   ·have a3:(m:Int)<=f.B:=by omega
    simp[a3]
structure sN(m:Int)(f:ax):Prop where
 a0:0<=f.A
 ab:f.A<f.B
 bm:f.B<m
 l1:1<=f.N
 l2:f.N<=5000
 r0:0<=f.F
 r9:f.F<=9
theorem ny{m:Nat}{f:ax}(h:vV m f=false):sN m f:=by
 unfold vV at h;simp only[Bool.or_eq_false_iff,decide_eq_false_iff_not,Bool.not_eq_false',cG] at h;obtain⟨⟨⟨⟨h1,h2⟩,h3⟩,h4,h5⟩,h6,h7⟩:=h;exact⟨by omega,by omega,by omega,h4,h5,h6,h7⟩
theorem Gk(f g:ax)(m:Nat)(hm:m<=8)(hf:sN m f)(hg:sN m g):∃r,Ei f g=some r/\decide (0<r)=decide (0<xe f g):=by
 obtain⟨a1,a2,a3,a4,a5,a6,a7⟩:=hf;obtain⟨b1,b2,b3,b4,b5,b6,b7⟩:=hg;have sgn:∀x y:Int,decide (0<x-y)=decide (0<cH x y):=by
  intro x y;unfold cH;by_cases h:x<y
  ·rw[if_pos h];exact decide_eq_decide.2 (by omega)
  ·rw[if_neg h];by_cases h2:y<x
   ·rw[if_pos h2];exact decide_eq_decide.2 (by omega)
   ·rw[if_neg h2];exact decide_eq_decide.2 (by omega)
 unfold Ei xe;rw[aH (n:=f.A-g.A) (by omega) (by omega),aH (n:=f.B-g.B) (by omega) (by omega),aH (n:=f.N-g.N) (by omega) (by omega),aH (n:=f.F-g.F) (by omega) (by omega)];by_cases h1:f.A=g.A
 ·have e1:(f.A !=g.A)=false:=by rw[h1];simp
  by_cases h2:f.B=g.B
  ·have e2:(f.B !=g.B)=false:=by rw[h2];simp
   by_cases h3:f.N=g.N
   ·have e3:(f.N !=g.N)=false:=by rw[h3];simp
    exact⟨f.F-g.F,by simp only[e1,e2,e3,cond_false],by simp only[h1,h2,h3,ne_eq,not_true,if_false];exact sgn _ _⟩
   ·have e3:(f.N !=g.N)=true:=bne_iff_ne.2 h3;exact⟨f.N-g.N,by simp only[e1,e2,e3,cond_false,cond_true],by simp only[h1,h2,h3,ne_eq,not_true,not_false_eq_true,if_false,if_true];exact sgn _ _⟩
  ·have e2:(f.B !=g.B)=true:=bne_iff_ne.2 h2;exact⟨f.B-g.B,by simp only[e1,e2,cond_false,cond_true],by simp only[h1,h2,ne_eq,not_true,not_false_eq_true,if_false,if_true];exact sgn _ _⟩
 ·have e1:(f.A !=g.A)=true:=bne_iff_ne.2 h1;exact⟨f.A-g.A,by simp only[e1,cond_true],by simp only[h1,ne_eq,not_false_eq_true,if_true];exact sgn _ _⟩
theorem Ko(n:ae)(hz:bb n<=1048576):FB n=some (ce n):=by
 obtain⟨z1,z2,z3⟩:=OA hz;unfold FB ce;simp only[mB,Option.bind_some];rcases bt (wi n.N.length 2 8) with hw|hw
 ·have hw2:=cG.1 hw;have e:decide (14<(n.F.length:Int))=!decide (n.F.length<=14):=by
   rw[<-decide_not];exact decide_eq_decide.2 (by omega)
  simp only[hw,e,Bool.not_true,cond_false,Option.bind_some,Bool.and_true];rcases bt (decide (n.F.length<=14)) with h14|h14
  ·simp only[h14,Bool.not_true,cond_false,Bool.and_true];rw[eG (f:=M_d n) n.N (iB n) (.inr false) (.inl ()) (fun i x hx _=>by
    have hlt:=(List.getElem?_eq_some_iff.1 hx).1;have e1:decide ((i:Int)<n.N.length)=true:=by simp[hlt]
    simp only[M_d,e1,cond_true,aW,hx,Option.bind_some,IK x (z3 x (List.mem_of_getElem? hx)),Fw n.N x z1,Dj n i x hx,iB];rw[aH (by omega) (by omega)];rcases bt (oA x) with e|e<;>rcases bt ((n.N.take i).any (fun y=>y.toList==x.toList)) with e'|e'<;>simp only[e,e']<;>rfl) (by simp[M_d]) (by omega)]
   rcases bt (eV (iB n) n.N) with hN|hN
   ·simp[hN]
   ·simp only[hN,Bool.false_eq_true,if_false,Option.bind_some,Bool.not_false,Bool.true_and];rw[eG (f:=Cc n) n.F (gU n) (.inr false) (.inl ()) (fun i x hx hprev=>by
     have hlt:=(List.getElem?_eq_some_iff.1 hx).1;have e1:decide ((i:Int)<n.F.length)=true:=by simp[hlt]
     simp only[Cc,e1,cond_true,aW,hx,Option.bind_some,Ay x n.N.length (by omega) (by omega),Bool.not_not];rw[aH (n:=(i:Int)+1) (by omega) (by omega)];unfold gU;rcases bt (vV n.N.length x) with h1|h1
     ·simp[h1]
     ·simp only[h1,cond_false,Bool.false_or];by_cases hi:0<i
      ·have hi':decide ((0:Int)<(i:Int))=true:=by simp[hi]
       have hp:n.F[i-1]?=some n.F[i-1]:=List.getElem?_eq_getElem (by omega);have hw:IntKind.wrap .i64 ((i:Int)-1)=((i-1:Nat):Int):=by rw[aH (by omega) (by omega)];omega
       have hb:=hprev (i-1) n.F[i-1] (by omega) hp;unfold gU at hb;simp only[Bool.or_eq_false_iff] at hb;obtain⟨r,r1,r2⟩:=Gk n.F[i-1] x n.N.length (by omega) (ny hb.1) (ny h1);simp only[hi',cond_true,hw,aW,hp,Option.bind_some,r1,r2,hi,decide_true,Bool.true_and];cases decide (0<xe n.F[i-1] x)<;>rfl
      ·have hi':decide ((0:Int)<(i:Int))=false:=by simp;omega
       simp[hi',hi]) (by simp[Cc]) (by omega)]
    cases eV (gU n) n.F<;>rfl
  ·simp[h14]
 ·simp[hw]
end Vs

namespace Vs
open Go
theorem yM{n:ae}(h:ce n=true):2<=n.N.length/\n.N.length<=8/\n.F.length<=14:=by
 unfold ce at h;simp only[Bool.and_eq_true,decide_eq_true_eq,cG] at h;omega
theorem qU{n:ae}(h:ce n=true){i:Nat}{f:ax}(hf:n.F[i]?=some f):sN n.N.length f:=by
 unfold ce at h;simp only[Bool.and_eq_true,Bool.not_eq_true'] at h;have:=dz.1 h.1.1.2 i f hf;unfold gU at this;simp only[Bool.or_eq_false_iff] at this;exact ny this.1
def dE(r:Int):Nat->List ax->List Int
 |_,[]=>[]
 |i,f::fs=>if f.F=r then(i:Int)::dE r (i+1) fs else dE r (i+1) fs
theorem jR(r:Int)(i:Nat)(f:ax)(fs:List ax):dE r i (f::fs)=if f.F=r then(i:Int)::dE r (i+1) fs else dE r (i+1) fs:=rfl
theorem lx(r:Int):∀(fs:List ax)(i:Nat),(dE r i fs).length<=fs.length
 |[],i=>by simp[dE]
 | f :: fs, i => by
   have:=lx r fs (i+1);rw[jR];split<;>simp<;>omega
theorem nN(r:Int):∀(fs:List ax)(i:Nat)(x:Int),x∈dE r i fs↔∃j f,fs[j]?=some f/\f.F=r/\x=((i+j:Nat):Int)
 |[],i,x=>by simp[dE]
 | f :: fs, i, x => by
   have ih:=nN r fs (i+1) x;have step:(∃j g,(f::fs)[j]?=some g/\g.F=r/\x=((i+j:Nat):Int))↔(f.F=r/\x=(i:Int))\/∃j g,fs[j]?=some g/\g.F=r/\x=((i+1+j:Nat):Int):=by
    constructor
    ·rintro⟨j,g,h1,h2,h3⟩;cases j with
     |zero=>simp at h1;subst h1;exact .inl ⟨h2,h3⟩
     |succ j=>exact .inr ⟨j,g,by simpa using h1,h2,by rw[h3];congr 1;omega⟩
    ·rintro(⟨h1,h2⟩|⟨j,g,h1,h2,h3⟩)
     ·exact⟨0,f,rfl,h1,h2⟩
     ·exact⟨j+1,g,by simpa using h1,h2,by rw[h3];congr 1;omega⟩
   rw[step,<-ih];rw[jR];split
   ·rename_i h;simp[h]
   ·rename_i h;simp[h]
theorem rp(r:Int):∀(fs:List ax)(i:Nat)(acc:List Int),cr (fun i(f:ax)(a:List Int)=>(.inl (if f.F=r then a++[(i:Int)] else a):List Int⊕List Int)) (fun a=>a) i fs acc=acc++dE r i fs
 |[],i,acc=>by simp[cr,dE]
 | f :: fs, i, acc => by
   simp only[cr];rw[rp r fs (i+1)];rw[jR];split<;>simp
def ib:List Int:=[1,2,3,4,5,6,7,8,9]
def cT(n:ae):List (List Int):=((ib.map fun r=>dE r 0 n.F).filter fun l=>decide (0<l.length))++(dE 0 0 n.F).map fun i=>[i]
theorem sX(n:ae)(h:n.F.length<=14):(cT n).length<=23:=by
 have:=lx 0 n.F 0;have h2:=List.length_filter_le (fun l:List Int=>decide (0<l.length)) (ib.map fun r=>dE r 0 n.F);have h3:(ib.map fun r=>dE r 0 n.F).length=9:=rfl;unfold cT;simp only[List.length_append,List.length_map];omega
theorem um{f:Int×List Int->Option ((Int×List Int)⊕List Int)}(fs:List ax)(r:Int)(hl:fs.length<=1048576)
 (h1:∀(i:Nat) x(a:List Int),fs[i]?=some x->a.length<=i->f ((i:Int),a)=some (.inl (((i+1:Nat):Int),if x.F=r then a++[(i:Int)] else a)))
 (h2:∀a,f ((fs.length:Int),a)=some (.inr a)):bg f N0 (0,[])=some (dE r 0 fs):=by
 have:=dH (f:=f) fs (fun i(a:List Int)=>((i:Int),a)) (fun i x a=>.inl (if x.F=r then a++[(i:Int)] else a)) (fun a=>a) (fun i a=>a.length<=i) (fun i a x hx hI=>by
  refine .inl ⟨_,rfl,?_,h1 i x a hx hI⟩;split<;>first|omega|(simp only[List.length_append,List.length_cons,List.length_nil];omega)) (fun a _=>h2 a) [] (by simp) (by omega)
 rw[show bg f N0 (0,[])=_ from this,rp];rfl
theorem Jd{f:Int×List (List Int)->Option ((Int×List (List Int))⊕List (List Int))}(fs:List ax)(G:List (List Int))(hl:fs.length<=1048576)(hG:G.length<=100)
 (h1:∀(i:Nat) x(a:List (List Int)),fs[i]?=some x->a.length<=100+i->f ((i:Int),a)=some (.inl (((i+1:Nat):Int),if x.F=0 then a++[[(i:Int)]] else a)))
 (h2:∀a,f ((fs.length:Int),a)=some (.inr a)):bg f N0 (0,G)=some (G++(dE 0 0 fs).map fun i=>[i]):=by
 have:=dH (f:=f) fs (fun i(a:List (List Int))=>((i:Int),a)) (fun i x a=>.inl (if x.F=0 then a++[[(i:Int)]] else a)) (fun a=>a) (fun i a=>a.length<=100+i) (fun i a x hx hI=>by
  refine .inl ⟨_,rfl,?_,h1 i x a hx hI⟩;split<;>first|omega|(simp only[List.length_append,List.length_cons,List.length_nil];omega)) (fun a _=>h2 a) G (by omega) (by omega)
 rw[show bg f N0 (0,G)=_ from this];have gen:∀(fs:List ax)(i:Nat)(acc:List (List Int)),cr (fun i(f:ax)(a:List (List Int))=>(.inl (if f.F=0 then a++[[(i:Int)]] else a):List (List Int)⊕List (List Int))) (fun a=>a) i fs acc=acc++(dE 0 i fs).map fun i=>[i]:=by
  intro fs;induction fs with
  |nil=>intro i acc;simp[cr,dE]
  | cons f fs ih =>
    intro i acc;simp only[cr];rw[ih (i+1)];rw[jR];split<;>simp
 rw[gen]
theorem Cj{f:Int×List (List Int)->Option ((Int×List (List Int))⊕List (List Int))}(fs:List ax)
 (h1:∀(r:Int)(a:List (List Int)),1<=r->r<=9->a.length<=10->f (r,a)=some (.inl (r+1,if 0<(dE r 0 fs).length then a++[dE r 0 fs] else a)))
 (h2:∀a,f (10,a)=some (.inr a)):bg f N0 (1,[])=some ((ib.map fun r=>dE r 0 fs).filter fun l=>decide (0<l.length)):=by
 have:=dH (f:=f) ib (fun i(a:List (List Int))=>((i:Int)+1,a)) (fun i r a=>.inl (if 0<(dE r 0 fs).length then a++[dE r 0 fs] else a)) (fun a=>a) (fun i a=>a.length<=i) (fun i a r hr hI=>by
  have hi:i<9:=by have:=(List.getElem?_eq_some_iff.1 hr).1;simpa[ib] using this
  have e:(i:Int)+1=r:=by
   rcases i with _|_|_|_|_|_|_|_|_|i<;>first|(simp[ib] at hr;omega)|omega
  refine .inl ⟨_,rfl,?_,?_⟩
  ·split<;>first|omega|(simp only[List.length_append,List.length_cons,List.length_nil];omega)
  ·rw[e,h1 r a (by omega) (by omega) (by omega)];have:((i+1:Nat):Int)+1=r+1:=by omega
   rw[this]) (fun a _=>by have:=h2 a;simpa[ib] using this) [] (by simp) (by simp[ib])
 rw[show bg f N0 (1,[])=_ from this];have gen:∀(rs:List Int)(i:Nat)(acc:List (List Int)),cr (fun(_:Nat)(r:Int)(a:List (List Int))=>(.inl (if 0<(dE r 0 fs).length then a++[dE r 0 fs] else a):List (List Int)⊕List (List Int))) (fun a=>a) i rs acc=
  acc++(rs.map fun r=>dE r 0 fs).filter fun l=>decide (0<l.length):=by
  intro rs;induction rs with
  |nil=>intro i acc;simp[cr]
  | cons r rs ih =>
    intro i acc;simp only[cr];rw[ih (i+1),List.map_cons,List.filter_cons];by_cases h:0<(dE r 0 fs).length
    ·simp[h]
    ·simp[h]
 rw[gen];rfl
theorem DB(n:ae)(h:n.F.length<=14):IJ n=some (cT n):=by
 unfold IJ;rw[Cj (f:=zL n) n.F (fun r a hr1 hr9 ha=>by
  have e1:decide (r<=9)=true:=by simp[hr9]
  simp only[zL,e1,cond_true];rw[um (f:=Aa n (r,a)) n.F r (by omega) (fun i x b hx hb=>by
   have hlt:=(List.getElem?_eq_some_iff.1 hx).1;have e1:decide ((i:Int)<n.F.length)=true:=by simp[hlt]
   simp only[Aa,e1,cond_true,aW,hx,Option.bind_some,bnd];rw[bD (by omega),aH (by omega) (by omega)];by_cases e:x.F=r
   ·simp[e]
   ·simp[e,gB]) (fun a=>by simp[Aa])]
  simp only[Option.bind_some,bnd];rw[bD (by omega),aH (by omega) (by omega)];by_cases e:0<(dE r 0 n.F).length
  ·have e':decide ((0:Int)<((dE r 0 n.F).length:Int))=true:=by simpa using e
   simp only[e',cond_true,if_pos e,Option.bind_some]
  ·have e':decide ((0:Int)<((dE r 0 n.F).length:Int))=false:=by simpa using e
   simp only[e',cond_false,if_neg e]) (fun a=>by simp[zL])]
 simp only[Option.bind_some];have hl:=List.length_filter_le (fun l:List Int=>decide (0<l.length)) (ib.map fun r=>dE r 0 n.F);have hl9:(ib.map fun r=>dE r 0 n.F).length=9:=rfl;rw[Jd (f:=Cl n) n.F _ (by omega) (by omega) (fun i x a hx ha=>by
  have hlt:=(List.getElem?_eq_some_iff.1 hx).1;have e1:decide ((i:Int)<n.F.length)=true:=by simp[hlt]
  simp only[Cl,e1,cond_true,aW,hx,Option.bind_some,bnd];rw[bD (by omega),aH (by omega) (by omega)];by_cases e:x.F=0
  ·simp[e]
  ·simp[e,gB]) (fun a=>by simp[Cl])]
 rfl
theorem Ba(n:ae)(h:n.F.length<=14)(i:Nat)(f:ax)(hf:n.F[i]?=some f)(hr:f.F≠0):wq n (i:Int)=some (dE f.F 0 n.F):=by
 unfold wq;have e:(f.F==0)=false:=by simpa using hr
 simp only[aW,hf,Option.bind_some,e,cond_false];rw[um (f:=M_g n (i:Int)) n.F f.F (by omega) (fun j x b hx hb=>by
  have hlt:=(List.getElem?_eq_some_iff.1 hx).1;have e1:decide ((j:Int)<n.F.length)=true:=by simp[hlt]
  simp only[M_g,e1,cond_true,aW,hx,hf,Option.bind_some,bnd];rw[bD (by omega),aH (by omega) (by omega)];by_cases e:x.F=f.F
  ·simp[e]
  ·simp[e,gB]) (fun a=>by simp[M_g])]
 rfl
end Vs

namespace Vs
open Go
theorem uz{r:Int}{fs:List ax}(h:fs.length<=14):∀x∈dE r 0 fs,0<=x/\x<14:=by
 intro x hx;obtain⟨j,f,hj,_,rfl⟩:=(nN r fs 0 x).1 hx;have:=(List.getElem?_eq_some_iff.1 hj).1;omega
theorem wI{n:ae}(h:n.F.length<=14):∀g∈cT n,g.length<=14/\∀x∈g,0<=x/\x<14:=by
 intro g hg;unfold cT at hg;rw[List.mem_append] at hg;rcases hg with hg|hg
 ·obtain⟨r,_,rfl⟩:=List.mem_map.1 (List.mem_filter.1 hg).1;exact⟨Nat.le_trans (lx ..) h,uz h⟩
 ·obtain⟨x,hx,rfl⟩:=List.mem_map.1 hg;exact⟨by simp,fun y hy=>by rw[List.mem_singleton.1 hy];exact uz h x hx⟩
theorem Hc{n:ae}(h:ce n=true):∀f∈n.F,f.A<n.N.length/\f.B<n.N.length:=by
 intro f hf;obtain⟨i,hi⟩:=List.getElem?_of_mem hf;obtain⟨h1,h2,h3⟩:=qU h hi;omega
def gJ(n:ae)(e:Int):Int:=match n.F[e.toNat]? with|some f=>f.F|none=>0
def mf(n:ae)(e:Int):List Int:=if gJ n e=0 then [e] else dE (gJ n e) 0 n.F
def lR(n:ae)(x y:Int):Prop:=x=y\/(gJ n x≠0/\gJ n x=gJ n y)
def il(n:ae)(e:Int):Prop:=0<=e/\e<(n.F.length:Int)
theorem sn{n:ae}{e:Int}(h:il n e):∃f,n.F[e.toNat]?=some f/\gJ n e=f.F:=by
 have hlt:e.toNat<n.F.length:=by have:=h.1;have:=h.2;omega
 refine⟨_,List.getElem?_eq_getElem hlt,?_⟩;unfold gJ;rw[List.getElem?_eq_getElem hlt]
theorem oe{n:ae}{r x:Int}:x∈dE r 0 n.F↔il n x/\gJ n x=r:=by
 rw[nN];constructor
 ·rintro⟨j,f,h1,h2,rfl⟩;have:=(List.getElem?_eq_some_iff.1 h1).1;refine⟨⟨by omega,by omega⟩,?_⟩;unfold gJ;rw[show((0+j:Nat):Int).toNat=j by omega,h1];exact h2
 ·rintro⟨h,hr⟩;obtain⟨f,h1,h2⟩:=sn h;exact⟨x.toNat,f,h1,by rw[<-h2];exact hr,by have:=h.1;omega⟩
theorem lG{n:ae}{x y:Int}(hy:il n y):y∈mf n x↔lR n x y:=by
 unfold mf lR;by_cases h:gJ n x=0
 ·rw[if_pos h,List.mem_singleton];exact⟨fun e=>.inl e.symm,fun e=>e.elim Eq.symm fun q=>(q.1 h).elim⟩
 ·rw[if_neg h,oe];constructor
  ·exact fun q=>.inr ⟨h,q.2.symm⟩
  ·rintro(rfl|q)
   ·exact⟨hy,rfl⟩
   ·exact⟨hy,q.2.symm⟩
theorem kZ{n:ae}{g:List Int}(hg:g∈cT n){x y:Int}(hx:x∈g)(hfx:il n x)(hfy:il n y):y∈g↔lR n x y:=by
 unfold cT at hg;rw[List.mem_append] at hg;rcases hg with hg|hg
 ·obtain⟨h1,_⟩:=List.mem_filter.1 hg;obtain⟨r,hr,rfl⟩:=List.mem_map.1 h1;have hr0:r≠0:=by unfold ib at hr;simp at hr;omega
  rw[oe] at hx⊢;unfold lR;constructor
  ·exact fun q=>.inr ⟨by rw[hx.2];exact hr0,by rw[hx.2,q.2]⟩
  ·rintro(rfl|q)
   ·exact hx
   ·exact⟨hfy,by rw[<-q.2,hx.2]⟩
 ·obtain⟨z,hz,rfl⟩:=List.mem_map.1 hg;rw[List.mem_singleton] at hx⊢;subst hx;have h0:=(oe.1 hz).2;unfold lR;exact⟨fun e=>.inl e.symm,fun e=>e.elim Eq.symm fun q=>(q.1 h0).elim⟩
theorem JL{n:ae}(h:ce n=true){x:Int}(hx:il n x):∃g∈cT n,x∈g:=by
 obtain⟨f,h1,h2⟩:=sn hx;have hf:=qU h h1;obtain⟨_,_,_,_,_,_,_⟩:=hf;unfold cT;by_cases h0:gJ n x=0
 ·exact⟨[x],List.mem_append_right _ (List.mem_map.2 ⟨x,oe.2 ⟨hx,h0⟩,rfl⟩),by simp⟩
 ·have hm:x∈dE (gJ n x) 0 n.F:=oe.2 ⟨hx,rfl⟩;refine⟨_,List.mem_append_left _ (List.mem_filter.2 ⟨List.mem_map.2 ⟨gJ n x,?_,rfl⟩,by simpa using List.length_pos_of_mem hm⟩),hm⟩;unfold ib;rw[h2] at h0⊢;simp only[List.mem_cons,List.not_mem_nil,or_false];omega
def lW(n:ae)(e:Int):Int:=match ct (fun _(g:List Int)=>decide (e∈g)) (cT n) with|some q=>(q.1:Int)|none=>-1
theorem tn{n:ae}(h:ce n=true){x y:Int}(hx:il n x)(hy:il n y):lW n x=lW n y↔lR n x y:=by
 obtain⟨g,hg,hm⟩:=JL h hx;constructor
 ·intro e;unfold lW at e;cases hf:ct (fun _(g:List Int)=>decide (x∈g)) (cT n) with
  | none =>
    obtain⟨i,hi⟩:=List.getElem?_of_mem hg;have:=dK.1 hf i g hi;simp[hm] at this
  | some q =>
    obtain⟨i,gx⟩:=q;obtain⟨k1,k2,_⟩:=cB.1 hf;rw[hf] at e;cases hf2:ct (fun _(g:List Int)=>decide (y∈g)) (cT n) with
    |none=>rw[hf2] at e;simp only at e;omega
    | some q2 =>
      obtain⟨j,gy⟩:=q2;obtain⟨m1,m2,_⟩:=cB.1 hf2;rw[hf2] at e;have hij:i=j:=by simp only at e;omega
      subst hij;rw[k1] at m1;cases m1;exact(kZ (List.mem_of_getElem? k1) (by simpa using k2) hx hy).1 (by simpa using m2)
 ·intro e;have e':lR n y x:=e.elim (fun q=>.inl q.symm) fun q=>.inr ⟨by rw[<-q.2];exact q.1,q.2.symm⟩;have key:∀g∈cT n,(x∈g↔y∈g):=fun g hg=>⟨fun q=>(kZ hg q hx hy).2 e,fun q=>(kZ hg q hy hx).2 e'⟩;have:ct (fun _(g:List Int)=>decide (y∈g)) (cT n)=ct (fun _(g:List Int)=>decide (x∈g)) (cT n):=by
   cases hf:ct (fun _(g:List Int)=>decide (x∈g)) (cT n) with
   | none =>
     rw[dK] at hf⊢;intro i z hz;have:=hf i z hz;simp only[decide_eq_false_iff_not] at this⊢;exact fun q=>this ((key z (List.mem_of_getElem? hz)).2 q)
   | some q =>
     obtain⟨i,gx⟩:=q;rw[cB] at hf⊢;obtain⟨k1,k2,k3⟩:=hf;simp only[decide_eq_true_eq,decide_eq_false_iff_not] at k2 k3⊢;exact⟨k1,(key gx (List.mem_of_getElem? k1)).1 k2,fun j z hj hz q=>k3 j z hj hz ((key z (List.mem_of_getElem? hz)).2 q)⟩
  unfold lW;rw[this]
def apP(n:ae)(a b:List Int):Bool:=!a.any fun x=>b.any fun y=>decide (y∈mf n x)
theorem zu{n:ae}(h:ce n=true){a b:List Int}(ha:∀x∈a,il n x)(hb:∀x∈b,il n x):(!(a.map (lW n)).any fun x=>decide (x∈b.map (lW n)))=apP n a b:=by
 unfold apP;congr 1;rw[Bool.eq_iff_iff];simp only[List.any_eq_true,List.mem_map,decide_eq_true_eq];constructor
 ·rintro⟨_,⟨x,hx,rfl⟩,y,hy,e⟩;exact⟨x,hx,y,hy,(lG (hb y hy)).2 ((tn h (ha x hx) (hb y hy)).1 e.symm)⟩
 ·rintro⟨x,hx,y,hy,e⟩;exact⟨_,⟨x,hx,rfl⟩,y,hy,((tn h (ha x hx) (hb y hy)).2 ((lG (hb y hy)).1 e)).symm⟩
end Vs

namespace Vs
open Go
def jF(f:ax)(v:Int):Int:=if v=f.A then f.B else if v=f.B then f.A else -1
def dD(n:ae)(e v:Int):Int:=match n.F[e.toNat]? with|some f=>jF f v|none=>-1
end Vs

namespace Vs
open Go
theorem zg(l:List Int)(x:Int)(hl:l.length<=1048576):xf l x=some (l.any fun y=>y==x):=by
 unfold xf;rw[mc (f:=Bh l x) l (fun y=>y==x) (.inr true) (.inl ()) (fun i y hy=>by
  have hlt:=(List.getElem?_eq_some_iff.1 hy).1;have h1:decide ((i:Int)<l.length)=true:=by simp[hlt]
  simp only[Bh,h1,cond_true,aW,hy,Option.bind_some];rw[aH (by omega) (by omega)];cases y==x<;>rfl) (by simp[Bh]) (by omega)]
 cases l.any fun y=>y==x<;>rfl
theorem sS{n:ae}{e:Int}(h:wi e 0 ((n.F.length:Int)-1)=true):∃f,bR n.F e=some f/\n.F[e.toNat]?=some f:=by
 rw[cG] at h;have hlt:e.toNat<n.F.length:=by omega
 refine⟨n.F[e.toNat],?_,List.getElem?_eq_getElem hlt⟩;have h3:=aW n.F e.toNat;rw[Int.toNat_of_nonneg h.1] at h3;rw[h3];exact List.getElem?_eq_getElem hlt
theorem Bg(n:ae)(e v:Int)(h:wi e 0 ((n.F.length:Int)-1)=true):Ci n e v=some (dD n e v):=by
 obtain⟨f,h1,h2⟩:=sS h;unfold Ci dD jF;rw[h1,h2];simp only[Option.bind_some];by_cases a:v=f.A
 ·rw[show(v==f.A)=true from by simpa using a,cond_true,if_pos a]
 ·rw[show(v==f.A)=false from by simpa using a,cond_false,if_neg a];by_cases b:v=f.B
  ·rw[show(v==f.B)=true from by simpa using b,cond_true,if_pos b]
  ·rw[show(v==f.B)=false from by simpa using b,cond_false,if_neg b]
end Vs

namespace Vs
open Go
theorem yu(xs:List Int)(v:Int)(hl:xs.length<=1048576):zI xs v=some (decide (v∈xs)):=by
 unfold zI KI;rw[cI (f:=Ch xs v) xs (fun _ x=>v==x) (fun i _=>(i:Int)) () (fun i x hx _=>by
  have hlt:=(List.getElem?_eq_some_iff.1 hx).1;have h1:decide ((i:Int)<xs.length)=true:=by simp[hlt]
  simp only[Ch,h1,cond_true,aW,hx,Option.bind_some];rw[aH (by omega) (by omega)];cases v==x<;>rfl) (by simp[Ch]) (by omega)]
 cases e:ct (fun _ x=>v==x) xs with
 | none =>
   have:=dK.1 e;have h:¬v∈xs:=fun hm=>by
    obtain⟨i,hi⟩:=List.getElem?_of_mem hm;have:=this i v hi;simp at this
   rw[decide_eq_false h];rfl
 | some q =>
   obtain⟨i,x⟩:=q;obtain⟨h1,h2,_⟩:=cB.1 e;have h:v∈xs:=by
    have:=eq_of_beq h2;rw[this];exact List.mem_of_getElem? h1
   rw[decide_eq_true h];simp
theorem vW(f:ax)(v:Int):Bn f v=some (jF f v):=by
 unfold Bn jF;by_cases a:v=f.A
 ·rw[show(v==f.A)=true from by simpa using a,cond_true,if_pos a]
 ·rw[show(v==f.A)=false from by simpa using a,cond_false,if_neg a];by_cases b:v=f.B
  ·rw[show(v==f.B)=true from by simpa using b,cond_true,if_pos b]
  ·rw[show(v==f.B)=false from by simpa using b,cond_false,if_neg b]
theorem rG(l:List Int)(e:Int):decide (e∈l)=l.any fun x=>x==e:=by
 rw[Bool.eq_iff_iff,decide_eq_true_iff,List.any_eq_true];constructor
 ·intro h;exact⟨e,h,by simp⟩
 ·rintro⟨x,hx,he⟩;rw[<-eq_of_beq he];exact hx
end Vs

namespace Vs
open Go
def Gm(n:ae)(e:Int)(a:Int×List Int):Bool:=!wi e 0 ((n.F.length:Int)-1)||decide (dD n e a.1<0)||decide (dD n e a.1∈a.2)
def zm(n:ae)(_:Nat)(e:Int)(a:Int×List Int):(Int×List Int)⊕Option (List Int):=if Gm n e a then .inr none else .inl (dD n e a.1,a.2++[dD n e a.1])
def xA(n:ae)(r:ah):Option (List Int):=if !wi r.N 0 ((n.N.length:Int)-1)||decide (r.F.length=0) then none else cr (zm n) (fun a=>some a.2) 0 r.F (r.N,[r.N])
theorem qT{n:ae}(hE:∀f∈n.F,f.A<n.N.length/\f.B<n.N.length):∀(xs:List Int)(i:Nat)(a:Int×List Int)(l:List Int),cr (zm n) (fun a=>some a.2) i xs a=some l->a.2.Nodup->(∀v∈a.2,0<=v/\v<(n.N.length:Int))->a.1∈a.2->
 l.Nodup/\(∀v∈l,0<=v/\v<(n.N.length:Int))/\l.length=a.2.length+xs.length/\(∀e∈xs,0<=e/\e<(n.F.length:Int))/\xs.Nodup/\∀e∈xs,∀f,n.F[e.toNat]?=some f->¬(f.A∈a.2/\f.B∈a.2)
 |[],_,a,l,h,hd,hv,_=>by simp only[cr,Option.some.injEq] at h;subst h;exact⟨hd,hv,by simp,by simp,by simp,by simp⟩
 | x :: xs, i, a, l, h, hd, hv, ha => by
   simp only[cr,zm] at h;rcases bt (Gm n x a) with e|e
   ·rw[e] at h;cases h
   ·rw[e] at h;simp only[Bool.false_eq_true,if_false] at h;simp only[Gm,Bool.or_eq_false_iff,Bool.not_eq_false',decide_eq_false_iff_not,cG] at e;obtain⟨⟨e1,e2⟩,e3⟩:=e;have hi:x.toNat<n.F.length:=by omega
    have hf:=hE _ (List.getElem_mem hi);have hg:=List.getElem?_eq_getElem hi;generalize n.F[x.toNat]=f at hf hg;have ho:dD n x a.1=jF f a.1:=by unfold dD;rw[hg]
    have hend:(f.A=a.1/\f.B=dD n x a.1)\/(f.B=a.1/\f.A=dD n x a.1):=by
     rw[ho] at e2⊢;unfold jF at e2⊢;split
     ·rename_i h1;exact .inl ⟨h1.symm,rfl⟩
     ·split
      ·rename_i h1;exact .inr ⟨h1.symm,rfl⟩
      ·rename_i h1 h2;simp[h1,h2] at e2
    have hlt:dD n x a.1<n.N.length:=by omega
    obtain⟨g1,g2,g3,g4,g5,g6⟩:=qT hE xs (i+1) _ l h (by
     rw[List.nodup_append];exact⟨hd,by simp,fun u hu v hv=>by simp at hv;subst hv;intro e;subst e;exact e3 hu⟩) (fun v hv2=>by
     simp only[List.mem_append,List.mem_singleton] at hv2;rcases hv2 with h|h
     ·exact hv v h
     ·subst h;exact⟨by omega,hlt⟩) (by simp)
    refine⟨g1,g2,by rw[g3];simp;omega,fun e he=>?_,List.nodup_cons.2 ⟨fun hm=>?_,g5⟩,fun e he f' hf'=>?_⟩
    ·rcases List.mem_cons.1 he with rfl|he
     ·omega
     ·exact g4 e he
    ·refine g6 x hm f hg ?_;simp only[List.mem_append,List.mem_singleton];rcases hend with⟨h1,h2⟩|⟨h1,h2⟩
     ·exact⟨.inl (h1▸ha),.inr h2⟩
     ·exact⟨.inr h2,.inl (h1▸ha)⟩
    ·rcases List.mem_cons.1 he with rfl|he
     ·rw[hg] at hf';cases hf';rcases hend with⟨h1,h2⟩|⟨h1,h2⟩
      ·exact fun h=>e3 (h2▸h.2)
      ·exact fun h=>e3 (h2▸h.1)
     ·exact fun h=>g6 e he f' hf' ⟨List.mem_append_left _ h.1,List.mem_append_left _ h.2⟩
theorem AI{n:ae}{r:ah}(hE:∀f∈n.F,f.A<n.N.length/\f.B<n.N.length){l:List Int}(h:xA n r=some l):l.Nodup/\(∀v∈l,0<=v/\v<(n.N.length:Int))/\l.length=r.F.length+1/\(∀e∈r.F,0<=e/\e<(n.F.length:Int))/\r.F.Nodup:=by
 unfold xA at h;split at h
 ·cases h
 ·rename_i hc;simp only[Bool.or_eq_true,Bool.not_eq_true',decide_eq_true_eq,not_or,Bool.not_eq_false,cG] at hc;obtain⟨g1,g2,g3,g4,g5,_⟩:=qT hE _ _ _ _ h (by simp) (fun v hv=>by simp at hv;subst hv;omega) (by simp);exact⟨g1,g2,by rw[g3];simp;omega,g4,g5⟩
theorem ln:∀(m:Nat)(l:List Int),l.Nodup->(∀x∈l,0<=x/\x<(m:Int))->l.length<=m
 | 0, l, _, h => by
   cases l with
   |nil=>simp
   |cons x l=>have:=h x (by simp);omega
 | m + 1, l, hn, h => by
   by_cases hm:(m:Int)∈l
   ·have:=ln m (l.erase (m:Int)) (hn.erase _) (fun x hx=>by
     have h1:=(hn.mem_erase_iff).1 hx;have:=h x h1.2;have h3:=h1.1;omega)
    rw[List.length_erase_of_mem hm] at this;omega
   ·have:=ln m l hn (fun x hx=>by
     have:=h x hx;have:x≠(m:Int):=fun e=>hm (e▸hx);omega)
    omega
end Vs

namespace Vs
open Go
def gz(l:List Int)(p:Nat):Int:=(l[p]?).getD 0
theorem OW{l:List Int}{p:Nat}(h:p<l.length):l[p]?=some (gz l p):=by
 unfold gz;rw[List.getElem?_eq_getElem h];rfl
theorem kR{l:List Int}{p q:Nat}{x:Int}(h:p<l.length):gz (l.set p x) q=if q=p then x else gz l q:=by
 unfold gz;rw[List.getElem?_set];by_cases e:p=q
 ·rw[if_pos e,if_pos h,if_pos e.symm];rfl
 ·rw[if_neg e,if_neg (Ne.symm e)]
theorem DY(x y:Int):Dv x y=some (decide (x<y)):=by
 unfold Dv sZ;simp
theorem BV{l:List Int}{i j:Nat}(hi:i<l.length)(hj:j<l.length):((l.set i (gz l j)).set j (gz l i)).Perm l:=by
 by_cases e:i=j
 ·subst e;have:(l.set i (gz l i)).set i (gz l i)=l:=by
   apply List.ext_getElem?;intro k;rw[List.getElem?_set,List.getElem?_set];by_cases h:i=k
   ·subst h;simp[hi];unfold gz;rw[List.getElem?_eq_getElem hi];rfl
   ·simp[h]
  rw[this]
 ·have g1:gz l j=l[j]:=by unfold gz;rw[List.getElem?_eq_getElem hj];rfl
  have g2:gz l i=l[i]:=by unfold gz;rw[List.getElem?_eq_getElem hi];rfl
  rw[g1,g2];exact List.set_set_perm hi hj
def SrtI(i j:Nat)(l:List Int):Prop:=(∀p q,p<q->q<=i->p≠j->q≠j->gz l p<=gz l q)/\∀q,j<q->q<=i->gz l j<=gz l q
def Cx(n:Nat)(l:List Int):Prop:=∀p q,p<q->q<n->gz l p<=gz l q
theorem FJ(n i:Nat)(l0:List Int)(hl:l0.length=n)(hn:n<=1048576)(hi:i<n)(hs:Cx i l0):
 ∃l,bg (M_l 0) N0 ((i:Int),l0)=some l/\l.Perm l0/\Cx (i+1) l:=by
 refine cz (f:=M_l 0) (fun s=>∃j:Nat,s.1=j/\j<=i/\s.2.length=n/\s.2.Perm l0/\SrtI i j s.2) (fun s=>s.1.toNat) (fun l=>l.Perm l0/\Cx (i+1) l) (fun s hI=>?_) N0 ((i:Int),l0)
  ⟨i,rfl,Nat.le_refl _,hl,List.Perm.refl _,fun p q h1 h2 h3 h4=>hs p q h1 (by omega),fun q h1 h2=>by omega⟩ (eH (by simp;omega))
 obtain⟨j',l⟩:=s;obtain⟨j,rfl,hj,hll,hp,hA,hB⟩:=hI;simp only at hll hp hA hB;by_cases h0:0<j
 ·have e1:decide ((0:Int)<(j:Int))=true:=decide_eq_true (by omega);have ew:IntKind.wrap .i64 ((j:Int)-1)=((j-1:Nat):Int):=by rw[aH (by omega) (by omega)];omega
  have g1:l[j]?=some (gz l j):=OW (by omega);have g2:l[j-1]?=some (gz l (j-1)):=OW (by omega);have d1:grd (0<=(j:Int)/\(j:Int)<(l.length:Int))=some ():=bD (by omega);have d2:grd (0<=((j-1:Nat):Int)/\((j-1:Nat):Int)<(l.length:Int))=some ():=bD (by omega);by_cases hlt:gz l j<gz l (j-1)
  ·left;have e2:decide (gz l j<gz l (j-1))=true:=decide_eq_true hlt;have g3:(l.set j (gz l (j-1)))[j-1]?=some (gz l (j-1)):=by
    rw[List.getElem?_set,if_neg (by omega)];exact g2
   refine⟨(((j-1:Nat):Int),(l.set j (gz l (j-1))).set (j-1) (gz l j)),?_,⟨j-1,rfl,by omega,by simp[hll],?_,?_,?_⟩,?_⟩
   ·simp only[M_l,e1,cond_true,Int.toNat_natCast,ew,d1,d2,g1,g2,DY,e2,Option.bind_some,bnd,g3]
   ·exact(BV (by omega) (by omega)).trans hp
   ·intro p q h1 h2 h3 h4;simp only at*
    rw[kR (by simp;omega),kR (by omega),kR (by simp;omega),kR (by omega),if_neg h3,if_neg h4];by_cases c1:p=j
    ·rw[if_pos c1,if_neg (by omega)];exact hA (j-1) q (by omega) h2 (by omega) (by omega)
    ·rw[if_neg c1];by_cases c2:q=j
     ·rw[if_pos c2];exact hA p (j-1) (by omega) (by omega) c1 (by omega)
     ·rw[if_neg c2];exact hA p q h1 h2 c1 c2
   ·intro q h1 h2;simp only at*
    rw[kR (by simp;omega),if_pos rfl,kR (by simp;omega),if_neg (by omega),kR (by omega)];by_cases c2:q=j
    ·rw[if_pos c2];omega
    ·rw[if_neg c2];exact hB q (by omega) h2
   ·simp only[Int.toNat_natCast];omega
  ·right;have e2:decide (gz l j<gz l (j-1))=false:=decide_eq_false hlt;refine⟨l,?_,hp,?_⟩
   ·simp only[M_l,e1,cond_true,Int.toNat_natCast,ew,d1,d2,g1,g2,Option.bind_some,DY,e2,cond_false]
   ·intro p q h1 h2;by_cases c1:p=j
    ·rw[c1];exact hB q (by omega) (by omega)
    ·by_cases c2:q=j
     ·rw[c2];by_cases c3:p=j-1
      ·rw[c3];omega
      ·have:=hA p (j-1) (by omega) (by omega) c1 (by omega);omega
     ·exact hA p q h1 (by omega) c1 c2
 ·right;have e1:decide ((0:Int)<(j:Int))=false:=decide_eq_false (by omega);refine⟨l,by simp only[M_l,e1,cond_false,Option.bind_some],hp,fun p q h1 h2=>?_⟩;by_cases c1:p=j
  ·rw[c1];exact hB q (by omega) (by omega)
  ·exact hA p q h1 (by omega) c1 (by omega)
theorem KU(n:Nat)(xs:List Int)(hl:xs.length=n)(hn:n<=1048576):∃l,DQ 0 (n:Int) xs=some l/\l.Perm xs/\Cx n l:=by
 unfold DQ;obtain⟨l,h1,h2,h3⟩:=cz (f:=M_t 0 (n:Int)) (fun s=>∃i:Nat,s.1=i/\1<=i/\i<=n+1/\s.2.length=n/\s.2.Perm xs/\Cx i s.2) (fun s=>n+1-s.1.toNat) (fun l=>l.Perm xs/\Cx n l) (fun s hI=>by
  obtain⟨i',l⟩:=s;obtain⟨i,rfl,h0,hi,hll,hp,hs⟩:=hI;simp only at hll hp hs;by_cases h:i<n
  ·left;have e1:decide ((i:Int)<(n:Int))=true:=decide_eq_true (by omega);obtain⟨l',g1,g2,g3⟩:=FJ n i l hll hn h hs;refine⟨(((i+1:Nat):Int),l'),?_,⟨i+1,rfl,by omega,by omega,by rw[g2.length_eq];exact hll,g2.trans hp,g3⟩,by simp only[Int.toNat_natCast];omega⟩;simp only[M_t,e1,cond_true,g1,Option.bind_some];rw[aH (by omega) (by omega)];rfl
  ·right;have e1:decide ((i:Int)<(n:Int))=false:=decide_eq_false (by omega);exact⟨l,by simp only[M_t,e1,cond_false],hp,fun p q h1 h2=>hs p q h1 (by omega)⟩) N0 (((1:Nat):Int),xs) ⟨1,rfl,by omega,by omega,hl,List.Perm.refl _,fun p q h1 h2=>by omega⟩ (eH (by simp;omega))
 refine⟨l,?_,h2,h3⟩;have e:IntKind.wrap .i64 ((0:Int)+1)=((1:Nat):Int):=by rw[aH (by omega) (by omega)];rfl
 rw[e,h1];rfl
theorem Ak:∀n:Fin 13,(IY (IntKind.wrap .u64 (n.val:Int))).isSome=true:=by decide+kernel
theorem KF(xs:List Int)(h:xs.length<=12):∃l,HL xs=some l/\l.Perm xs/\l.Pairwise (·<=·):=by
 obtain⟨l,h1,h2,h3⟩:=KU xs.length xs rfl (by omega);refine⟨l,?_,h2,?_⟩
 ·have hb:=Ak ⟨xs.length,by omega⟩;simp only at hb;unfold HL;cases hx:IY (IntKind.wrap .u64 (xs.length:Int)) with
  |none=>rw[hx] at hb;cases hb
  | some r =>
    simp only[Option.bind_some];unfold Ml;have hN:N0=(N0-1)+1:=by unfold N0;omega
    rw[hN,bg];have e1:decide (IntKind.wrap .i64 ((xs.length:Int)-0)<=12)=true:=by rw[aH (by omega) (by omega)];exact decide_eq_true (by omega)
    simp only[NT,e1,cond_true,h1,Option.bind_some]
 ·rw[List.pairwise_iff_getElem];intro i j hi hj hij;have:=h3 i j hij (by rw[<-h2.length_eq];exact hj);unfold gz at this;rw[List.getElem?_eq_getElem hi,List.getElem?_eq_getElem hj] at this;exact this
end Vs

namespace Vs
open Go
def Mn(a bX:List Int):List Int:=a.filter fun x=>decide (x∈bX)
theorem oH(p:Int->Bool):∀(xs:List Int)(i:Nat)(l:List Int),cr (fun(_:Nat)(x:Int)(l:List Int)=>(.inl (if p x then l++[x] else l):List Int⊕List Int)) (fun l=>l) i xs l=l++xs.filter p
 |[],_,l=>by simp[cr]
 | x :: xs, i, l => by
   simp only[cr];rw[oH p xs (i+1)];by_cases h:p x=true
   ·simp[h]
   ·simp[h]
theorem Qu(a bX:List Int)(ha:a.length<=1048576)(hg:bX.length<=1048576):bg (xB a bX) N0 (0,[])=some (Mn a bX):=by
 have key:=dH (f:=xB a bX) a (fun i(l:List Int)=>((i:Int),l)) (fun _ x l=>.inl (if decide (x∈bX) then l++[x] else l)) (fun l=>l) (fun i l=>l.length<=i) (fun i l x hx hI=>by
  have hlt:=(List.getElem?_eq_some_iff.1 hx).1;have h1:decide ((i:Int)<a.length)=true:=by simp[hlt]
  refine .inl ⟨_,rfl,by split<;>(try simp only[List.length_append,List.length_cons,List.length_nil])<;>omega,?_⟩;simp only[xB,h1,cond_true,aW,hx,Option.bind_some,yu bX x hg,bnd];rw[aH (n:=(i:Int)+1) (by omega) (by omega)];by_cases h:x∈bX
  ·rw[decide_eq_true h,cond_true,bD (by omega),if_pos rfl];rfl
  ·rw[decide_eq_false h,cond_false,if_neg (by simp)];rfl) (fun l _=>by simp[xB]) [] (Nat.le_refl 0) (by omega)
 have e0:((0:Nat):Int)=0:=rfl;simp only[e0] at key;rw[key,oH];rfl
def ddp(ys:List Int):Nat->List Int
 |0=>[]
 |j+1=>if 0<j/\ys[j]?=ys[j-1]? then ddp ys j else ddp ys j++(ys[j]?).toList
theorem oh(ys:List Int):∀k,(∀i,1<=i->i<k->ys[i]?≠ys[i-1]?)->ddp ys k=ys.take k
 |0,_=>by simp[ddp]
 | k + 1, h => by
   unfold ddp;rw[if_neg (fun e=>h k (by omega) (by omega) e.2),oh ys k (fun i h1 h2=>h i h1 (by omega)),List.take_add_one]
theorem BO{l:List Int}{k:Nat}(y:Int)(h:k<l.length):(l.set k y).take (k+1)=l.take k++[y]:=by
 rw[List.take_add_one,List.getElem?_set_self h,List.take_set_of_le (Nat.le_refl k)];rfl
theorem pN{ys:List Int}(hs:ys.Pairwise (·<=·)):∀j,j<=ys.length->(ddp ys j).Pairwise (·<·)/\(∀x∈ddp ys j,∀y,ys[j-1]?=some y->x<=y)/\∀x,x∈ddp ys j↔x∈ys.take j
 |0,_=>by simp[ddp]
 | j + 1, h => by
   obtain⟨h1,h2,h3⟩:=pN hs j (by omega);have hy:ys[j]?=some (ys[j]'(by omega)):=List.getElem?_eq_getElem (by omega);generalize ys[j]'(by omega)=y at hy;unfold ddp;rw[List.take_add_one,hy];by_cases c:0<j/\some y=ys[j-1]?
   ·rw[if_pos c];refine⟨h1,fun x hx z hz=>?_,fun x=>?_⟩
    ·simp only[Nat.add_sub_cancel,hy,Option.some.injEq] at hz;subst hz;exact h2 x hx y c.2.symm
    ·have hm:y∈ys.take j:=by
      rw[List.mem_take_iff_getElem];obtain⟨q1,q2⟩:=List.getElem?_eq_some_iff.1 c.2.symm;exact⟨j-1,by omega,q2⟩
     simp only[Option.toList_some,List.mem_append,List.mem_singleton,h3];exact⟨.inl,fun q=>q.elim id fun e=>e▸hm⟩
   ·rw[if_neg c];have hlt:∀x∈ddp ys j,x<y:=fun x hx=>by
     by_cases hj:0<j
     ·have hz:ys[j-1]?=some (ys[j-1]'(by omega)):=List.getElem?_eq_getElem (by omega);have:=h2 x hx _ hz;have h5:ys[j-1]'(by omega)<=ys[j]'(by omega):=List.pairwise_iff_getElem.1 hs (j-1) j (by omega) (by omega) (by omega);have h6:ys[j]'(by omega)=y:=(List.getElem?_eq_some_iff.1 hy).2;have h7:ys[j-1]'(by omega)≠y:=fun e=>c ⟨hj,by rw[hz,e]⟩;omega
     ·have:j=0:=by omega
      subst this;simp[ddp] at hx
    refine⟨?_,fun x hx z hz=>?_,fun x=>?_⟩
    ·rw[List.pairwise_append];exact⟨h1,by simp,fun a ha b hb=>by simp at hb;subst hb;exact hlt a ha⟩
    ·simp only[Nat.add_sub_cancel,hy,Option.some.injEq] at hz;subst hz;simp only[Option.toList_some,List.mem_append,List.mem_singleton] at hx;rcases hx with hx|hx
     ·have:=hlt x hx;omega
     ·omega
    ·simp only[List.mem_append,h3]
theorem Hx(ys:List Int)(hl:ys.length<=1048576)(k0:Nat)(h0:1<=k0)(hk:k0<ys.length)(hd:ddp ys (k0+1)=ys.take k0):
 ∃(k:Nat)(l:List Int),bg (M_o 0 ys.length (k0:Int)) N0 ((k0:Int),1,ys)=some ((k:Int),l)/\l.length=ys.length/\k<=ys.length/\l.take k=ddp ys ys.length:=by
 obtain⟨o,o1,o2⟩:=cz (f:=M_o 0 ys.length (k0:Int)) (fun s=>∃(k k2:Nat)(l:List Int),s=((k:Int),(k2:Int),l)/\1<=k2/\k0+k2<=ys.length/\l.length=ys.length/\k+1<=k0+k2/\(∀p,k0+k2<=p+1->l[p]?=ys[p]?)/\l.take k=ddp ys (k0+k2))
  (fun s=>ys.length-s.2.1.toNat) (fun o=>∃(k:Nat)(l:List Int),o=((k:Int),l)/\l.length=ys.length/\k<=ys.length/\l.take k=ddp ys ys.length) (fun s hI=>by
  obtain⟨k,k2,l,rfl,i1,i2,i3,i4,i5,i6⟩:=hI;by_cases hc:k0+k2<ys.length
  ·left;have e1:decide ((k2:Int)<((ys.length-k0:Nat):Int))=true:=decide_eq_true (by omega);have ew:IntKind.wrap .i64 ((k2:Int)-1)=((k2-1:Nat):Int):=by rw[aH (by omega) (by omega)];omega
   have g1:l[0+k0+k2]?=some (ys[k0+k2]'hc):=by rw[Nat.zero_add,i5 _ (by omega)];exact List.getElem?_eq_getElem hc
   have g2:l[0+k0+(k2-1)]?=some (ys[k0+k2-1]'(by omega)):=by
    rw[show 0+k0+(k2-1)=k0+k2-1 by omega,i5 _ (by omega)];exact List.getElem?_eq_getElem (by omega)
   have g3:l[0+k]?=some (l[k]'(by omega)):=by rw[Nat.zero_add];exact List.getElem?_eq_getElem (by omega)
   have hddp:ddp ys (k0+k2+1)=if ys[k0+k2]'hc=ys[k0+k2-1]'(by omega) then ddp ys (k0+k2) else ddp ys (k0+k2)++[ys[k0+k2]'hc]:=by
    rw[ddp,List.getElem?_eq_getElem hc,List.getElem?_eq_getElem (show k0+k2-1<ys.length by omega)];by_cases e:ys[k0+k2]'hc=ys[k0+k2-1]'(by omega)
    ·rw[if_pos ⟨by omega,by rw[e]⟩,if_pos e]
    ·rw[if_neg (fun q=>e (Option.some.inj q.2)),if_neg e];rfl
   simp only[M_o,Int.toNat_natCast,e1,cond_true,ew,g1,g2,g3];rw[bD (by omega),bD (by omega),bD (by omega)];simp only[Option.bind_some,bnd];rw[aH (n:=(k:Int)+1) (by omega) (by omega),aH (n:=(k2:Int)+1) (by omega) (by omega)];by_cases e:ys[k0+k2]'hc=ys[k0+k2-1]'(by omega)
   ·rw[if_pos e] at hddp;rw[show(ys[k0+k2]'hc !=ys[k0+k2-1]'(by omega))=false by simpa using e,cond_false];exact⟨_,rfl,⟨k,k2+1,l,by simp,by omega,by omega,i3,by omega,fun p hp=>i5 p (by omega),by rw[show k0+(k2+1)=k0+k2+1 by omega,hddp];exact i6⟩,by simp only[];omega⟩
   ·rw[if_neg e] at hddp;rw[show(ys[k0+k2]'hc !=ys[k0+k2-1]'(by omega))=true by simpa using e,cond_true];refine⟨_,rfl,⟨k+1,k2+1,l.set k (ys[k0+k2]'hc),by simp,by omega,by omega,by simpa using i3,by omega,fun p hp=>?_,?_⟩,by simp only[];omega⟩
    ·rw[List.getElem?_set_ne (by omega)];exact i5 p (by omega)
    ·rw[show k0+(k2+1)=k0+k2+1 by omega,hddp,BO _ (by omega),i6]
  ·right;have e1:decide ((k2:Int)<((ys.length-k0:Nat):Int))=false:=decide_eq_false (by omega);refine⟨_,by simp only[M_o,Int.toNat_natCast,e1,cond_false],k,l,rfl,i3,by omega,?_⟩;rw[i6,show k0+k2=ys.length by omega]) N0 ((k0:Int),((1:Nat):Int),ys) ⟨k0,1,ys,rfl,by omega,by omega,rfl,by omega,fun p _=>rfl,hd.symm⟩ (eH (by simp;omega))
 obtain⟨k,l,rfl,q1,q2,q3⟩:=o2;exact⟨k,l,o1,q1,q2,q3⟩
theorem Bm(ys:List Int)(hl:ys.length<=1048576):∃k l,DL 0 ys.length ys=some (0,k,l)/\iq l 0 k=ddp ys ys.length:=by
 unfold DL;by_cases h:(ys.length:Int)<2
 ·rw[decide_eq_true h,cond_true];refine⟨_,_,rfl,?_⟩;rw[gu,oh ys _ (fun i h1 h2=>by omega),List.take_length]
 rw[decide_eq_false h,cond_false];obtain⟨o,o1,o2⟩:=cz (f:=M_w 0 ys.length ys) (fun s=>∃i:Nat,s=i/\1<=i/\i<=ys.length/\ddp ys i=ys.take i) (fun s=>ys.length-s.toNat)
  (fun o=>(o=.inl ()/\ddp ys ys.length=ys)\/∃k l,o=.inr (0,k,l)/\iq l 0 k=ddp ys ys.length) (fun s hI=>by
  obtain⟨i,rfl,h1,h2,h3⟩:=hI;by_cases hi:i<ys.length
  ·have e1:decide ((i:Int)<(ys.length:Int))=true:=decide_eq_true (by omega);have ew:IntKind.wrap .i64 ((i:Int)-1)=((i-1:Nat):Int):=by rw[aH (by omega) (by omega)];omega
   have g1:ys[0+i]?=some (ys[i]'hi):=by rw[Nat.zero_add];exact List.getElem?_eq_getElem hi
   have g2:ys[0+(i-1)]?=some (ys[i-1]'(by omega)):=by rw[Nat.zero_add];exact List.getElem?_eq_getElem (by omega)
   simp only[M_w,e1,cond_true,Int.toNat_natCast,g1,ew,g2];rw[bD (by omega),bD (by omega)];simp only[Option.bind_some];by_cases e:ys[i]'hi=ys[i-1]'(by omega)
   ·right;have hd:ddp ys (i+1)=ys.take i:=by
     rw[ddp,if_pos ⟨by omega,by rw[List.getElem?_eq_getElem hi,List.getElem?_eq_getElem (show i-1<ys.length by omega),e]⟩,h3]
    obtain⟨k,l,k1,k2,k3,k4⟩:=Hx ys hl i h1 hi hd;rw[show(ys[i]'hi==ys[i-1]'(by omega))=true by simpa using e,cond_true];simp only[Int.toNat_natCast,and_true,true_and];rw[bD (by omega)];simp only[Option.bind_some,k1,bnd,Int.toNat_natCast,and_true,true_and];rw[bD (by omega)];simp only[Option.bind_some];refine⟨_,rfl,.inr ⟨k,_,rfl,?_⟩⟩;rw[<-k4,ik,List.drop_zero];unfold dA;rw[if_pos (by simp;omega),Nat.zero_add];rw[List.append_assoc,List.take_append_of_le_length (by simp;omega),List.take_take,Nat.min_self]
   ·left;rw[show(ys[i]'hi==ys[i-1]'(by omega))=false by simpa using e,cond_false,aH (by omega) (by omega)];refine⟨_,rfl,⟨i+1,rfl,by omega,by omega,?_⟩,by omega⟩;rw[ddp,if_neg (fun q=>e (by
     have:=q.2;rw[List.getElem?_eq_getElem hi,List.getElem?_eq_getElem (show i-1<ys.length by omega)] at this;exact Option.some.inj this)),h3,List.take_add_one]
  ·right;have e1:decide ((i:Int)<(ys.length:Int))=false:=decide_eq_false (by omega);refine⟨_,by simp only[M_w,e1,cond_false],.inl ⟨rfl,?_⟩⟩;rw[show ys.length=i by omega,h3,show i=ys.length by omega,List.take_length]) N0 ((1:Nat):Int) ⟨1,rfl,by omega,by omega,by
    rw[oh ys 1 (fun i h1 h2=>by omega)]⟩ (eH (by simp;omega))
 have e1:((1:Nat):Int)=1:=rfl;rw[e1] at o1;rw[o1];rcases o2 with⟨rfl,q⟩|⟨k,l,rfl,q⟩
 ·exact⟨_,_,rfl,by rw[gu,q]⟩
 ·exact⟨k,l,rfl,q⟩
theorem GU(a bX:List Int)(ha:a.length<=12)(hg:bX.length<=1048576):∃l,Ie a bX=some l/\l.Pairwise (·<·)/\∀x,x∈l↔x∈a/\x∈bX:=by
 unfold Ie;have hc:(Mn a bX).length<=a.length:=List.length_filter_le ..;rw[Qu a bX (by omega) hg];simp only[Option.bind_some];obtain⟨l,l1,l2,l3⟩:=KF (Mn a bX) (by omega);have hln:=l2.length_eq;obtain⟨k,l',k1,k2⟩:=Bm l (by omega);rw[l1];simp only[Option.bind_some];rw[<-hln,k1];simp only[Option.bind_some,bnd,k2];obtain⟨s1,_,s3⟩:=pN l3 l.length (Nat.le_refl _);refine⟨_,rfl,s1,fun x=>?_⟩;rw[s3,List.take_length,l2.mem_iff];simp[Mn]
def sepP(a bX:List Int):Bool:=!a.any fun x=>decide (x∈bX)
theorem Me{a bX l:List Int}(h:∀x,x∈l↔x∈a/\x∈bX):((l.length:Int)==0)=sepP a bX:=by
 rw[Bool.eq_iff_iff];simp only[beq_iff_eq,sepP,Bool.not_eq_true',List.any_eq_false,decide_eq_true_eq];constructor
 ·intro e x hx hg;have:=(h x).2 ⟨hx,hg⟩;have h0:l=[]:=List.length_eq_zero_iff.1 (by omega);rw[h0] at this;cases this
 ·intro hn;cases l with
  |nil=>rfl
  |cons x l=>exact(hn x ((h x).1 (by simp)).1 ((h x).1 (by simp)).2).elim
end Vs

namespace Vs
open Go
theorem xG(xs:List (List Int))(f:List Int->Option Bool)(p:List Int->Bool)(hf:∀x∈xs,f x=some (p x))(hl:xs.length<=1048576):DA xs f=some (match ct (fun _ x=>p x) xs with|some q=>(q.1:Int)|none=>-1):=by
 unfold DA;rw[cI (f:=CK xs f) xs (fun _ x=>p x) (fun i _=>(i:Int)) () (fun i x hx _=>by
  have hlt:=(List.getElem?_eq_some_iff.1 hx).1;have h1:decide ((i:Int)<xs.length)=true:=by simp[hlt]
  simp only[CK,h1,cond_true,aW,hx,Option.bind_some,hf x (List.mem_of_getElem? hx)];rw[aH (by omega) (by omega)];cases p x<;>rfl) (by simp[CK]) (by omega)]
 cases ct (fun _ x=>p x) xs<;>rfl
theorem BR(n:ae)(e:Int)(h:n.F.length<=14):GD n e=some (lW n e):=by
 unfold GD lW;have hg:=wI h;have hK:=sX n h;rw[DB n h];simp only[Option.bind_some];rw[xG (cT n) (fun x0=>DR x0 e) (fun g=>decide (e∈g)) (fun x hx=>by
  unfold DR;rw[yu x e (by have:=(hg x hx).1;omega)];rfl) (by omega)]
 rfl
theorem qQ(n:ae)(l:List Int)(h:n.F.length<=14)(hl:l.length<=1048576):zN n l=some (l.map (lW n)):=by
 unfold zN;have:=dH (f:=Ck n l) l (fun i(a:List Int)=>((i:Int),a)) (fun _ x a=>.inl (a++[lW n x])) (fun a=>a) (fun i a=>a.length<=i) (fun i a x hx hI=>by
  have hlt:=(List.getElem?_eq_some_iff.1 hx).1;have h1:decide ((i:Int)<l.length)=true:=by simp[hlt]
  refine .inl ⟨_,rfl,by simp;omega,?_⟩;simp only[Ck,h1,cond_true,aW,hx,Option.bind_some,BR n x h,bnd];rw[bD (by omega),aH (by omega) (by omega)];rfl) (fun a _=>by simp[Ck]) [] (Nat.le_refl 0) (by omega)
 have e0:((0:Nat):Int)=0:=rfl;simp only[e0] at this;rw[this];have gen:∀(xs:List Int)(i:Nat)(a:List Int),cr (fun(_:Nat) x(a:List Int)=>(.inl (a++[lW n x]):List Int⊕List Int)) (fun a=>a) i xs a=a++xs.map (lW n):=by
  intro xs;induction xs with
  |nil=>intro i a;simp[cr]
  |cons x xs ih=>intro i a;simp only[cr];rw[ih];simp
 rw[gen];rfl
theorem Ol(n:ae)(a b:List Int)(h:ce n=true)(ha:a.length<=12)(hb:b.length<=1048576)(fa:∀x∈a,il n x)(fb:∀x∈b,il n x):Ag n a b=some (apP n a b):=by
 have hn:=(yM h).2.2;unfold Ag;obtain⟨l,l1,_,l3⟩:=GU (a.map (lW n)) (b.map (lW n)) (by simpa using ha) (by simpa using hb);simp only[qQ n a hn (by omega),qQ n b hn hb,Option.bind_some,l1,Me l3];rw[<-zu h fa fb];rfl
theorem wr(n:ae)(e:Int)(h:n.F.length<=14)(he:il n e):wq n e=some (mf n e):=by
 obtain⟨f,f1,f2⟩:=sn he;have e0:e=(e.toNat:Int):=by have:=he.1;omega
 unfold mf;rw[f2];by_cases h0:f.F=0
 ·rw[if_pos h0];unfold wq;have hg:bR n.F e=some f:=by rw[e0,aW];exact f1
  simp only[hg,Option.bind_some,bnd];rw[show(f.F==0)=true by simpa using h0,cond_true]
 ·rw[if_neg h0];have:=Ba n h e.toNat f f1 h0;rw[<-e0] at this;exact this
theorem Cy(n:ae)(a b:ah)(h:n.F.length<=14)(ha:a.F.length<=1048576)(hb:b.F.length<=1048576)(fa:∀x∈a.F,il n x):Bc n a b=some (apP n a.F b.F):=by
 unfold Bc;rw[mc (f:=zG n a b) a.F (fun x=>b.F.any fun y=>decide (y∈mf n x)) (.inr false) (.inl ()) (fun i x hx=>by
  have hlt:=(List.getElem?_eq_some_iff.1 hx).1;have h1:decide ((i:Int)<a.F.length)=true:=by simp[hlt]
  have hgl:(mf n x).length<=1048576:=by
   unfold mf;split
   ·simp
   ·have:=lx (gJ n x) n.F 0;omega
  simp only[zG,h1,cond_true,aW,hx,Option.bind_some,wr n x h (fa x (List.mem_of_getElem? hx))];rw[mc (f:=M_p b (mf n x)) b.F (fun y=>decide (y∈mf n x)) (.inr false) (.inl ()) (fun j y hy=>by
   have hlt:=(List.getElem?_eq_some_iff.1 hy).1;have h1:decide ((j:Int)<b.F.length)=true:=by simp[hlt]
   simp only[M_p,h1,cond_true,aW,hy,Option.bind_some,zg (mf n x) y hgl,<-rG];rw[aH (by omega) (by omega)];cases decide (y∈mf n x)<;>rfl) (by simp[M_p]) (by omega),aH (by omega) (by omega)]
  cases(b.F.any fun y=>decide (y∈mf n x))<;>rfl) (by simp[zG]) (by omega)]
 unfold apP;cases(a.F.any fun x=>b.F.any fun y=>decide (y∈mf n x))<;>rfl
end Vs

namespace Vs
open Go
structure So(n:ae)(r:ah):Prop where
 len:r.F.length<=12
 fib:∀x∈r.F,il n x
 nod:r.F.Nodup
theorem PG{n:ae}(h:ce n=true){r:ah}{l:List Int}(hl:xA n r=some l):So n r/\l.length=r.F.length+1:=by
 obtain⟨g1,g2,g3,g4,g5⟩:=AI (Hc h) hl;have:=ln n.N.length l g1 g2;have:=yM h;exact⟨⟨by omega,g4,g5⟩,g3⟩
theorem c4(a b c d:Bool):(cond (!a) (some true) (cond (!b) (some true) (cond (!c) (some true) (some (!d)))):Option Bool)=some (!(a&&b&&c&&d)):=by
 cases a<;>cases b<;>cases c<;>cases d<;>rfl
end Vs

namespace Vs
open Go
theorem cS{n:ae}(h:ce n=true):2<=n.N.length/\n.N.length<=8/\n.F.length<=14:=by
 unfold ce at h;simp only[Bool.and_eq_true,decide_eq_true_eq,cG] at h;omega
theorem nR{n:ae}(h:ce n=true){i:Nat}{f:ax}(hf:n.F[i]?=some f):sN n.N.length f:=by
 unfold ce at h;simp only[Bool.and_eq_true,Bool.not_eq_true'] at h;have:=dz.1 h.1.1.2 i f hf;unfold gU at this;simp only[Bool.or_eq_false_iff] at this;exact ny this.1
end Vs

namespace Vs
open Go
def qj(n:ae)(y:Int):Int:=match n.F[y.toNat]? with|some f=>f.N|none=>0
def dt(n:ae)(r:ah):Int:=gK (fun _ y s=>IntKind.wrap .i64 (s+qj n y)) 0 r.F 0
def RtB(n:ae)(r:ah):Prop:=r.F.length<=20/\(∀e∈r.F,0<=e/\e<n.F.length)/\0<=r.N/\r.N<8
theorem gR{n:ae}{r:ah}(h:RtB n r):wW n r=some (dt n r):=by
 have h1:=h.1;unfold wW dt;have:=kP (f:=M_f n r) r.F (fun i(s:Int)=>(s,(i:Int))) (fun _ y s=>IntKind.wrap .i64 (s+qj n y)) id (fun _ _=>True) (fun i s y hy _=>by
  have hlt:=(List.getElem?_eq_some_iff.1 hy).1;have e1:decide ((i:Int)<r.F.length)=true:=by simp[hlt]
  obtain⟨g1,g2⟩:=h.2.1 y (List.mem_of_getElem? hy);have hf:bR n.F y=n.F[y.toNat]?:=by unfold bR;rw[if_pos g1]
  have hs:n.F[y.toNat]?=some (n.F[y.toNat]'(by omega)):=List.getElem?_eq_getElem _;refine⟨trivial,?_⟩;simp only[M_f,e1,cond_true,aW,hy,Option.bind_some,hf,qj];rw[hs];simp only[Option.bind_some];rw[aH (n:=(i:Int)+1) (by omega) (by omega)];rfl) (fun s _=>by simp[M_f]) 0 trivial (by omega)
 have e0:((0:Nat):Int)=0:=rfl;simp only[e0] at this;rw[this];rfl
theorem kV{n:ae}{r:ah}(h:RtB n r):wO n r=some (dt n r):=gR h
theorem sj{n:ae}(hn:ce n=true){r:ah}(h:RtB n r):0<=dt n r/\dt n r<=100000:=by
 have gen:∀(ys:List Int)(i:Nat)(s:Int),(∀e∈ys,0<=e/\e<n.F.length)->i+ys.length<=20->0<=s->s<=5000*i->0<=gK (fun _ y s=>IntKind.wrap .i64 (s+qj n y)) i ys s/\gK (fun _ y s=>IntKind.wrap .i64 (s+qj n y)) i ys s<=5000*(i+ys.length:Nat):=by
  intro ys;induction ys with
  |nil=>intro i s _ _ h1 h2;exact⟨h1,by simpa[gK] using h2⟩
  | cons y ys ih =>
    intro i s hy hi h1 h2;simp only[List.length_cons] at hi;obtain⟨g1,g2⟩:=hy y (by simp);have hs:n.F[y.toNat]?=some (n.F[y.toNat]'(by omega)):=List.getElem?_eq_getElem _;obtain⟨_,_,_,f4,f5,_⟩:=nR hn hs;have hf:qj n y=(n.F[y.toNat]'(by omega)).N:=by unfold qj;rw[hs]
    have hw:IntKind.wrap .i64 (s+qj n y)=s+qj n y:=aH (by omega) (by omega);simp only[gK];rw[hw];have:=ih (i+1) (s+qj n y) (fun e he=>hy e (by simp[he])) (by omega) (by omega) (by omega);refine⟨this.1,?_⟩;have h3:=this.2;simp only[List.length_cons];omega
 have h1:=h.1;have:=gen r.F 0 0 h.2.1 (by omega) (by omega) (by omega);unfold dt;omega
theorem ST(a b c d:Int):M_r [a,b,c,d]=some (if a≠0 then a else if b≠0 then b else if c≠0 then c else d):=by
 unfold M_r;have key:=cI (f:=M_j [a,b,c,d]) [a,b,c,d] (fun _ x=>x !=0) (fun _ x=>x) () (fun i x hx _=>by
  have hlt:=(List.getElem?_eq_some_iff.1 hx).1;have h1:decide ((i:Int)<([a,b,c,d].length:Nat))=true:=decide_eq_true (by omega);simp only[List.length_cons,List.length_nil] at hlt;simp only[M_j,h1,cond_true,aW,hx,Option.bind_some];rw[aH (by omega) (by omega)];cases x !=0<;>rfl) (by simp[M_j]) (by simp)
 rw[key];unfold ct;simp only[List.zipIdx_cons,List.zipIdx_nil,List.find?_cons,List.find?_nil];by_cases h1:a=0
 ·by_cases h2:b=0
  ·by_cases h3:c=0
   ·by_cases h4:d=0
    ·simp[h1,h2,h3,h4]
    ·have:(d !=0)=true:=bne_iff_ne.2 h4;simp[h1,h2,h3,this]
   ·have:(c !=0)=true:=bne_iff_ne.2 h3;simp[h1,h2,h3,this]
  ·have:(b !=0)=true:=bne_iff_ne.2 h2;simp[h1,h2,this]
 ·have:(a !=0)=true:=bne_iff_ne.2 h1;simp[h1,this]
def oc(b:List Int)(i:Nat)(x:Int):Int:=match b[i]? with|some y=>cH x y|none=>1
def gH(a b:List Int):Int:=match ct (fun i x=>b[i]? !=some x) a with
 |some q=>oc b q.1 q.2
 |none=>if a.length<b.length then -1 else 0
theorem vL(a b:List Int)(hl:a.length<=1048576):HU a b=some (gH a b):=by
 unfold HU;rw[cI (f:=M_m a b) a (fun i x=>b[i]? !=some x) (fun i x=>oc b i x) () (fun i x hx _=>by
  have hlt:=(List.getElem?_eq_some_iff.1 hx).1;have h3:decide ((i:Int)<a.length)=true:=by simp[hlt]
  simp only[M_m,h3,cond_true,aW,hx,Option.bind_some,oc];by_cases hb:b.length<=i
  ·have h4:decide ((b.length:Int)<=(i:Int))=true:=by simp;omega
   have h5:b[i]?=none:=List.getElem?_eq_none (by omega);rw[h4,h5];rfl
  ·have h4:decide ((b.length:Int)<=(i:Int))=false:=by simp;omega
   have h5:b[i]?=some (b[i]'(by omega)):=List.getElem?_eq_getElem _;simp only[h4,cond_false,h5,Option.bind_some,sM];rw[aH (by omega) (by omega)];by_cases e:x=b[i]'(by omega)
   ·have e1:(cH x (b[i]'(by omega)) !=0)=false:=by rw[bT.2 e];rfl
    have e2:(some (b[i]'(by omega)) !=some x)=false:=by rw[<-e];simp
    rw[e1,e2];rfl
   ·have e1:(cH x (b[i]'(by omega)) !=0)=true:=bne_iff_ne.2 fun e'=>e (bT.1 e');have e2:(some (b[i]'(by omega)) !=some x)=true:=bne_iff_ne.2 fun e'=>e (Option.some.inj e').symm;rw[e1,e2];rfl) (by simp[M_m]) (by omega)]
 unfold gH;cases hf:ct (fun i x=>b[i]? !=some x) a with
 | none =>
   simp only[Option.bind_some];by_cases h:a.length<b.length
   ·have e:decide ((a.length:Int)<(b.length:Int))=true:=by simp[h]
    simp[e,h]
   ·have e:decide ((a.length:Int)<(b.length:Int))=false:=by simp;omega
    rw[e,if_neg h];rfl
 |some q=>rfl
def dQ(n:ae)(a b:ah):Int:=if dt n a≠dt n b then cH (dt n a) (dt n b) else if a.F.length≠b.F.length then cH a.F.length b.F.length else
 if gH a.F b.F≠0 then gH a.F b.F else cH a.N b.N
theorem fM{n:ae}{a b:ah}(ha:RtB n a)(hb:RtB n b):pe n a b=some (dQ n a b):=by
 have h1:=ha.1;unfold pe;rw[kV ha,Option.bind_some,kV hb,Option.bind_some];simp only[sM,Option.bind_some,vL a.F b.F (by omega),bnd,ST];unfold dQ;simp only[ne_eq,bT,Int.natCast_inj]
theorem uD(x:Int):tx x=some (cH x 0):=by
 unfold tx cH;by_cases h1:x<0
 ·simp[h1]
 ·by_cases h2:0<x<;>simp[h1,h2]
theorem ly(x y:Int):cH (x-y) 0=cH x y:=by
 unfold cH;by_cases h1:x<y
 ·rw[if_pos (by omega),if_pos h1]
 ·by_cases h2:y<x
  ·rw[if_neg (by omega),if_pos (by omega),if_neg h1,if_pos h2]
  ·rw[if_neg (by omega),if_neg (by omega),if_neg h1,if_neg h2]
theorem xJ(x y:Int):(x-y !=0)=decide (x≠y):=by
 by_cases h:x=y
 ·subst h;simp
 ·have:(x-y !=0)=true:=bne_iff_ne.2 (by omega);rw[this,decide_eq_true h]
theorem th{n:ae}(hn:ce n=true){a b:ah}(ha:RtB n a)(hb:RtB n b):Ah n a b=some (dQ n a b):=by
 obtain⟨b1,b2,b3⟩:=cS hn;have hla:=sj hn ha;have hlb:=sj hn hb;have h1:=ha.1;have h2:=hb.1;obtain⟨s1,s2⟩:=ha.2.2;obtain⟨s3,s4⟩:=hb.2.2;unfold Ah dQ;rw[gR ha,Option.bind_some,gR hb,Option.bind_some];simp only[uD,Option.bind_some];rw[aH (n:=dt n a-dt n b) (by omega) (by omega),aH (n:=(a.F.length:Int)-(b.F.length:Int)) (by omega) (by omega),aH (n:=a.N-b.N) (by omega) (by omega),xJ,xJ,ly,ly,ly];by_cases e1:dt n a=dt n b
 ·rw[if_neg (by simpa using e1),decide_eq_false (by simpa using e1),cond_false];by_cases e2:a.F.length=b.F.length
  ·rw[if_neg (by simpa using e2),decide_eq_false (by simp[e2]),cond_false];rw[cI (f:=AQ a b) a.F (fun i x=>b.F[i]? !=some x) (fun i x=>oc b.F i x) () (fun i x hx _=>by
    have hlt:=(List.getElem?_eq_some_iff.1 hx).1;have h3:decide ((i:Int)<a.F.length)=true:=by simp[hlt]
    have h5:b.F[i]?=some (b.F[i]'(by omega)):=List.getElem?_eq_getElem _;obtain⟨x1,x2⟩:=ha.2.1 x (List.mem_of_getElem? hx);obtain⟨y1,y2⟩:=hb.2.1 _ (List.mem_of_getElem? h5);simp only[AQ,h3,cond_true,aW,hx,Option.bind_some,oc,h5,uD];rw[aH (n:=(i:Int)+1) (by omega) (by omega),aH (n:=x-b.F[i]'(by omega)) (by omega) (by omega),ly];by_cases e:x=b.F[i]'(by omega)
    ·have e3:(x !=b.F[i]'(by omega))=false:=by rw[<-e];simp
     have e4:(some (b.F[i]'(by omega)) !=some x)=false:=by rw[<-e];simp
     rw[e3,e4];rfl
    ·have e3:(x !=b.F[i]'(by omega))=true:=bne_iff_ne.2 e;have e4:(some (b.F[i]'(by omega)) !=some x)=true:=bne_iff_ne.2 fun e'=>e (Option.some.inj e').symm;rw[e3,e4];rfl) (by simp[AQ]) (by omega)]
   unfold gH;cases hf:ct (fun i x=>b.F[i]? !=some x) a.F with
   | none =>
     simp only[Option.bind_some];rw[if_neg (show¬a.F.length<b.F.length by omega),if_neg (by simp)]
   | some q =>
     obtain⟨g1,g2,_⟩:=cB.1 (show ct (fun i x=>b.F[i]? !=some x) a.F=some (q.1,q.2) from hf);have hlt:=(List.getElem?_eq_some_iff.1 g1).1;have h5:b.F[q.1]?=some (b.F[q.1]'(by omega)):=List.getElem?_eq_getElem _;have hz:oc b.F q.1 q.2≠0:=by
      unfold oc;rw[h5] at g2⊢;exact fun e=>bne_iff_ne.1 g2 (by rw[bT.1 e])
     simp only[Option.bind_some];rw[if_pos hz]
  ·rw[if_pos (by simpa using e2),decide_eq_true (by simp;omega),cond_true]
 ·rw[if_pos (by simpa using e1),decide_eq_true (by simpa using e1),cond_true]
theorem lp(x y:Int):cH y x=- cH x y:=by
 unfold cH;by_cases h1:x<y
 ·rw[if_neg (show¬y<x by omega),if_pos h1,if_pos h1];rfl
 ·by_cases h2:y<x
  ·rw[if_pos h2,if_neg h1,if_pos h2]
  ·rw[if_neg h2,if_neg h1,if_neg h1,if_neg h2];rfl
theorem CZ{a b:List Int}(h:a.length=b.length):gH b a=- gH a b:=by
 have key:∀{a b:List Int}{i:Nat}{x:Int},a.length=b.length->ct (fun i x=>b[i]? !=some x) a=some (i,x)->∃y,ct (fun i x=>a[i]? !=some x) b=some (i,y)/\a[i]?=some x/\b[i]?=some y:=by
  intro a b i x h hf;obtain⟨g1,g2,g3⟩:=cB.1 hf;have hlt:=(List.getElem?_eq_some_iff.1 g1).1;have h5:b[i]?=some (b[i]'(by omega)):=List.getElem?_eq_getElem _;refine⟨b[i]'(by omega),cB.2 ⟨h5,?_,fun j y hj hy=>?_⟩,g1,h5⟩
  ·rw[g1];rw[h5] at g2;exact bne_iff_ne.2 fun e=>bne_iff_ne.1 g2 e.symm
  ·have hlj:a[j]?=some (a[j]'(by omega)):=List.getElem?_eq_getElem _;have:=g3 j _ hj hlj;rw[hlj];rw[hy] at this;simp only[bne_eq_false_iff_eq] at this⊢;exact this.symm
 unfold gH;cases hf:ct (fun i x=>b[i]? !=some x) a with
 | some q =>
   obtain⟨y,h1,h2,h3⟩:=key h (show ct (fun i x=>b[i]? !=some x) a=some (q.1,q.2) from hf);rw[h1];simp only[oc,h2,h3];exact lp _ _
 | none =>
   cases hg:ct (fun i x=>a[i]? !=some x) b with
   | some q =>
     obtain⟨y,h1,_⟩:=key h.symm (show ct (fun i x=>a[i]? !=some x) b=some (q.1,q.2) from hg);rw[hf] at h1;cases h1
   | none =>
     simp only;rw[if_neg (by omega),if_neg (by omega)];rfl
theorem gE(n:ae)(a b:ah):dQ n b a=- dQ n a b:=by
 unfold dQ;by_cases e1:dt n a=dt n b
 ·rw[if_neg (show¬dt n b≠dt n a from fun h=>h e1.symm),if_neg (show¬dt n a≠dt n b from fun h=>h e1)];by_cases e2:a.F.length=b.F.length
  ·rw[if_neg (show¬b.F.length≠a.F.length from fun h=>h e2.symm),if_neg (show¬a.F.length≠b.F.length from fun h=>h e2),CZ e2];by_cases e3:gH a.F b.F=0
   ·rw[if_neg (show¬ -gH a.F b.F≠0 by omega),if_neg (show¬gH a.F b.F≠0 from fun h=>h e3)];exact lp _ _
   ·rw[if_pos (show -gH a.F b.F≠0 by omega),if_pos e3]
  ·rw[if_pos (show b.F.length≠a.F.length from fun e=>e2 e.symm),if_pos e2];exact lp _ _
 ·rw[if_pos (show dt n b≠dt n a from fun e=>e1 e.symm),if_pos e1];exact lp _ _
theorem rl{n:ae}{a b:ah}(h:dQ n a b=0):a=b:=by
 unfold dQ at h;by_cases e1:dt n a=dt n b
 ·rw[if_neg (by simp[e1])] at h;by_cases e2:a.F.length=b.F.length
  ·rw[if_neg (by simp[e2])] at h;by_cases e3:gH a.F b.F=0
   ·rw[if_neg (by simp[e3])] at h;have hs:=bT.1 h;have hf:a.F=b.F:=by
     unfold gH at e3;cases hf:ct (fun i x=>b.F[i]? !=some x) a.F with
     | none =>
       have:=dK.1 hf;apply List.ext_getElem?;intro i;rcases Nat.lt_or_ge i a.F.length with hi|hi
       ·have:=this i _ (List.getElem?_eq_getElem hi);simp only[bne_eq_false_iff_eq] at this;rw[this,List.getElem?_eq_getElem hi]
       ·rw[List.getElem?_eq_none hi,List.getElem?_eq_none (by omega)]
     | some q =>
       rw[hf] at e3;obtain⟨g1,g2,_⟩:=cB.1 (show ct (fun i x=>b.F[i]? !=some x) a.F=some (q.1,q.2) from hf);have hlt:=(List.getElem?_eq_some_iff.1 g1).1;have h5:b.F[q.1]?=some (b.F[q.1]'(by omega)):=List.getElem?_eq_getElem _;exfalso;simp only[oc,h5] at e3;rw[h5] at g2;exact bne_iff_ne.1 g2 (by rw[bT.1 e3])
    cases a;cases b;simp only at hs hf;rw[hs,hf]
   ·rw[if_pos e3] at h;exact absurd h e3
  ·rw[if_pos e2] at h;have:=bT.1 h;omega
 ·rw[if_pos e1] at h;exact absurd (bT.1 h) e1
end Vs

namespace Vs
open Go
theorem lh{α:Type}(xs:List α)(k:Nat)(h:k<=xs.length):iq xs 0 k=xs.take k:=by rw[ik,List.drop_zero]
theorem uc{α:Type}(xs:List α)(k:Nat)(h:k<=xs.length):iq xs k (xs.length-k)=xs.drop k:=by
 rw[ik,List.take_of_length_le (by simp)]
structure Ht(n:ae)(s:Int)(p q:List Int):Prop where
 len:q.length=p.length+1
 nd:q.Nodup
 rg:∀x∈q,0<=x/\x<(n.N.length:Int)
 pr:∀e∈p,0<=e/\e<(n.F.length:Int)
 st:0<=s/\s<8
theorem Ht.le{n:ae}{s:Int}{p q:List Int}(h:Ht n s p q):q.length<=n.N.length:=ln _ q h.nd h.rg
theorem Ht.rt{n:ae}(hn:ce n=true){s:Int}{p q:List Int}(h:Ht n s p q):RtB n ⟨s,p⟩:=by
 obtain⟨b1,b2,b3⟩:=cS hn;have h1:=h.le;have h2:=h.len;exact⟨by show p.length<=20;omega,h.pr,h.st⟩
end Vs

namespace Vs
open Go
theorem zi{α:Type}(p:Nat->α->Bool):∀(xs:List α)(k:Nat),((xs.zipIdx (k+1)).find? fun q=>p q.2 q.1)=((xs.zipIdx k).find? fun q=>p (q.2+1) q.1).map fun q=>(q.1,q.2+1)
 |[],k=>rfl
 | x :: xs, k => by
   rw[List.zipIdx_cons,List.zipIdx_cons,List.find?_cons,List.find?_cons];simp only;cases p (k+1) x with
   |true=>rfl
   |false=>exact zi p xs (k+1)
theorem EC{α:Type}(p:Nat->α->Bool)(x:α)(xs:List α):
 ct p (x::xs)=if p 0 x then some (0,x) else(ct (fun i=>p (i+1)) xs).map fun q=>(q.1+1,q.2):=by
 unfold ct;rw[List.zipIdx_cons,List.find?_cons];by_cases h:p 0 x=true
 ·simp[h]
 ·simp only[Bool.not_eq_true] at h;simp only[h,Bool.false_eq_true,if_false];rw[zi p xs 0,Option.map_map,Option.map_map];rfl
theorem fG{x y:Int}:cH x y<0↔x<y:=by
 unfold cH;by_cases h1:x<y
 ·simp[h1]
 ·by_cases h2:y<x<;>simp[h1,h2]
theorem zS(x y:Int)(a b:List Int):gH (x::a) (y::b)=if x=y then gH a b else cH x y:=by
 unfold gH;rw[EC];by_cases h:x=y
 ·subst h;simp only[List.getElem?_cons_zero,bne_self_eq_false,Bool.false_eq_true,if_false,List.getElem?_cons_succ,if_true];cases ct (fun i x=>b[i]? !=some x) a with
  |none=>simp
  |some q=>simp[oc]
 ·have:((some y:Option Int) !=some x)=true:=bne_iff_ne.2 fun e=>h (Option.some.inj e).symm;simp only[List.getElem?_cons_zero,this,if_true,if_neg h];simp[oc]
theorem yA:∀a b c:List Int,a.length=b.length->b.length=c.length->gH a b<0->gH b c<0->gH a c<0
 |[],[],[],_,_,h,_=>h
 | x :: a, y :: b, z :: c, h1, h2, h3, h4 => by
   rw[zS] at h3 h4⊢;by_cases e1:x=y
   ·rw[if_pos e1] at h3;by_cases e2:y=z
    ·rw[if_pos e2] at h4;rw[if_pos (e1.trans e2)];exact yA a b c (by simpa using h1) (by simpa using h2) h3 h4
    ·rw[if_neg e2,fG] at h4;rw[if_neg (by omega),fG];omega
   ·rw[if_neg e1,fG] at h3;by_cases e2:y=z
    ·rw[if_neg (by omega),fG];omega
    ·rw[if_neg e2,fG] at h4;rw[if_neg (by omega),fG];omega
theorem rZ{n:ae}{a b:ah}(hs:a.N=b.N):dQ n a b<0↔dt n a<dt n b\/(dt n a=dt n b/\(a.F.length<b.F.length\/(a.F.length=b.F.length/\gH a.F b.F<0))):=by
 unfold dQ;by_cases e1:dt n a=dt n b
 ·rw[if_neg (fun h=>h e1)];by_cases e2:a.F.length=b.F.length
  ·rw[if_neg (fun h=>h e2)];by_cases e3:gH a.F b.F=0
   ·rw[if_neg (fun h=>h e3),fG];omega
   ·rw[if_pos e3];omega
  ·rw[if_pos e2,fG];omega
 ·rw[if_pos e1,fG];omega
theorem Df(n:ae)(a:ah):¬dQ n a a<0:=by
 have:=gE n a a;omega
theorem yF{n:ae}{a b c:ah}(h1:a.N=b.N)(h2:b.N=c.N)(h3:dQ n a b<0)(h4:dQ n b c<0):dQ n a c<0:=by
 rw[rZ h1] at h3;rw[rZ h2] at h4;rw[rZ (h1.trans h2)];rcases h3 with h3|⟨h3,h3'|⟨h3',h3''⟩⟩<;>rcases h4 with h4|⟨h4,h4'|⟨h4',h4''⟩⟩
 ·omega
 ·omega
 ·omega
 ·omega
 ·omega
 ·omega
 ·omega
 ·omega
 ·exact .inr ⟨by omega,.inr ⟨by omega,yA _ _ _ h3' h4' h3'' h4''⟩⟩
theorem pz{n:ae}{a b:ah}(h:¬dQ n a b<0):dQ n b a<0\/a=b:=by
 by_cases e:dQ n a b=0
 ·exact .inr (rl e)
 ·left;rw[gE];omega
theorem uE{n:ae}{a b c:ah}(h1:a.N=b.N)(h2:b.N=c.N)(h3:¬dQ n a b<0)(h4:¬dQ n b c<0):¬dQ n a c<0:=by
 rcases pz h3 with h3|rfl
 ·rcases pz h4 with h4|rfl
  ·have:=yF h2.symm h1.symm h4 h3;rw[gE] at this;omega
  ·rw[gE] at h3;omega
 ·exact h4
def lc(n:ae)(l:List ah):Prop:=l.Pairwise fun a b=>¬dQ n b a<0
theorem yQ{n:ae}:∀(xs ys:List ah),xs.Perm ys->lc n xs->lc n ys->xs=ys
 |[],ys,h,_,_=>(List.nil_perm.1 h).symm
 |x::xs,[],h,_,_=>by have:=h.length_eq;simp at this
 | x :: xs, y :: ys, h, h1, h2 => by
   unfold lc at h1 h2;rw[List.pairwise_cons] at h1 h2;have e:x=y:=by
    have m1:x∈y::ys:=h.mem_iff.1 List.mem_cons_self;have m2:y∈x::xs:=h.mem_iff.2 List.mem_cons_self;rw[List.mem_cons] at m1 m2;rcases m1 with e|m1
    ·exact e
    ·rcases m2 with e|m2
     ·exact e.symm
     ·have a1:=h2.1 x m1;have a2:=h1.1 y m2;have:=gE n x y;exact rl (n:=n) (by omega)
   subst e;rw[yQ xs ys (List.Perm.cons_inv h) h1.2 h2.2]
def Pd(s:Int)(L:List ah):Prop:=∀r∈L,r.N=s
theorem Np{n:ae}{s:Int}{L:List ah}{r:ah}{k:Nat}(hs:Pd s L)(hr:r.N=s)(hk:k<=L.length)(h:lc n L)(h1:∀j y,k<=j->L[j]?=some y->dQ n r y<0)
 (h2:∀y,0<k->L[k-1]?=some y->¬dQ n r y<0):lc n (L.take k++[r]++L.drop k):=by
 have hkL:L.take k++L.drop k=L:=List.take_append_drop k L;have hpw:lc n (L.take k++L.drop k):=by rw[hkL];exact h
 unfold lc at hpw⊢;rw[List.pairwise_append] at hpw;obtain⟨p1,p2,p3⟩:=hpw;have before:∀y∈L.take k,¬dQ n r y<0:=fun y hy=>by
  obtain⟨j,hj⟩:=List.getElem?_of_mem hy;rw[List.getElem?_take] at hj;split at hj
  ·rename_i hjk;have hz:L[k-1]?=some (L[k-1]'(by omega)):=List.getElem?_eq_getElem _;have q:=h2 _ (by omega) hz;by_cases e:j=k-1
   ·subst e;rw[hz] at hj;cases hj;exact q
   ·have hyz:¬dQ n (L[k-1]'(by omega)) y<0:=by
     have:=List.pairwise_iff_getElem.1 h j (k-1) (by omega) (by omega) (by omega);rw[(List.getElem?_eq_some_iff.1 hj).2] at this;exact this
    exact uE (hr.trans (hs _ (List.getElem_mem _)).symm) ((hs _ (List.getElem_mem _)).trans (hs _ (List.mem_of_mem_take hy)).symm) q hyz
  ·cases hj
 have after:∀y∈L.drop k,dQ n r y<0:=fun y hy=>by
  obtain⟨j,hj⟩:=List.getElem?_of_mem hy;rw[List.getElem?_drop] at hj;exact h1 _ y (by omega) hj
 rw[List.append_assoc,List.pairwise_append,List.singleton_append,List.pairwise_cons];refine⟨p1,⟨fun y hy=>?_,p2⟩,fun x hx y hy=>?_⟩
 ·have:=after y hy;rw[gE];omega
 ·rw[List.mem_cons] at hy;rcases hy with rfl|hy
  ·exact before x hx
  ·exact p3 x hx y hy
theorem zw{f:Int->Option (Int⊕Int)}{L:List ah}(hl:L.length<=1000)(g:ah->Int)
 (h1:∀(i:Nat)(y:ah),L[i]?=some y->f ((i+1:Nat):Int)=some (if decide (g y<0) then .inl (i:Int) else .inr ((i+1:Nat):Int))) (h2:f 0=some (.inr 0)):
 ∃k:Nat,bg f N0 (L.length:Int)=some (k:Int)/\k<=L.length/\(∀j y,k<=j->L[j]?=some y->g y<0)/\∀y,0<k->L[k-1]?=some y->¬g y<0:=by
 obtain⟨b,b1,b2⟩:=cz (f:=f) (fun s=>∃i:Nat,s=(i:Int)/\i<=L.length/\∀j y,i<=j->L[j]?=some y->g y<0) (fun s=>s.toNat) (fun b=>∃k:Nat,b=(k:Int)/\k<=L.length/\(∀j y,k<=j->L[j]?=some y->g y<0)/\∀y,0<k->L[k-1]?=some y->¬g y<0) (fun s⟨i,e,hi,hj⟩=>by
  subst e;cases i with
  |zero=>exact .inr ⟨0,h2,0,rfl,Nat.zero_le _,hj,fun y h=>by omega⟩
  | succ i =>
    have hat:=List.getElem?_eq_getElem (show i<L.length by omega);have hs:=h1 i _ hat;rw[hs];by_cases c:g L[i]<0
    ·rw[if_pos (by simpa using c)];refine .inl ⟨_,rfl,⟨i,rfl,by omega,fun j y hij hy=>?_⟩,by simp⟩;by_cases e:j=i
     ·subst e;rw[hat] at hy;cases hy;exact c
     ·exact hj j y (by omega) hy
    ·rw[if_neg (by simpa using c)];refine .inr ⟨_,rfl,i+1,rfl,hi,hj,fun y _ hy=>?_⟩;rw[show i+1-1=i by omega,hat] at hy;cases hy;exact c) N0 (L.length:Int) ⟨L.length,rfl,Nat.le_refl _,fun j y hj hy=>by have:=(List.getElem?_eq_some_iff.1 hy).1;omega⟩ (eH (by omega))
 obtain⟨k,e,hk⟩:=b2;exact⟨k,by rw[b1,e],hk⟩
theorem QM{n:ae}(hn:ce n=true){d:Int}{L:List ah}{r:ah}(hr:RtB n r)(hL:∀r∈L,RtB n r)(hl:L.length<=500)(hsm:Pd r.N L)(hsr:lc n L):
 ∃L',Fd r n.N n.F d L=some (n.N,n.F,d,L',L)/\L'.Perm (r::L)/\lc n L':=by
 obtain⟨k,k1,k2,k3,k4⟩:=zw (f:=Bu r n.N n.F L) (L:=L) (by omega) (dQ n r) (fun i y hy=>by
  have hlt:=(List.getElem?_eq_some_iff.1 hy).1;have e1:decide (0<((i+1:Nat):Int))=true:=by simp only[decide_eq_true_eq];omega
  have e2:IntKind.wrap .i64 (((i+1:Nat):Int)-1)=(i:Int):=by rw[aH (by omega) (by omega)];omega
  unfold Bu;rw[e1,cond_true,e2,bD ⟨by omega,by omega⟩,Option.bind_some,Int.toNat_natCast,hy,Option.bind_some,th hn hr (hL y (List.mem_of_getElem? hy)),Option.bind_some];cases decide (dQ n r y<0)<;>rfl) (by simp[Bu])
 unfold Fd;rw[k1,Option.bind_some,bD ⟨trivial,by omega,trivial,by simpa using k2⟩];simp only[Option.bind_some,bnd,Int.toNat_natCast];rw[bD (by rw[lh _ _ k2];simp;omega),Option.bind_some,bD (by rw[lh _ _ k2];simp;omega),Option.bind_some,bD ⟨by omega,trivial,k2,trivial⟩,Option.bind_some,bD (by rw[lh _ _ k2,uc _ _ k2];simp;omega),Option.bind_some,lh _ _ k2,uc _ _ k2];refine⟨_,rfl,?_,Np hsm rfl k2 hsr k3 k4⟩;have hp:(L.take k++r::L.drop k).Perm (r::(L.take k++L.drop k)):=List.perm_middle;rw[List.take_append_drop] at hp;rw[List.append_assoc];exact hp
end Vs

namespace Vs
open Go
def cR(q:List Int):Int:=(q[q.length-1]?).getD 0
def eh(n:ae)(D:List Int->List Int->List ah)(v:Int)(p q:List Int)(i:Nat):List ah:=
 if 0<=dD n (i:Int) v/\dD n (i:Int) v∉q then D (p++[(i:Int)]) (q++[dD n (i:Int) v]) else []
def flS(n:ae)(D:List Int->List Int->List ah)(v:Int)(p q:List Int)(k:Nat):List ah:=(List.range k).flatMap (eh n D v p q)
def fe(n:ae)(s d:Int)(D:List Int->List Int->List ah)(p q:List Int):List ah:=
 if cR q=d then [⟨s,p⟩] else flS n D (cR q) p q n.F.length
def kt(n:ae)(s d:Int):Nat->List Int->List Int->List ah
 |0,p,q=>fe n s d (fun _ _=>[]) p q
 |k+1,p,q=>fe n s d (kt n s d k) p q
structure kp(n:ae)(s:Int)(p q:List Int):Prop where
 S:Ht n s p q
 V:∀ext,cr (zm n) (fun a=>some a.2) 0 (p++ext) (s,[s])=cr (zm n) (fun a=>some a.2) p.length ext (cR q,q)
theorem nS(q:List Int)(w:Int):cR (q++[w])=w:=by unfold cR;simp
theorem GM{q:List Int}(h:0<q.length):q[q.length-1]?=some (cR q):=by
 unfold cR;rw[List.getElem?_eq_getElem (show q.length-1<q.length by omega)];rfl
theorem Kp{n:ae}(hn:ce n=true){i:Nat}(hi:i<n.F.length){v:Int}(h0:0<=dD n (i:Int) v):dD n (i:Int) v<(n.N.length:Int):=by
 have hwi:wi (i:Int) 0 ((n.F.length:Int)-1)=true:=cG.2 (by omega);obtain⟨f,f1,f2⟩:=sS hwi;obtain⟨fa,fb,fc,_⟩:=nR hn f2;unfold dD at h0⊢;rw[f2] at h0⊢;simp only[jF] at h0⊢;by_cases c1:v=f.A
 ·rw[if_pos c1];omega
 ·rw[if_neg c1];by_cases c2:v=f.B
  ·rw[if_pos c2];omega
  ·rw[if_neg c2];omega
theorem kp.ext{n:ae}(hn:ce n=true){s:Int}{p q:List Int}(h:kp n s p q){i:Nat}(hi:i<n.F.length)(h1:0<=dD n (i:Int) (cR q))(h2:dD n (i:Int) (cR q)∉q):
 kp n s (p++[(i:Int)]) (q++[dD n (i:Int) (cR q)]):=by
 have hp:=h.S;have hlt:=Kp hn hi h1;refine⟨⟨by have:=hp.len;simp;omega,?_,fun x hx=>?_,fun x hx=>?_,hp.st⟩,fun ext=>?_⟩
 ·rw[List.nodup_append];refine⟨hp.nd,by simp,fun x hx y hy e=>?_⟩;simp only[List.mem_singleton] at hy;exact h2 (by rw[<-hy,<-e];exact hx)
 ·rcases List.mem_append.1 hx with h|h
  ·exact hp.rg x h
  ·simp only[List.mem_singleton] at h;rw[h];exact⟨h1,hlt⟩
 ·rcases List.mem_append.1 hx with h|h
  ·exact hp.pr x h
  ·simp only[List.mem_singleton] at h;rw[h];omega
 ·rw[List.append_assoc,h.V,List.singleton_append,nS,List.length_append,List.length_singleton];rw[cr];have hb:Gm n (i:Int) (cR q,q)=false:=by
   unfold Gm;have e1:wi (i:Int) 0 ((n.F.length:Int)-1)=true:=cG.2 (by omega);simp only[e1,decide_eq_false h2,decide_eq_false (show¬dD n (i:Int) (cR q)<0 by omega)];rfl
  unfold zm;rw[hb];rfl
structure RtV(n:ae)(s:Int)(r:ah):Prop where
 st:r.N=s
 b:RtB n r
 v:(xA n r).isSome=true
theorem xQ{n:ae}(hn:ce n=true){s d:Int}(hsd:s≠d)(hs:0<=s/\s<(n.N.length:Int)){D:List Int->List Int->List ah}{p q:List Int}(hD:∀p1 q1,kp n s p1 q1->q1.length=q.length+1->∀r∈D p1 q1,RtV n s r)(h:kp n s p q):∀r∈fe n s d D p q,RtV n s r:=by
 intro r hr;unfold fe at hr;split at hr
 ·rename_i e;rw[List.mem_singleton] at hr;subst hr;refine⟨rfl,h.S.rt hn,?_⟩;have hp:p.length≠0:=fun e0=>by
   have e1:p=[]:=List.length_eq_zero_iff.1 e0;subst e1;have h1:=h.V [];have h2:=h.S.len;obtain⟨x,hx⟩:∃x,q=[x]:=by
    match q,h2 with
    |[x],_=>exact⟨x,rfl⟩
   subst hx;simp only[List.append_nil,cr,Option.some.injEq,List.cons.injEq,and_true] at h1;apply hsd;rw[h1,<-e];rfl
  unfold xA;have e1:wi s 0 ((n.N.length:Int)-1)=true:=cG.2 (by omega);have h3:=h.V [];rw[List.append_nil] at h3;simp only[e1,decide_eq_false hp];rw[h3];rfl
 ·unfold flS at hr;rw[List.mem_flatMap] at hr;obtain⟨i,hi,hr⟩:=hr;rw[List.mem_range] at hi;unfold eh at hr;split at hr
  ·rename_i h1;exact hD _ _ (h.ext hn hi h1.1 h1.2) (by simp) r hr
  ·cases hr
theorem oI{n:ae}(hn:ce n=true){s d:Int}(hsd:s≠d)(hs:0<=s/\s<(n.N.length:Int)):∀(k:Nat)(p q:List Int),kp n s p q->∀r∈kt n s d k p q,RtV n s r
 |0,p,q,h=>xQ hn hsd hs (fun _ _ _ _ _ hr=>by cases hr) h
 |k+1,p,q,h=>xQ hn hsd hs (fun p1 q1 h1 _=>oI hn hsd hs k p1 q1 h1) h
structure GdL(n:ae)(s:Int)(L:List ah):Prop where
 srt:lc n L
 rt:∀r∈L,RtV n s r
def ko(n:ae)(L D L':List ah):Prop:=lc n L'/\(∀r∈L',r∈L\/r∈D)/\L'.length<=201/\(if L.length+D.length<=201 then L'.Perm (L++D) else L'.length=201)
theorem ko.refl{n:ae}{L:List ah}(h:lc n L)(hl:L.length<=201):ko n L [] L:=⟨h,fun r hr=>.inl hr,hl,by rw[if_pos (by simpa using hl),List.append_nil]⟩
theorem ko.trans{n:ae}{L D1 L1 D2 L2:List ah}(h1:ko n L D1 L1)(hl:L1.length<=200)(h2:ko n L1 D2 L2):ko n L (D1++D2) L2:=by
 obtain⟨a1,a2,a3,a4⟩:=h1;obtain⟨b1,b2,b3,b4⟩:=h2;have c:L.length+D1.length<=201:=by
  apply Classical.byContradiction;intro h;rw[if_neg h] at a4;omega
 rw[if_pos c] at a4;have e:=a4.length_eq;rw[List.length_append] at e;refine⟨b1,fun r hr=>?_,b3,?_⟩
 ·rcases b2 r hr with h|h
  ·rcases a2 r h with h|h
   ·exact .inl h
   ·exact .inr (List.mem_append_left _ h)
  ·exact .inr (List.mem_append_right _ h)
 ·rw[List.length_append];by_cases c2:L1.length+D2.length<=201
  ·rw[if_pos c2] at b4;rw[if_pos (by omega),<-List.append_assoc];exact b4.trans (a4.append_right D2)
  ·rw[if_neg c2] at b4;rw[if_neg (by omega)];exact b4
theorem ko.full{n:ae}{L D1 L1:List ah}(D2:List ah)(h1:ko n L D1 L1)(hl:¬L1.length<=200):ko n L (D1++D2) L1:=by
 obtain⟨a1,a2,a3,a4⟩:=h1;refine⟨a1,fun r hr=>(a2 r hr).imp id (List.mem_append_left _),a3,?_⟩;rw[List.length_append];split
 ·rename_i c;rw[if_pos (by omega)] at a4;have e:=a4.length_eq;rw[List.length_append] at e;have:D2=[]:=List.length_eq_zero_iff.1 (by omega);rw[this,List.append_nil];exact a4
 ·omega
theorem GdL.put{n:ae}{s:Int}{L D L':List ah}(h:GdL n s L)(hD:∀r∈D,RtV n s r)(hq:ko n L D L'):GdL n s L':=⟨hq.1,fun r hr=>(hq.2.1 r hr).elim (h.rt r) (hD r)⟩
theorem eW(n:ae)(D:List Int->List Int->List ah)(v:Int)(p q:List Int)(k:Nat):flS n D v p q (k+1)=flS n D v p q k++eh n D v p q k:=by
 unfold flS;rw[List.range_succ,List.flatMap_append];simp
theorem oV(n:ae)(D:List Int->List Int->List ah)(v:Int)(p q:List Int){k:Nat}:∀m,k<=m->∃R,flS n D v p q m=flS n D v p q k++R
 | 0, h => ⟨[], by have : k = 0 := by omega
                   subst this;simp⟩
 | m + 1, h => by
   by_cases e:k=m+1
   ·subst e;exact⟨[],by simp⟩
   ·obtain⟨R,hR⟩:=oV n D v p q m (show k<=m by omega);exact⟨R++eh n D v p q m,by rw[eW,hR,List.append_assoc]⟩
theorem la{n:ae}(hn:ce n=true){s d:Int}(hsd:s≠d)(hs:0<=s/\s<(n.N.length:Int)){D:List Int->List Int->List ah}{rc:Int->List ByteArray->List ax->Int->List ah->List Int->List Int->Option (List ByteArray×List ax×Int×List ah×List Int)}
 {L:List ah} {p q:List Int} (hrc:∀(L:List ah)(p1 q1:List Int),kp n s p1 q1->q1.length=q.length+1->GdL n s L->L.length<=200->∃L',rc s n.N n.F d L p1 q1=some (n.N,n.F,d,L',q1)/\ko n L (D p1 q1) L')
 (hD:∀p1 q1,kp n s p1 q1->q1.length=q.length+1->∀r∈D p1 q1,RtV n s r) (hp:kp n s p q) (hL:GdL n s L) (hl:L.length<=200):
 ∃L',Ar rc s n.N n.F d L p q=some (n.N,n.F,d,L',q)/\ko n L (fe n s d D p q) L':=by
 obtain⟨b1,b2,b3⟩:=cS hn;have h1:=hp.S.le;have h2:=hp.S.len;have hix:IntKind.wrap .i64 ((q.length:Int)-1)=((q.length-1:Nat):Int):=by rw[aH (by omega) (by omega)];omega
 unfold Ar fe;rw[hix,bD ⟨by omega,by omega⟩,Option.bind_some,Int.toNat_natCast,GM (by omega),Option.bind_some];by_cases hv:cR q=d
 ·have e0:(cR q==d)=true:=by simpa using hv
  rw[e0,if_pos hv,cond_true];obtain⟨L',e1,e2,e3⟩:=QM hn (d:=d) (r:=⟨s,p⟩) (hp.S.rt hn) (fun r hr=>(hL.rt r hr).b) (by omega) (fun r hr=>(hL.rt r hr).st) hL.srt;rw[e1,Option.bind_some];have hlen:=e2.length_eq;rw[List.length_cons] at hlen;refine⟨L',rfl,e3,fun r hr=>?_,by omega,?_⟩
  ·rcases List.mem_cons.1 (e2.mem_iff.1 hr) with h|h
   ·exact .inr (by rw[h];simp)
   ·exact .inl h
  ·rw[if_pos (by simp;omega)];have hp2:(L++(⟨s,p⟩:ah)::[]).Perm ((⟨s,p⟩:ah)::(L++[])):=List.perm_middle;rw[List.append_nil] at hp2;exact e2.trans hp2.symm
 ·have e0:(cR q==d)=false:=by simpa using hv
  rw[e0,if_neg hv,cond_false];generalize hvq:cR q=v at*
  obtain⟨b,o1,o2⟩:=cz (f:=JQ s p q rc v) (fun t=>∃(i:Nat)(L':List ah),t=((i:Int),n.N,n.F,d,L')/\i<=n.F.length/\ko n L (flS n D v p q i) L') (fun t=>n.F.length-t.1.toNat) (fun b=>∃L',b=(n.N,n.F,d,L')/\ko n L (flS n D v p q n.F.length) L') (fun t⟨i,L',e,hi,hL'⟩=>by
   subst e;have hgd:GdL n s L':=hL.put (fun r hr=>by
    unfold flS at hr;rw[List.mem_flatMap] at hr;obtain⟨j,hj,hr⟩:=hr;rw[List.mem_range] at hj;unfold eh at hr;split at hr
    ·rename_i c;subst hvq;exact hD _ _ (hp.ext hn (by omega) c.1 c.2) (by simp) r hr
    ·cases hr) hL'
   unfold JQ;by_cases h3:i<n.F.length/\L'.length<=200
   ·left;have e1:decide ((i:Int)<(n.F.length:Int))=true:=by simp[h3.1]
    have e2:decide ((L'.length:Int)<=200)=true:=by simp only[decide_eq_true_eq];omega
    have hwi:wi (i:Int) 0 ((n.F.length:Int)-1)=true:=cG.2 (by omega);simp only[e1,e2,cond_true,Option.bind_some,Bg n (i:Int) v hwi,zg q _ (show q.length<=1048576 by omega)];by_cases h4:0<=dD n (i:Int) v/\dD n (i:Int) v∉q
    ·have e3:decide (0<=dD n (i:Int) v)=true:=by simp[h4.1]
     have e4:(q.any fun y=>y==dD n (i:Int) v)=false:=by rw[<-rG];exact decide_eq_false h4.2
     have hP:kp n s (p++[(i:Int)]) (q++[dD n (i:Int) v]):=by subst hvq;exact hp.ext hn h3.1 h4.1 h4.2
     have hle:=hP.S.le;simp only[List.length_append,List.length_singleton] at hle;obtain⟨L2,c1,c2⟩:=hrc L' (p++[(i:Int)]) (q++[dD n (i:Int) v]) hP (by simp) hgd h3.2;have ep:qx p=some p:=by unfold qx;rw[bD (by omega)];rfl
     have eq:qx q=some q:=by unfold qx;rw[bD (by omega)];rfl
     simp only[e3,e4,cond_true,Bool.not_false,Option.bind_some,ep,eq,bnd];rw[bD (by omega),Option.bind_some,bD (by omega),Option.bind_some,c1,Option.bind_some];have hst:eh n D v p q i=D (p++[(i:Int)]) (q++[dD n (i:Int) v]):=by unfold eh;rw[if_pos h4]
     refine⟨_,rfl,⟨i+1,L2,by rw[aH (by omega) (by omega)];rfl,by omega,by rw[eW,hst];exact hL'.trans h3.2 c2⟩,?_⟩;simp only;rw[aH (by omega) (by omega)];omega
    ·have e3:(cond (decide (0<=dD n (i:Int) v)) (some (!(q.any fun y=>y==dD n (i:Int) v))) (some false):Option Bool)=some false:=by
      by_cases h5:0<=dD n (i:Int) v
      ·have:(q.any fun y=>y==dD n (i:Int) v)=true:=by
        rw[<-rG,decide_eq_true_eq];exact Classical.byContradiction fun h6=>h4 ⟨h5,h6⟩
       simp[h5,this]
      ·simp[h5]
     rw[e3];simp only[Option.bind_some,cond_false];have hst:eh n D v p q i=[]:=by unfold eh;rw[if_neg h4]
     refine⟨_,rfl,⟨i+1,L',by rw[aH (by omega) (by omega)];rfl,by omega,by rw[eW,hst,List.append_nil];exact hL'⟩,?_⟩;simp only;rw[aH (by omega) (by omega)];omega
   ·right;have e1:(cond (decide ((i:Int)<(n.F.length:Int))) (some (decide ((L'.length:Int)<=200))) (some false):Option Bool)=some false:=by
     by_cases h5:i<n.F.length
     ·have:¬L'.length<=200:=fun h=>h3 ⟨h5,h⟩;have e6:decide ((L'.length:Int)<=200)=false:=by simp only[decide_eq_false_iff_not];omega
      simp[h5,e6]
     ·simp[h5]
    simp only[e1,Option.bind_some,cond_false];refine⟨_,rfl,L',rfl,?_⟩;by_cases h5:i<n.F.length
    ·obtain⟨R,hR⟩:=oV n D v p q n.F.length hi;rw[hR];exact hL'.full R fun h=>h3 ⟨h5,h⟩
    ·have:i=n.F.length:=by omega
     rw[<-this];exact hL') N0 (0,n.N,n.F,d,L) ⟨0,L,rfl,Nat.zero_le _,ko.refl hL.srt (by omega)⟩ (eH (by simp only;omega))
  obtain⟨L',e,hL'⟩:=o2;rw[o1,e];exact⟨L',rfl,hL'⟩
theorem ti{n:ae}(hn:ce n=true){s d:Int}(hsd:s≠d)(hs:0<=s/\s<(n.N.length:Int)):∀(k m:Nat),k<m->∀(L:List ah)(p q:List Int),kp n s p q->q.length+k=n.N.length->GdL n s L->L.length<=200->
 ∃L',wA m s n.N n.F d L p q=some (n.N,n.F,d,L',q)/\ko n L (kt n s d k p q) L'
 |0,0,h=>by omega
 |0,m+1,_=>fun L p q hp hq hL hl=>la hn hsd hs (fun L1 p1 q1 hp1 e _ _=>by have:=hp1.S.le;omega) (fun _ _ _ _ _ hr=>by cases hr) hp hL hl
 | k + 1, m, hm => fun L p q hp hq hL hl => by
   obtain⟨m,rfl⟩:∃m',m=m'+1:=⟨m-1,by omega⟩;exact la hn hsd hs (fun L1 p1 q1 hp1 e hL1 hl1=>ti hn hsd hs k m (by omega) L1 p1 q1 hp1 (by omega) hL1 hl1) (fun p1 q1 h1 _=>oI hn hsd hs k p1 q1 h1) hp hL hl
def jM(n:ae)(s d:Int):List ah:=kt n s d (n.N.length-1) [] [s]
theorem MV{n:ae}(hn:ce n=true){s:Int}(hs:0<=s/\s<(n.N.length:Int)):kp n s [] [s]:=by
 have:=cS hn;exact⟨⟨rfl,by simp,fun x hx=>by simp only[List.mem_singleton] at hx;rw[hx];exact hs,fun e he=>(by cases he),⟨hs.1,by omega⟩⟩,fun ext=>rfl⟩
theorem PM{n:ae}(hn:ce n=true){s d:Int}(hsd:s≠d)(hs:0<=s/\s<(n.N.length:Int)):∃L,(if(jM n s d).length<=200 then Cg n s d=some (true,L)/\L.Perm (jM n s d)/\lc n L else Cg n s d=some (false,[])):=by
 obtain⟨b1,b2,b3⟩:=cS hn;obtain⟨k,hk⟩:∃k,n.N.length=k+2:=⟨n.N.length-2,by omega⟩;have e:Ln s n.N n.F d [s]=Ar (wA N0) s n.N n.F d [] [] [s]:=rfl;obtain⟨L,e1,e2,e3,e4,e5⟩:=la hn hsd hs (D:=kt n s d k) (rc:=wA N0) (L:=[]) (p:=[]) (q:=[s]) (fun L1 p1 q1 hp1 e hL1 hl1=>ti hn hsd hs k N0 (eH (by omega)) L1 p1 q1 hp1 (by simp only[List.length_singleton] at e;omega) hL1 hl1) (fun p1 q1 h1 _=>oI hn hsd hs k p1 q1 h1) (MV hn hs) ⟨List.Pairwise.nil,fun r hr=>by cases hr⟩ (by simp);have hr:jM n s d=fe n s d (kt n s d k) [] [s]:=by unfold jM;rw[hk];rfl
 rw[<-hr] at e5;refine⟨L,?_⟩;unfold Cg;simp only[bnd,List.length_nil,Nat.zero_add,List.nil_append] at e5⊢;rw[e,e1,Option.bind_some];by_cases h:(jM n s d).length<=200
 ·rw[if_pos (by omega)] at e5;have hl:=e5.length_eq;have e7:decide ((200:Int)<(L.length:Int))=false:=by simp only[decide_eq_false_iff_not];omega
  rw[if_pos h];refine⟨?_,e5,e2⟩;show cond (decide ((200:Int)<(L.length:Int))) _ _=_;rw[e7,cond_false,bD (by simp only;omega)];rfl
 ·have hl:L.length=201:=by
   by_cases h2:(jM n s d).length<=201
   ·rw[if_pos h2] at e5;have:=e5.length_eq;omega
   ·rw[if_neg h2] at e5;exact e5
  rw[if_neg h];have e7:decide ((200:Int)<(L.length:Int))=true:=by simp only[decide_eq_true_eq];omega
  show cond (decide ((200:Int)<(L.length:Int))) _ _=_;rw[e7];rfl
end Vs

namespace Vs
open Go
theorem lj(a:Nat):BitVec.ofInt 64 (a:Int)=BitVec.ofNat 64 a:=by
 apply BitVec.eq_of_toNat_eq;simp[BitVec.toNat_ofInt]
theorem borR(a b:Nat)(ha:a<2^62)(hb:b<2^62):bits .or .i64 (a:Int) (b:Int)=((a ||| b:Nat):Int):=by
 have hab:a ||| b<2^62:=Nat.or_lt_two_pow ha hb;show IntKind.wrap .i64 ((BitVec.ofInt 64 (a:Int) ||| BitVec.ofInt 64 (b:Int)).toNat:Int)=_;rw[lj,lj,BitVec.toNat_or,BitVec.toNat_ofNat,BitVec.toNat_ofNat,Nat.mod_eq_of_lt (by omega),Nat.mod_eq_of_lt (by omega),aH (by omega) (by omega)]
theorem SM(m i:Nat)(hi:i<64)(hm:m<2^62):(bits .and .i64 (Int.fdiv (m:Int) (2^(min i (IntKind.bits .i64)))) 1==0)=!m.testBit i:=by
 have e1:min i (IntKind.bits .i64)=i:=by rw[show IntKind.bits .i64=64 from rfl];omega
 have e2:Int.fdiv (m:Int) (2^i)=((m/2^i:Nat):Int):=by
  rw[Int.fdiv_eq_ediv_of_nonneg _ (by exact_mod_cast Nat.zero_le (2^i))];simp
 have hlt:m/2^i<2^62:=Nat.lt_of_le_of_lt (Nat.div_le_self ..) hm;rw[e1,e2];have e3:bits .and .i64 ((m/2^i:Nat):Int) 1=((m/2^i%2:Nat):Int):=by
  show IntKind.wrap .i64 ((BitVec.ofInt 64 ((m/2^i:Nat):Int) &&& BitVec.ofInt 64 ((1:Nat):Int)).toNat:Int)=_;rw[lj,lj,BitVec.toNat_and,BitVec.toNat_ofNat,BitVec.toNat_ofNat,Nat.mod_eq_of_lt (by omega),Nat.mod_eq_of_lt (by omega),Nat.and_one_is_mod,aH (by omega) (by omega)]
 rw[e3,Nat.testBit_eq_decide_div_mod_eq];have:=Nat.mod_two_eq_zero_or_one (m/2^i);rcases this with h|h<;>rw[h]<;>simp
theorem Jx(xs:List Int)(hl:xs.length<=1048576):zV xs=some xs:=by
 unfold zV;rw[bD (by omega)];simp only[Option.bind_some];cases xs with
 |nil=>rfl
 |cons x xs=>rfl
def uN(m:Nat)(q:List Int):Prop:=m<2^8/\∀i:Nat,m.testBit i=decide ((i:Int)∈q)
theorem xW{w:Nat}(hw:w<8):IntKind.wrap .i64 (1*2^(min w (IntKind.bits .i64)))=((2^w:Nat):Int):=by
 have e1:min w (IntKind.bits .i64)=w:=by rw[show IntKind.bits .i64=64 from rfl];omega
 have q:(2:Nat)^w<=2^8:=Nat.pow_le_pow_right (by omega) (by omega);have p1:(1*2^w:Int)=((2^w:Nat):Int):=by rw[Int.one_mul];exact_mod_cast rfl
 have p2:((2^w:Nat):Int)<=256:=Int.ofNat_le.2 q;have p3:(0:Int)<=((2^w:Nat):Int):=Int.natCast_nonneg _;rw[e1,p1];generalize ((2^w:Nat):Int)=z at p2 p3;exact aH (by omega) (by omega)
theorem uN.ext{m:Nat}{q:List Int}(h:uN m q){w:Nat}(hw:w<8):uN (m ||| 2^w) (q++[(w:Int)]):=by
 refine⟨Nat.or_lt_two_pow h.1 (Nat.pow_lt_pow_right (by omega) hw),fun i=>?_⟩;rw[Nat.testBit_or,h.2,Nat.testBit_two_pow,Bool.eq_iff_iff];simp only[Bool.or_eq_true,decide_eq_true_eq,List.mem_append,List.mem_singleton];constructor
 ·rintro(h|h)
  ·exact .inl h
  ·right;omega
 ·rintro(h|h)
  ·exact .inl h
  ·right;omega
theorem kN{n:ae}(hn:ce n=true){s d:Int}{D:List Int->List Int->List ah}{rc:Int->Int->List Int->Int->List ah->Int->ae->Option (Int×List ah×Int×ae)}{p q:List Int}{m:Nat}{out:List ah}
 (hrc:∀(p1 q1:List Int)(m1:Nat)(out:List ah),kp n s p1 q1->q1.length=q.length+1->uN m1 q1->out.length+(D p1 q1).length<=1000000000000->rc (cR q1) (m1:Int) p1 d out s n=some (d,out++D p1 q1,s,n))
 (hp:kp n s p q) (hm:uN m q) (hlen:out.length+(fe n s d D p q).length<=1000000000000):
 Dx rc (cR q) (m:Int) p d out s n=some (d,out++fe n s d D p q,s,n):=by
 obtain⟨b1,b2,b3⟩:=cS hn;have h1:=hp.S.le;have h2:=hp.S.len;unfold Dx;unfold fe at hlen⊢;by_cases hv:cR q=d
 ·have e0:(cR q==d)=true:=by simpa using hv
  rw[if_pos hv] at hlen⊢;simp only[List.length_singleton] at hlen;rw[e0,cond_true,Jx p (by omega),Option.bind_some];simp only[bnd];rw[bD (by omega)];rfl
 ·have e0:(cR q==d)=false:=by simpa using hv
  rw[if_neg hv] at hlen⊢;rw[e0,cond_false];generalize hvq:cR q=v at*
  obtain⟨b,o1,o2⟩:=cz (f:=M_x v (m:Int) p n rc) (fun t=>∃i:Nat,t=((i:Int),d,out++flS n D v p q i,s,n)/\i<=n.F.length) (fun t=>n.F.length-t.1.toNat) (fun b=>b=(d,out++flS n D v p q n.F.length,s,n)) (fun t⟨i,e,hi⟩=>by
   subst e;unfold M_x;by_cases h3:i<n.F.length
   ·left;have e1:decide ((i:Int)<(n.F.length:Int))=true:=by simp[h3]
    have hat:n.F[i]?=some n.F[i]:=List.getElem?_eq_getElem h3;have ho:dD n (i:Int) v=jF n.F[i] v:=by unfold dD;rw[Int.toNat_natCast,hat]
    have w1:IntKind.wrap .i64 ((i:Int)+1)=((i+1:Nat):Int):=by rw[aH (by omega) (by omega)];rfl
    simp only[e1,cond_true,aW,hat,Option.bind_some,vW,<-ho,w1];by_cases h0:0<=dD n (i:Int) v
    ·obtain⟨w,hw⟩:=Int.eq_ofNat_of_zero_le h0;have hlt:=Kp hn h3 h0;rw[hw] at hlt;have hw8:w<8:=by omega
     simp only[hw,Int.toNat_natCast];rw[bD (by omega)];simp only[Option.bind_some,decide_eq_true (show(0:Int)<=(w:Int) by omega),cond_true,SM m w (by omega) (by have:=hm.1;omega),hm.2 w];by_cases h4:(w:Int)∈q
     ·rw[decide_eq_true h4];simp only[Bool.not_true,cond_false];have hst:eh n D v p q i=[]:=by unfold eh;rw[if_neg (by rw[hw];exact fun h=>h.2 h4)]
      exact⟨_,rfl,⟨i+1,by rw[eW,hst,List.append_nil],by omega⟩,by simp only;omega⟩
     ·rw[decide_eq_false h4];simp only[Bool.not_false,cond_true,bnd];have h5:0<=dD n (i:Int) v/\dD n (i:Int) v∉q:=⟨h0,by rw[hw];exact h4⟩;have hst:eh n D v p q i=D (p++[(i:Int)]) (q++[(w:Int)]):=by unfold eh;rw[if_pos h5,hw]
      have hP:kp n s (p++[(i:Int)]) (q++[(w:Int)]):=by subst hvq;rw[<-hw];exact hp.ext hn h3 h5.1 h5.2
      obtain⟨R,hR⟩:=oV n D v p q n.F.length (show i+1<=n.F.length by omega);rw[hR,eW,hst,List.length_append,List.length_append] at hlen;have hw2:(2:Nat)^w<=2^8:=Nat.pow_le_pow_right (by omega) (by omega);have hm1:=hm.1;rw[bD (by omega),Option.bind_some,xW hw8,borR m (2^w) (by omega) (by omega)];have hc:=hrc (p++[(i:Int)]) (q++[(w:Int)]) (m ||| 2^w) (out++flS n D v p q i) hP (by simp) (hm.ext hw8) (by rw[List.length_append];omega);rw[nS] at hc;rw[hc,Option.bind_some];exact⟨_,rfl,⟨i+1,by rw[eW,hst,List.append_assoc],by omega⟩,by simp only;omega⟩
    ·have e3:decide (0<=dD n (i:Int) v)=false:=decide_eq_false h0;simp only[e3,cond_false,Option.bind_some];have hst:eh n D v p q i=[]:=by unfold eh;rw[if_neg fun h=>h0 h.1]
     exact⟨_,rfl,⟨i+1,by rw[eW,hst,List.append_nil],by omega⟩,by simp only;omega⟩
   ·right;have:i=n.F.length:=by omega
    subst this;have e1:decide ((n.F.length:Int)<(n.F.length:Int))=false:=by simp
    simp only[e1,cond_false];exact⟨_,rfl,rfl⟩) N0 (0,d,out,s,n) ⟨0,by simp[flS],by omega⟩ (eH (by simp only;omega))
  rw[o1,o2];rfl
theorem tD{n:ae}(hn:ce n=true){s d:Int}:∀(k f:Nat),k<f->∀(p q:List Int)(m:Nat)(out:List ah),kp n s p q->q.length+k=n.N.length->uN m q->out.length+(kt n s d k p q).length<=1000000000000->
 AR f (cR q) (m:Int) p d out s n=some (d,out++kt n s d k p q,s,n)
 |0,0,h=>by omega
 |0,f+1,_=>fun p q m out hp hq hm hl=>kN hn (fun p1 q1 m1 out1 hp1 e _ _=>by have:=hp1.S.le;omega) hp hm hl
 | k + 1, f, hf => fun p q m out hp hq hm hl => by
   obtain⟨f,rfl⟩:∃f',f=f'+1:=⟨f-1,by omega⟩;exact kN hn (fun p1 q1 m1 out1 hp1 e hm1 hl1=>tD hn k f (by omega) p1 q1 m1 out1 hp1 (by omega) hm1 hl1) hp hm hl
theorem MX{n:ae}(hn:ce n=true){s d:Int}:∀(k:Nat)(p q:List Int),(kt n s d k p q).length<=14^k:=by
 obtain⟨b1,b2,b3⟩:=cS hn;have body:∀(D:List Int->List Int->List ah)(B:Nat)(p q:List Int),(∀p q,(D p q).length<=B)->(fe n s d D p q).length<=max 1 (14*B):=by
  intro D B p q hD;unfold fe;split
  ·simp;omega
  ·have gen:∀m,(flS n D (cR q) p q m).length<=m*B:=by
    intro m;induction m with
    |zero=>simp[flS]
    | succ m ih =>
      rw[eW,List.length_append,Nat.add_mul,Nat.one_mul];have:(eh n D (cR q) p q m).length<=B:=by
       unfold eh;split
       ·exact hD _ _
       ·simp
      omega
   have h1:=gen n.F.length;have h2:n.F.length*B<=14*B:=Nat.mul_le_mul_right B b3;omega
 intro k;induction k with
 | zero =>
   intro p q;have:=body (fun _ _=>[]) 0 p q (fun _ _=>by simp);simpa[kt] using this
 | succ k ih =>
   intro p q;have:=body (kt n s d k) (14^k) p q ih;have h2:0<14^k:=Nat.pow_pos (by omega);rw[Nat.pow_succ];show(fe n s d (kt n s d k) p q).length<=_;omega
theorem LR{n:ae}(hn:ce n=true)(s d:Int):(jM n s d).length<=105413504:=by
 obtain⟨b1,b2,b3⟩:=cS hn;have h1:=MX hn (s:=s) (d:=d) (n.N.length-1) [] [s];have h2:(14:Nat)^(n.N.length-1)<=14^7:=Nat.pow_le_pow_right (by omega) (by omega);unfold jM;omega
theorem Qs{n:ae}(hn:ce n=true){s d:Int}(hsd:s≠d)(hs:0<=s/\s<(n.N.length:Int)):∃ys,EN n s d=some ys/\ys.Perm (jM n s d)/\lc n ys:=by
 obtain⟨b1,b2,b3⟩:=cS hn;obtain⟨k,hk⟩:∃k,n.N.length=k+2:=⟨n.N.length-2,by omega⟩;obtain⟨w,rfl⟩:=Int.eq_ofNat_of_zero_le hs.1;have hrl:=LR hn (w:Int) d;have hr:jM n (w:Int) d=fe n (w:Int) d (kt n (w:Int) d k) [] [(w:Int)]:=by unfold jM;rw[hk];rfl
 have hm:uN (2^w) [(w:Int)]:=by
  have:uN 0 []:=⟨by omega,fun i=>by simp⟩;have:=this.ext (w:=w) (by omega);simpa using this
 have hc:=kN hn (s:=(w:Int)) (d:=d) (D:=kt n (w:Int) d k) (rc:=AR N0) (p:=[]) (q:=[(w:Int)]) (m:=2^w) (out:=[]) (fun p1 q1 m1 out1 hp1 e hm1 hl1=>tD hn k N0 (eH (by omega)) p1 q1 m1 out1 hp1 (by simp only[List.length_singleton] at e;omega) hm1 hl1) (MV hn hs) hm (by rw[<-hr];simp;omega);rw[<-hr] at hc;have hok:=oI hn hsd hs (n.N.length-1) [] [(w:Int)] (MV hn hs);obtain⟨ys,y1,y2,y3⟩:=xn (cmp:=fun x0 x1=>wG x0 x1 n) (xs:=jM n (w:Int) d) (dQ n) (by omega) (fun x hx y hy=>by
  show wG x y n=_;unfold wG;rw[fM (hok x hx).b (hok y hy).b];rfl) (fun x _=>Df n x) (fun x hx y hy z hz=>yF ((hok x hx).st.trans (hok y hy).st.symm) ((hok y hy).st.trans (hok z hz).st.symm)) (fun x hx y hy z hz=>uE ((hok x hx).st.trans (hok y hy).st.symm) ((hok y hy).st.trans (hok z hz).st.symm))
 refine⟨ys,?_,y2,y3⟩;unfold EN;have e0:(((w:Int)) !=d)=true:=bne_iff_ne.2 hsd;have e1:Og (w:Int) (IntKind.wrap .i64 (1*2^(min (Int.toNat (w:Int)) (IntKind.bits .i64)))) [] d [] (w:Int) n=some (d,jM n (w:Int) d,(w:Int),n):=by
  rw[Int.toNat_natCast,xW (show w<8 by omega)];rw[show cR [(w:Int)]=(w:Int) from rfl,List.nil_append] at hc;exact hc
 rw[e0,cond_true,bD (by omega),Option.bind_some,e1];simp only[Option.bind_some];rw[y1];rfl
theorem PD(xs:List Int)(f:Int->Option Bool)(p:Int->Bool)(hf:∀x,f x=some (p x))(hl:xs.length<=1048576):JU xs f=some (xs.any p):=by
 unfold JU Ot;rw[cI (f:=zU xs f) xs (fun _ x=>p x) (fun i _=>(i:Int)) () (fun i x hx _=>by
  have hlt:=(List.getElem?_eq_some_iff.1 hx).1;have h1:decide ((i:Int)<xs.length)=true:=by simp[hlt]
  simp only[zU,h1,cond_true,aW,hx,hf x,Option.bind_some];rw[aH (by omega) (by omega)];cases p x<;>rfl) (by simp[zU]) (by omega)]
 rw[<-pU];cases e:ct (fun _ x=>p x) xs with
 | none =>
   have h:eV (fun _ x=>p x) xs=false:=dz.2 (dK.1 e);rw[h];rfl
 | some q =>
   obtain⟨i,x⟩:=q;obtain⟨h1,h2,_⟩:=cB.1 e;have h:eV (fun _ x=>p x) xs=true:=gr.2 ⟨i,x,h1,h2⟩;rw[h];simp
theorem Iy{n:ae}(hn:ce n=true)(hz:bb n<=1048576){s d:Int}(hsd:s≠d)(hs:0<=s/\s<(n.N.length:Int))(hd:0<=d/\d<(n.N.length:Int)):∃L,(if(jM n s d).length<=200 then BM n s d=some (L,true)/\L.Perm (jM n s d)/\lc n L else BM n s d=some ([],false)):=by
 obtain⟨b1,b2,b3⟩:=cS hn;obtain⟨L,l1,l2,l3⟩:=Qs hn hsd hs;have hl:=l2.length_eq;refine⟨L,?_⟩;have e1:Jr n [s,d]=some true:=by
  unfold Jr;rw[ip n hz,hn];simp only[Option.bind_some,cond_true];rw[PD [s,d] _ (fun x=>!wi x 0 ((n.N.length:Int)-1)) (fun x=>by
   unfold LK;rw[aH (by omega) (by omega),eR];rfl) (by simp)]
  have q1:wi s 0 ((n.N.length:Int)-1)=true:=cG.2 (by omega);have q2:wi d 0 ((n.N.length:Int)-1)=true:=cG.2 (by omega);simp[q1,q2]
 have e2:(s==d)=false:=by simpa using hsd
 unfold BM;simp only[bnd,e1,Option.bind_some,Bool.not_true,cond_false,e2,l1];by_cases h:(jM n s d).length<=200
 ·rw[if_pos h];have e3:decide ((200:Int)<(L.length:Int))=false:=by simp only[decide_eq_false_iff_not];omega
  rw[e3];exact⟨rfl,l2,l3⟩
 ·rw[if_neg h];have e3:decide ((200:Int)<(L.length:Int))=true:=by simp only[decide_eq_true_eq];omega
  rw[e3];rfl
end Vs

namespace Vs
open Go
theorem ur{n:ae}{s d:Int}{D:List Int->List Int->List ah}(hD:∀p q r,r∈D p q->∃t,r.F=p++t)(p q:List Int):∀r∈fe n s d D p q,∃t,r.F=p++t:=by
 intro r hr;unfold fe at hr;split at hr
 ·rw[List.mem_singleton] at hr;subst hr;exact⟨[],by simp⟩
 ·unfold flS at hr;rw[List.mem_flatMap] at hr;obtain⟨i,_,hr⟩:=hr;unfold eh at hr;split at hr
  ·obtain⟨t,ht⟩:=hD _ _ r hr;exact⟨(i:Int)::t,by rw[ht];simp⟩
  ·cases hr
theorem yq{n:ae}{s d:Int}:∀(k:Nat)(p q:List Int),∀r∈kt n s d k p q,∃t,r.F=p++t
 |0,p,q=>ur (fun _ _ _ hr=>by cases hr) p q
 |k+1,p,q=>ur (fun p q r hr=>yq k p q r hr) p q
theorem yD{n:ae}{s d:Int}{D:List Int->List Int->List ah}(hD:∀p q r,r∈D p q->∃t,r.F=p++t)(hN:∀p q,(D p q).Nodup)(p q:List Int):(fe n s d D p q).Nodup:=by
 unfold fe;split
 ·simp
 ·have gen:∀m,(flS n D (cR q) p q m).Nodup/\∀r∈flS n D (cR q) p q m,∃(j:Nat)(t:List Int),j<m/\r.F=(p++[(j:Int)])++t:=by
   intro m;induction m with
   |zero=>exact⟨by simp[flS],fun r hr=>by simp[flS] at hr⟩
   | succ m ih =>
     obtain⟨i1,i2⟩:=ih;have hs:∀r∈eh n D (cR q) p q m,∃t,r.F=(p++[(m:Int)])++t:=fun r hr=>by
      unfold eh at hr;split at hr
      ·exact hD _ _ r hr
      ·cases hr
     rw[eW];refine⟨?_,fun r hr=>?_⟩
     ·rw[List.nodup_append];refine⟨i1,by unfold eh;split;exact hN _ _;simp,fun a ha b hb e=>?_⟩;obtain⟨j,t,hj,h1⟩:=i2 a ha;obtain⟨t',h2⟩:=hs b hb;rw[e,h2,List.append_assoc,List.append_assoc] at h1;have:=List.append_cancel_left h1;simp only[List.singleton_append,List.cons.injEq] at this;omega
     ·rcases List.mem_append.1 hr with h|h
      ·obtain⟨j,t,hj,h1⟩:=i2 r h;exact⟨j,t,by omega,h1⟩
      ·obtain⟨t,h1⟩:=hs r h;exact⟨m,t,by omega,h1⟩
  exact(gen _).1
theorem Gw{n:ae}{s d:Int}:∀(k:Nat)(p q:List Int),(kt n s d k p q).Nodup
 |0,p,q=>yD (fun _ _ _ hr=>by cases hr) (fun _ _=>List.nodup_nil) p q
 |k+1,p,q=>yD (fun p q r hr=>yq k p q r hr) (fun p q=>Gw k p q) p q
def iW(l:List au)(i:Nat)(x:au):Bool:=!wi x.N 1 20000||!wi x.F 1 1000||(decide (0<i)&&match l[i-1]? with|some g=>decide (g.N<=x.N)||decide (x.F<=g.F)|none=>false)
def iZ(l:List au):Bool:=!eV (iW l) l&&wi (l.length:Int) 1 6
theorem Ed(l:List au)(hl:l.length<=1048576):Cn l=some (iZ l):=by
 unfold Cn iZ;rw[eG (f:=Bq l) l (iW l) (.inr false) (.inl ()) (fun i x hx hprev=>by
  have hlt:=(List.getElem?_eq_some_iff.1 hx).1;have h1:decide ((i:Int)<l.length)=true:=by simp[hlt]
  simp only[Bq,h1,cond_true,aW,hx,Option.bind_some,eR];rw[aH (n:=(i:Int)+1) (by omega) (by omega)];unfold iW;by_cases h0:0<i
  ·have e0:decide ((0:Int)<(i:Int))=true:=decide_eq_true (by omega);have ew:IntKind.wrap .i64 ((i:Int)-1)=((i-1:Nat):Int):=by rw[aH (by omega) (by omega)];omega
   have hg:l[i-1]?=some (l[i-1]'(by omega)):=List.getElem?_eq_getElem (by omega);rw[e0,ew,aW,hg,decide_eq_true h0];simp only[cond_true,Option.bind_some,Bool.true_and];cases wi x.N 1 20000<;>cases wi x.F 1 1000<;>cases decide ((l[i-1]'(by omega)).N<=x.N)<;>cases decide (x.F<=(l[i-1]'(by omega)).F)<;>rfl
  ·have e0:decide ((0:Int)<(i:Int))=false:=decide_eq_false (by omega);rw[e0,decide_eq_false h0];cases wi x.N 1 20000<;>cases wi x.F 1 1000<;>rfl) (by simp[Bq]) (by omega)]
 simp only[eR,Option.bind_some];cases eV (iW l) l<;>rfl
theorem Ra(l:List au)(hl:l.length<=1048576):Kn l=some (iZ l):=by
 unfold Kn iZ;rw[eG (f:=M_h l) (l.take 7) (iW l) (.inr false) (.inl ()) (fun i x hx hprev=>by
  have hlt7:=(List.getElem?_eq_some_iff.1 hx).1;rw[List.length_take] at hlt7;have hlt:i<l.length:=by omega
  rw[List.getElem?_take,if_pos (by omega)] at hx;have h1:decide ((i:Int)<l.length)=true:=by simp[hlt]
  have h2:decide ((i:Int)<=6)=true:=by simp;omega
  simp only[M_h,h1,h2,cond_true,aW,hx,Option.bind_some,mB];rw[aH (n:=(i:Int)+1) (by omega) (by omega)];unfold iW;by_cases h0:0<i
  ·have e0:decide ((0:Int)<(i:Int))=true:=decide_eq_true (by omega);have ew:IntKind.wrap .i64 ((i:Int)-1)=((i-1:Nat):Int):=by rw[aH (by omega) (by omega)];omega
   have hg:l[i-1]?=some (l[i-1]'(by omega)):=List.getElem?_eq_getElem (by omega);rw[e0,ew,aW,hg,decide_eq_true h0];simp only[cond_true,Option.bind_some,Bool.true_and];cases wi x.N 1 20000<;>cases wi x.F 1 1000<;>cases decide ((l[i-1]'(by omega)).N<=x.N)<;>cases decide (x.F<=(l[i-1]'(by omega)).F)<;>rfl
  ·have e0:decide ((0:Int)<(i:Int))=false:=decide_eq_false (by omega);rw[e0,decide_eq_false h0];cases wi x.N 1 20000<;>cases wi x.F 1 1000<;>rfl) (by
  rw[List.length_take];have:(cond (decide (((min 7 l.length:Nat):Int)<(l.length:Int))) (some (decide (((min 7 l.length:Nat):Int)<=6))) (some false):Option Bool)=some false:=by
   by_cases h:l.length<=7
   ·have:decide (((min 7 l.length:Nat):Int)<(l.length:Int))=false:=by simp only[decide_eq_false_iff_not];omega
    rw[this];rfl
   ·have:decide (((min 7 l.length:Nat):Int)<=6)=false:=by simp only[decide_eq_false_iff_not];omega
    rw[this];cases decide (((min 7 l.length:Nat):Int)<(l.length:Int))<;>rfl
  simp only[M_h,this,Option.bind_some,cond_false]) (by rw[List.length_take];omega)]
 simp only[mB,Option.bind_some];by_cases h:l.length<=7
 ·rw[List.take_of_length_le h];cases eV (iW l) l<;>rfl
 ·have:wi (l.length:Int) 1 6=false:=by
   cases e:wi (l.length:Int) 1 6 with
   |false=>rfl
   |true=>have:=cG.1 e;omega
  rw[this,Bool.and_false];cases eV (iW l) (l.take 7)<;>rfl
theorem sv{l:List au}(h:iZ l=true):1<=l.length/\l.length<=6/\∀x∈l,(1<=x.N/\x.N<=20000)/\1<=x.F/\x.F<=1000:=by
 unfold iZ at h;simp only[Bool.and_eq_true,Bool.not_eq_true',cG] at h;refine⟨by omega,by omega,fun x hx=>?_⟩;obtain⟨i,hi⟩:=List.getElem?_of_mem hx;have:=dz.1 h.1 i x hi;unfold iW at this;simp only[Bool.or_eq_false_iff,Bool.not_eq_false',cG] at this;omega
def dT(l:List au)(len:Int):Nat->Option Nat
 |0=>none
 | k + 1 => match l[k]? with
   |some f=>if len<=f.N then some k else dT l len k
   |none=>dT l len k
def nb(f:au)(rate:Int):Int:=Int.tdiv (rate+f.F-1) f.F
def fh(l:List au)(len rate:Int):Int:=match dT l len l.length with
 | some k => match l[k]? with
   |some f=>if 24<nb f rate then 0 else nb f rate
   |none=>0
 |none=>0
def BQ:Option Nat->Int
 |some k=>(k:Int)
 |none=>-1
theorem lF(l:List au)(len:Int):∀(m k:Nat),dT l len m=some k->k<m/\∃f,l[k]?=some f/\len<=f.N
 |0,k,h=>by cases h
 | m + 1, k, h => by
   unfold dT at h;cases e:l[m]? with
   | none =>
     rw[e] at h;have:=lF l len m k h;exact⟨by omega,this.2⟩
   | some f =>
     rw[e] at h;simp only at h;split at h
     ·rename_i c;cases h;exact⟨by omega,f,e,c⟩
     ·have:=lF l len m k h;exact⟨by omega,this.2⟩
theorem MS(l:List au)(len:Int)(hl:l.length<=1048576):En l len=some (BQ (dT l len l.length)):=by
 unfold En;obtain⟨b,b1,b2⟩:=cz (f:=JK l len) (fun s=>∃i:Nat,s=(BQ (dT l len i),(i:Int))/\i<=l.length) (fun s=>l.length-s.2.toNat) (fun b=>b=BQ (dT l len l.length)) (fun s⟨i,e,hi⟩=>by
  subst e;unfold JK;by_cases h:i<l.length
  ·left;have hf:l[i]?=some l[i]:=List.getElem?_eq_getElem h;have e1:decide ((i:Int)<(l.length:Int))=true:=by simp[h]
   simp only[e1,cond_true,aW,hf,Option.bind_some];rw[aH (by omega) (by omega)];by_cases c:len<=l[i].N
   ·rw[decide_eq_true c];exact⟨_,rfl,⟨i+1,by simp only[dT,hf,if_pos c,BQ];rfl,by omega⟩,by simp only;omega⟩
   ·rw[decide_eq_false c];exact⟨_,rfl,⟨i+1,by simp only[dT,hf,if_neg c];rfl,by omega⟩,by simp only;omega⟩
  ·right;have:i=l.length:=by omega
   subst this;have e1:decide ((l.length:Int)<(l.length:Int))=false:=by simp
   simp only[e1,cond_false];exact⟨_,rfl,rfl⟩) N0 (-1,0) ⟨0,rfl,by omega⟩ (eH (by simp only;omega))
 rw[b1,b2];rfl
theorem Ib(l:List au)(len:Int)(h:iZ l=true)(hl:0<=len):EH l len=some (match dT l len l.length with|some k=>((k:Int),true)|none=>(0,false)):=by
 obtain⟨f1,f2,f3⟩:=sv h;unfold EH;rw[Ed l (by omega),h];simp only[Option.bind_some,Bool.not_true,cond_false,eR];by_cases h2:len<=20000
 ·rw[show wi len 0 20000=true from cG.2 (by omega)];simp only[Bool.not_true,cond_false];obtain⟨b,b1,b2⟩:=cz (f:=CV l len) (fun s=>∃i:Nat,s=(i:Int)-1/\i<=l.length/\dT l len i=dT l len l.length) (fun s=>(s+1).toNat) (fun b=>b=match dT l len l.length with|some k=>.inr ((k:Int),true)|none=>.inl ()) (fun s⟨i,e,hi,hb⟩=>by
   subst e;unfold CV;cases i with
   | zero =>
     right;rw[<-hb];exact⟨_,by simp;rfl,rfl⟩
   | succ i =>
     have hf:l[i]?=some l[i]:=List.getElem?_eq_getElem (by omega);have e0:((i+1:Nat):Int)-1=(i:Int):=by omega
     have e1:decide (0<=(i:Int))=true:=by simp
     rw[e0,e1,cond_true,aW,hf,Option.bind_some];have hb2:dT l len (i+1)=if len<=l[i].N then some i else dT l len i:=by rw[dT,hf]
     rw[hb2] at hb;by_cases c:len<=l[i].N
     ·right;rw[if_pos c] at hb;rw[decide_eq_true c];exact⟨_,rfl,by rw[<-hb]⟩
     ·left;rw[if_neg c] at hb;rw[decide_eq_false c];exact⟨_,rfl,⟨i,by rw[aH (by omega) (by omega)],by omega,hb⟩,by rw[aH (by omega) (by omega)];omega⟩) N0 ((l.length:Int)-1) ⟨l.length,rfl,Nat.le_refl _,rfl⟩ (eH (by omega))
  rw[aH (by omega) (by omega),b1,b2];cases dT l len l.length<;>rfl
 ·have e:wi len 0 20000=false:=by
   cases e:wi len 0 20000 with
   |false=>rfl
   |true=>have:=cG.1 e;omega
  rw[e];have hb:dT l len l.length=none:=by
   cases hb:dT l len l.length with
   |none=>rfl
   | some k =>
     obtain⟨_,f,g1,g2⟩:=lF l len l.length k hb;have:=(f3 f (List.mem_of_getElem? g1)).1;omega
  rw[hb];rfl
theorem so{f:au}{rate:Int}(hf:1<=f.F/\f.F<=1000)(hr:1<=rate/\rate<=1000):1<=nb f rate/\nb f rate<=2000:=by
 unfold nb;rw[Int.tdiv_eq_ediv_of_nonneg (by omega)];have h1:(rate+f.F-1)/f.F<=rate+f.F-1:=Int.ediv_le_self _ (by omega);have h2:1<=(rate+f.F-1)/f.F:=by
  rw[Int.le_ediv_iff_mul_le (by omega)];omega
 omega
theorem GX{l:List au}{len rate:Int}(h:iZ l=true)(hr:1<=rate/\rate<=1000):0<=fh l len rate/\fh l len rate<=24:=by
 obtain⟨f1,f2,f3⟩:=sv h;unfold fh;split
 ·split
  ·rename_i f hf;have:=so (f3 f (List.mem_of_getElem? hf)).2 hr;split<;>omega
  ·omega
 ·omega
theorem LJ(l:List au)(len rate:Int)(h:iZ l=true)(hr:1<=rate/\rate<=1000):Ev l len rate=some (fh l len rate):=by
 obtain⟨f1,f2,f3⟩:=sv h;unfold Ev fh;rw[MS l len (by omega),Option.bind_some];cases hb:dT l len l.length with
 |none=>rfl
 | some k =>
   obtain⟨_,f,g1,g2⟩:=lF l len l.length k hb;have hf:=(f3 f (List.mem_of_getElem? g1)).2;have hc:=so hf hr;have e1:decide (BQ (some k)<0)=false:=decide_eq_false (show¬(k:Int)<0 by omega);have e2:bR l (BQ (some k))=some f:=by show bR l (k:Int)=some f;rw[aW,g1]
   rw[e1,cond_false,e2];simp only[Option.bind_some,g1];rw[bD (by omega),Option.bind_some,aH (n:=rate+f.F) (by omega) (by omega),aH (n:=rate+f.F-1) (by omega) (by omega)];show cond (decide (24<IntKind.wrap .i64 (nb f rate))) (some 0) (some (IntKind.wrap .i64 (nb f rate)))=_;rw[aH (by omega) (by omega)];by_cases c:24<nb f rate
   ·rw[decide_eq_true c,if_pos c];rfl
   ·rw[decide_eq_false c,if_neg c];rfl
theorem Mq(l:List au)(len rate:Int)(h:iZ l=true)(hl:0<=len)(hr:1<=rate/\rate<=1000):Ce l len rate=some (fh l len rate,decide (0<fh l len rate)):=by
 obtain⟨f1,f2,f3⟩:=sv h;unfold Ce fh;rw[Ib l len h hl,Option.bind_some];cases hb:dT l len l.length with
 |none=>rfl
 | some k =>
   obtain⟨_,f,g1,g2⟩:=lF l len l.length k hb;have hf:=(f3 f (List.mem_of_getElem? g1)).2;have hc:=so hf hr;simp only[Bool.not_true,cond_false,eR,Option.bind_some,show wi rate 1 1000=true from cG.2 hr,aW,g1];rw[bD (by omega),Option.bind_some,aH (n:=rate+f.F) (by omega) (by omega),aH (n:=rate+f.F-1) (by omega) (by omega)];show cond (decide (24<IntKind.wrap .i64 (nb f rate))) (some (0,false)) (some (IntKind.wrap .i64 (nb f rate),true))=_;rw[aH (by omega) (by omega)];by_cases c:24<nb f rate
   ·rw[decide_eq_true c,if_pos c];rfl
   ·rw[decide_eq_false c,if_neg c,decide_eq_true (show 0<nb f rate by omega)];rfl
end Vs

namespace Vs
open Go
def tK(n:ae)(d:aI):Bool:=wi d.N 0 ((n.N.length:Int)-1)&&(wi d.L 0 ((n.N.length:Int)-1)&&((d.N !=d.L)&&(wi d.F 1 1000&&wi d.P 0 2)))
theorem Nb(n:ae)(d:aI)(hN:n.N.length<=1048576):DM n d=some (tK n d):=by
 unfold DM tK;rw[aH (by omega) (by omega)];simp only[eR,Option.bind_some];cases wi d.N 0 ((n.N.length:Int)-1)<;>cases wi d.L 0 ((n.N.length:Int)-1)<;>cases(d.N !=d.L)<;>cases wi d.F 1 1000<;>cases wi d.P 0 2<;>rfl
theorem PX(n:ae)(d:aI)(hN:n.N.length<=1048576):Ja n d=some (tK n d):=by
 unfold Ja tK;rw[aH (by omega) (by omega)];simp only[mB,Option.bind_some];cases wi d.N 0 ((n.N.length:Int)-1)<;>cases wi d.L 0 ((n.N.length:Int)-1)<;>cases(d.N !=d.L)<;>cases wi d.F 1 1000<;>cases wi d.P 0 2<;>rfl
theorem Sw(xs:List aI)(f:aI->Option Bool)(p:aI->Bool)(hf:∀x∈xs,f x=some (p x))(hl:xs.length<=1048576):FI xs f=some (xs.any p):=by
 unfold FI Kw;rw[cI (f:=AL xs f) xs (fun _ x=>p x) (fun i _=>(i:Int)) () (fun i x hx _=>by
  have hlt:=(List.getElem?_eq_some_iff.1 hx).1;have h1:decide ((i:Int)<xs.length)=true:=by simp[hlt]
  simp only[AL,h1,cond_true,aW,hx,hf x (List.mem_of_getElem? hx),Option.bind_some];rw[aH (by omega) (by omega)];cases p x<;>rfl) (by simp[AL]) (by omega)]
 rw[<-pU];cases e:ct (fun _ x=>p x) xs with
 | none =>
   have h:eV (fun _ x=>p x) xs=false:=dz.2 (dK.1 e);rw[h];rfl
 | some q =>
   obtain⟨i,x⟩:=q;obtain⟨h1,h2,_⟩:=cB.1 e;have h:eV (fun _ x=>p x) xs=true:=gr.2 ⟨i,x,h1,h2⟩;rw[h];simp
theorem Fg(n:ae)(d:aI)(hz:bb n<=1048576):Ff n [d]=some (ce n&&tK n d):=by
 unfold Ff;rw[ip n hz,Option.bind_some];cases hn:ce n with
 |false=>rfl
 | true =>
   have hN:=cS hn;rw[Sw [d] _ (fun d=>!tK n d) (fun x _=>by
    unfold LH;rw[Nb n x (by omega)];rfl) (by simp)]
   simp
def usF(n:ae)(l:List au)(rate:Int)(r:ah):Option aA:=if 0<fh l (dt n r) rate then some ⟨r,fh l (dt n r) rate⟩ else none
def usG(n:ae)(l:List au)(rate:Int)(_:Nat)(r:ah)(a:List aA):List aA:=if 0<fh l (dt n r) rate then a++[⟨r,fh l (dt n r) rate⟩] else a
theorem xS(n:ae)(l:List au)(rate:Int):∀(L:List ah)(k:Nat)(a:List aA),gK (usG n l rate) k L a=a++L.filterMap (usF n l rate)
 |[],_,a=>by simp[gK]
 | r :: L, k, a => by
   simp only[gK];rw[xS n l rate L,List.filterMap_cons];unfold usG usF;by_cases c:0<fh l (dt n r) rate
   ·simp[c]
   ·simp[c]
def usH(n:ae)(l:List au)(rate:Int)(_:Nat)(r:ah)(a:List ah×List Int):List ah×List Int:=if 0<fh l (dt n r) rate then(a.1++[r],a.2++[fh l (dt n r) rate]) else a
theorem tW(n:ae)(l:List au)(rate:Int):∀(L:List ah)(k:Nat)(a:List ah×List Int),gK (usH n l rate) k L a=(a.1++(L.filterMap (usF n l rate)).map (·.F),a.2++(L.filterMap (usF n l rate)).map (·.N))
 |[],_,a=>by simp[gK]
 | r :: L, k, a => by
   simp only[gK];rw[tW n l rate L,List.filterMap_cons];unfold usH usF;by_cases c:0<fh l (dt n r) rate
   ·simp[c]
   ·simp[c]
structure sk(n:ae)(s:Int)(cs:List aA):Prop where
 net:ce n=true
 len:cs.length<=200
 ok:∀c∈cs,RtV n s c.F/\0<=c.N/\c.N<=24
 srt:cs.Pairwise fun a b=>dQ n a.F b.F<0
theorem Gq(n:ae)(d:aI)(fs:List au)(hz:bb n<=1048576)(hf:fs.length<=1048576):
 ∃ok cs,HW n fs d=some (cs,ok)/\HF n d fs=some (ok,cs.map (·.F),cs.map (·.N),fs)/\(ok=true->sk n d.N cs):=by
 unfold HW HF;simp only[Ed fs hf,Ra fs hf,bnd,gu,Ko n hz,Fg n d hz,Option.bind_some];cases hn:ce n with
 | false =>
   refine⟨false,[],?_,rfl,fun h=>by cases h⟩;cases iZ fs<;>rfl
 | true =>
   have hN:=cS hn;rw[PX n d (by omega)];cases hfo:iZ fs with
   |false=>exact⟨false,[],rfl,rfl,fun h=>by cases h⟩
   | true =>
     cases hd:tK n d with
     |false=>exact⟨false,[],rfl,rfl,fun h=>by cases h⟩
     | true =>
       unfold tK at hd;simp only[Bool.and_eq_true,cG,bne_iff_ne] at hd;obtain⟨d1,d2,d3,d4,_⟩:=hd;have hs:0<=d.N/\d.N<(n.N.length:Int):=by omega
       have ht:0<=d.L/\d.L<(n.N.length:Int):=by omega
       obtain⟨L1,a⟩:=Iy hn hz d3 hs ht;obtain⟨L2,b⟩:=PM hn d3 hs;unfold Mr;simp only[Bool.not_true,cond_false,Bool.and_self,Option.bind_some];by_cases hc:(jM n d.N d.L).length<=200
       ·rw[if_pos hc] at a b;obtain⟨a1,a2,a3⟩:=a;obtain⟨b1,b2,b3⟩:=b;have e:L1=L2:=yQ L1 L2 (a2.trans b2.symm) a3 b3;subst e;have hll:=a2.length_eq;have hok:∀r∈L1,RtV n d.N r:=fun r hr=>oI hn d3 hs _ _ _ (MV hn hs) r (a2.mem_iff.1 hr);have hnd:L1.Nodup:=a2.nodup_iff.2 (Gw _ _ _);have hlt:L1.Pairwise fun a b=>dQ n a b<0:=by
         have:=List.Pairwise.and a3 hnd;refine this.imp fun{x y} h=>?_;rcases pz h.1 with h1|h1
         ·exact h1
         ·exact absurd h1.symm h.2
        rw[a1,b1];simp only[Bool.not_true,cond_false,Option.bind_some];have i1:=kP (f:=M_s n fs d (L1,true)) L1 (fun i(a:List aA)=>((i:Int),a)) (usG n fs d.F) id (fun i a=>a.length<=i) (fun i a r hx hI=>by
         have hlt:=(List.getElem?_eq_some_iff.1 hx).1;have hr:=(hok r (List.mem_of_getElem? hx)).b;have h1:decide ((i:Int)<L1.length)=true:=by simp[hlt]
         refine⟨by unfold usG;split<;>(try simp only[List.length_append,List.length_cons,List.length_nil])<;>omega,?_⟩;simp only[M_s,h1,cond_true,Int.toNat_natCast,hx,Option.bind_some];rw[bD ⟨by omega,by omega⟩,Option.bind_some,kV hr,Option.bind_some,Mq fs _ _ hfo (sj hn hr).1 d4,aH (by omega) (by omega)];simp only[Option.bind_some,bnd];unfold usG;by_cases c:0<fh fs (dt n r) d.F
         ·rw[decide_eq_true c,cond_true,bD (by omega),Option.bind_some,if_pos c];rfl
         ·rw[decide_eq_false c,cond_false,if_neg c];rfl) (fun a _=>by simp[M_s]) [] (by simp) (by omega)
        have i2:=kP (f:=BD n d fs (true,L1)) L1 (fun i(a:List ah×List Int)=>((i:Int),a.1,a.2)) (usH n fs d.F) id (fun i a=>a.1.length<=i/\a.2.length<=i) (fun i a r hx hI=>by
         have hlt:=(List.getElem?_eq_some_iff.1 hx).1;have hr:=(hok r (List.mem_of_getElem? hx)).b;have h1:decide ((i:Int)<L1.length)=true:=by simp[hlt]
         refine⟨by unfold usH;split<;>(try simp only[List.length_append,List.length_cons,List.length_nil])<;>omega,?_⟩;simp only[BD,h1,cond_true,Int.toNat_natCast,hx,Option.bind_some];rw[bD ⟨by omega,by omega⟩,Option.bind_some,gR hr,Option.bind_some];simp only[bnd,gu];rw[LJ fs _ _ hfo d4,aH (by omega) (by omega)];simp only[Option.bind_some];unfold usH;by_cases c:0<fh fs (dt n r) d.F
         ·rw[decide_eq_true c,cond_true,bD (by omega),Option.bind_some,bD (by omega),Option.bind_some,if_pos c];rfl
         ·rw[decide_eq_false c,cond_false,if_neg c];rfl) (fun a _=>by simp[BD]) ([],[]) (by simp) (by omega)
        have e0:((0:Nat):Int)=0:=rfl;simp only[e0,id] at i1 i2;rw[i1,i2,xS,tW];refine⟨true,L1.filterMap (usF n fs d.F),by simp,by simp,fun _=>⟨hn,?_,fun c hc=>?_,?_⟩⟩
        ·have:=List.length_filterMap_le (usF n fs d.F) L1;omega
        ·rw[List.mem_filterMap] at hc;obtain⟨r,hr,h1⟩:=hc;unfold usF at h1;split at h1
         ·cases h1;have:=GX (l:=fs) (len:=dt n r) hfo d4;exact⟨hok r hr,this⟩
         ·cases h1
        ·rw[List.pairwise_filterMap];refine hlt.imp fun{x y} h b hb b' hb'=>?_;unfold usF at hb hb';split at hb
         ·split at hb'
          ·cases hb;cases hb';exact h
          ·cases hb'
         ·cases hb
       ·rw[if_neg hc] at a b;rw[a,b];exact⟨false,[],rfl,rfl,fun h=>by cases h⟩
end Vs

namespace Vs
open Go
theorem vb{n:ae}{x y:Int}(h:lR n x y):lR n y x:=by
 rcases h with h|⟨h1,h2⟩
 ·exact .inl h.symm
 ·exact .inr ⟨fun e=>h1 (by rw[h2,e]),h2.symm⟩
theorem Oe{n:ae}{a b:List Int}(ha:∀x∈a,il n x)(hb:∀x∈b,il n x):apP n a b=apP n b a:=by
 have key:∀{a b:List Int},(∀x∈a,il n x)->(∀x∈b,il n x)->apP n a b=false->apP n b a=false:=fun{a b} ha hb h=>by
  unfold apP at h⊢;rw[Bool.not_eq_false',List.any_eq_true] at h⊢;obtain⟨x,h1,h2⟩:=h;rw[List.any_eq_true] at h2;obtain⟨y,h3,h4⟩:=h2;refine⟨y,h3,List.any_eq_true.2 ⟨x,h1,?_⟩⟩;rw[decide_eq_true_eq] at h4⊢;exact(lG (ha x h1)).2 (vb ((lG (hb y h3)).1 h4))
 cases h:apP n a b with
 |false=>exact(key ha hb h).symm
 | true =>
   cases h':apP n b a with
   |true=>rfl
   |false=>rw[key hb ha h'] at h;cases h
def cst(c:aA):Int:=c.N*(c.F.F.length:Int)
def cN(cs:List aA)(i:Nat):Int:=match cs[i]? with|some c=>cst c|none=>0
def apN(n:ae)(cs:List aA)(i k:Nat):Bool:=match cs[i]?,cs[k]? with|some a,some b=>apP n a.F.F b.F.F|_,_=>false
structure Al(n:ae)(cs:List aA)(j l:Nat):Prop where
 hj:j<cs.length
 hl:l<cs.length
 ne:j≠l
 c:cN cs j<cN cs l\/cN cs j=cN cs l/\j<l
 a:apN n cs j l=true
def kr(cs:List aA)(j l i k:Nat):Prop:=cN cs j+cN cs l<cN cs i+cN cs k\/(cN cs j+cN cs l=cN cs i+cN cs k/\(j<i\/j=i/\l<k))
instance(cs:List aA)(j l i k:Nat):Decidable (kr cs j l i k):=by unfold kr;infer_instance
def IsB(n:ae)(cs:List aA)(S:Nat->Nat->Prop):Option (Nat×Nat)->Prop
 |none=>∀j l,S j l->¬Al n cs j l
 |some q=>S q.1 q.2/\Al n cs q.1 q.2/\∀j l,S j l->Al n cs j l->¬kr cs j l q.1 q.2
theorem Gp{n:ae}{cs:List aA}{b b':Option (Nat×Nat)}(h:IsB n cs (fun _ _=>True) b)(h':IsB n cs (fun _ _=>True) b'):b=b':=by
 cases b with
 | none => cases b' with
   |none=>rfl
   |some q=>exact(h q.1 q.2 trivial h'.2.1).elim
 | some p => cases b' with
   |none=>exact(h' p.1 p.2 trivial h.2.1).elim
   | some q =>
     obtain⟨a,b⟩:=p;obtain⟨x,y⟩:=q;have h1:=h.2.2 x y trivial h'.2.1;have h2:=h'.2.2 a b trivial h.2.1;unfold kr at h1 h2;simp only at h1 h2;have e1:a=x:=by omega
     have e2:b=y:=by omega
     rw[e1,e2]
theorem fK{n:ae}{cs:List aA}{S S':Nat->Nat->Prop}{b:Option (Nat×Nat)}(h:IsB n cs S b)(h1:∀j l,S j l->S' j l)(h2:∀j l,S' j l->Al n cs j l->S j l):IsB n cs S' b:=by
 cases b with
 |none=>exact fun j l hs ha=>h j l (h2 j l hs ha) ha
 |some q=>exact⟨h1 _ _ h.1,h.2.1,fun j l hs ha=>h.2.2 j l (h2 j l hs ha) ha⟩
theorem nz{n:ae}{cs:List aA}{S S':Nat->Nat->Prop}{b:Option (Nat×Nat)}(h:IsB n cs S b){i k:Nat}(hal:Al n cs i k)(hS:∀j l,Al n cs j l->(S' j l↔S j l\/(j=i/\l=k))):
 (∀q,b=some q->kr cs i k q.1 q.2)->IsB n cs S' (some (i,k)):=by
 intro hp;refine⟨(hS i k hal).2 (.inr ⟨rfl,rfl⟩),hal,fun j l hs ha=>?_⟩;rcases(hS j l ha).1 hs with h1|⟨rfl,rfl⟩
 ·cases b with
  |none=>exact(h j l h1 ha).elim
  | some q =>
    have a1:=h.2.2 j l h1 ha;have a2:=hp q rfl;unfold kr at*
    simp only at*
    omega
 ·unfold kr;simp only;omega
theorem uh{n:ae}{cs:List aA}{S S':Nat->Nat->Prop}{q:Nat×Nat}(h:IsB n cs S (some q)){i k:Nat}(hS:∀j l,Al n cs j l->(S' j l↔S j l\/(j=i/\l=k)))(hp:¬kr cs i k q.1 q.2):IsB n cs S' (some q):=by
 refine⟨(hS _ _ h.2.1).2 (.inl h.1),h.2.1,fun j l hs ha=>?_⟩;rcases(hS j l ha).1 hs with h1|⟨rfl,rfl⟩
 ·exact h.2.2 j l h1 ha
 ·exact hp
def dM(cs:List aA):Option (Nat×Nat)->Int×Int×Int
 |none=>(-1,-1,0)
 |some q=>((q.1:Int),(q.2:Int),cN cs q.1+cN cs q.2)
theorem gg{n:ae}{s:Int}{cs:List aA}(h:sk n s cs){i:Nat}{c:aA}(hc:cs[i]?=some c):0<=cst c/\cst c<=480:=by
 obtain⟨h1,h2,h3⟩:=h.ok c (List.mem_of_getElem? hc);have hl:=h1.b.1;unfold cst;have a:=Int.mul_nonneg h2 (Int.natCast_nonneg c.F.F.length);have b:c.N*(c.F.F.length:Int)<=24*20:=Int.mul_le_mul h3 (by omega) (by omega) (by omega);omega
theorem nC{n:ae}{s:Int}{cs:List aA}(h:sk n s cs){i:Nat}{c:aA}(hc:cs[i]?=some c):c.F.F.length<=20/\∀x∈c.F.F,il n x:=by
 obtain⟨h1,_⟩:=h.ok c (List.mem_of_getElem? hc);exact⟨h1.b.1,h1.b.2.1⟩
theorem Fz{n:ae}{s:Int}{cs:List aA}(h:sk n s cs):∃b,Dw n (cs.map (·.F)) (cs.map (·.N))=some ((dM cs b).1,(dM cs b).2.1)/\IsB n cs (fun _ _=>True) b:=by
 have h2:=h.len;have hF:=(cS h.net).2.2;unfold Dw;have inner:∀(i:Nat)(hi:i<cs.length)(b:Option (Nat×Nat)),IsB n cs (fun j _=>j<i) b->∃b',bg (M_q n (cs.map (·.F)) (cs.map (·.N)) ((dM cs b).1,(dM cs b).2.1,(dM cs b).2.2,(i:Int))) N0 ((dM cs b).1,(dM cs b).2.1,(dM cs b).2.2,0)=some ((dM cs b').1,(dM cs b').2.1,(dM cs b').2.2)/\IsB n cs (fun j _=>j<i+1) b':=by
  intro i hi b hb;have hci:cs[i]?=some cs[i]:=List.getElem?_eq_getElem hi;generalize cs[i]=x at hci;obtain⟨o,o1,o2⟩:=cz (f:=M_q n (cs.map (·.F)) (cs.map (·.N)) ((dM cs b).1,(dM cs b).2.1,(dM cs b).2.2,(i:Int))) (fun t=>∃(k:Nat)(b':Option (Nat×Nat)),t=((dM cs b').1,(dM cs b').2.1,(dM cs b').2.2,(k:Int))/\k<=cs.length/\IsB n cs (fun j l=>j<i\/(j=i/\l<k)) b') (fun t=>cs.length-t.2.2.2.toNat)
   (fun o=>∃b',o=((dM cs b').1,(dM cs b').2.1,(dM cs b').2.2)/\IsB n cs (fun j _=>j<i+1) b') (fun t⟨k,b',e,hk,hB⟩=>by
   subst e;unfold M_q;by_cases hkl:k<cs.length
   ·left;have hck:cs[k]?=some cs[k]:=List.getElem?_eq_getElem hkl;generalize cs[k]=y at hck;have e1:decide ((k:Int)<((cs.map (·.F)).length:Int))=true:=by simp;omega
    have m1:(cs.map (·.N))[i]?=some x.N:=by rw[List.getElem?_map,hci];rfl
    have m2:(cs.map (·.F))[i]?=some x.F:=by rw[List.getElem?_map,hci];rfl
    have m3:(cs.map (·.N))[k]?=some y.N:=by rw[List.getElem?_map,hck];rfl
    have m4:(cs.map (·.F))[k]?=some y.F:=by rw[List.getElem?_map,hck];rfl
    have hx:=gg h hci;have hy:=gg h hck;obtain⟨fx1,fx2⟩:=nC h hci;obtain⟨fy1,fy2⟩:=nC h hck;have hcx:cN cs i=cst x:=by unfold cN;rw[hci]
    have hcy:cN cs k=cst y:=by unfold cN;rw[hck]
    have hap:apN n cs i k=apP n x.F.F y.F.F:=by unfold apN;rw[hci,hck]
    have wx:IntKind.wrap .i64 (x.N*(x.F.F.length:Int))=cst x:=aH (by unfold cst at hx;omega) (by unfold cst at hx;omega);have wy:IntKind.wrap .i64 (y.N*(y.F.F.length:Int))=cst y:=aH (by unfold cst at hy;omega) (by unfold cst at hy;omega);have wxy:IntKind.wrap .i64 (cst x+cst y)=cst x+cst y:=aH (by omega) (by omega);have wk:IntKind.wrap .i64 ((k:Int)+1)=((k+1:Nat):Int):=by rw[aH (by omega) (by omega)];rfl
    simp only[e1,cond_true,aW,m1,m2,m3,m4,Option.bind_some,wx,wy,wxy,wk,Cy n x.F y.F hF (by omega) (by omega) fx2];have hS:∀j l,Al n cs j l->((j<i\/(j=i/\l<k+1))↔(j<i\/(j=i/\l<k))\/(j=i/\l=k)):=fun j l _=>by omega
    have hbad:∀c:Bool,(cond ((i:Int)==(k:Int)) (some true) (cond (decide (cst y<cst x)) (some true) (cond (cst x==cst y) (cond (decide ((k:Int)<(i:Int))) (some true) (some (!c))) (some (!c)))):Option Bool)=some (!(decide (i≠k/\(cst x<cst y\/cst x=cst y/\i<k))&&c)):=fun c=>by
     by_cases c1:i=k
     ·subst c1;simp
     ·have:((i:Int)==(k:Int))=false:=by simp;omega
      rw[this,cond_false];by_cases c2:cst y<cst x
      ·have h9:¬(i≠k/\(cst x<cst y\/cst x=cst y/\i<k)):=by omega
       rw[decide_eq_true c2,decide_eq_false h9];rfl
      ·rw[decide_eq_false c2,cond_false];by_cases c3:cst x=cst y
       ·have:(cst x==cst y)=true:=by simpa using c3
        rw[this,cond_true];by_cases c4:k<i
        ·have h9:¬(i≠k/\(cst x<cst y\/cst x=cst y/\i<k)):=by omega
         rw[decide_eq_true (show(k:Int)<(i:Int) by omega),decide_eq_false h9];rfl
        ·have h9:(i≠k/\(cst x<cst y\/cst x=cst y/\i<k)):=by omega
         rw[decide_eq_false (show¬(k:Int)<(i:Int) by omega),decide_eq_true h9];rfl
       ·have:(cst x==cst y)=false:=by simpa using c3
        have h9:(i≠k/\(cst x<cst y\/cst x=cst y/\i<k)):=by omega
        rw[this,cond_false,decide_eq_true h9];rfl
    rw[hbad];simp only[Option.bind_some];have hal:(decide (i≠k/\(cst x<cst y\/cst x=cst y/\i<k))&&apP n x.F.F y.F.F)=true↔Al n cs i k:=by
     rw[Bool.and_eq_true,decide_eq_true_eq];constructor
     ·rintro⟨⟨q1,q2⟩,q3⟩;exact⟨hi,hkl,q1,by rw[hcx,hcy];exact q2,by rw[hap];exact q3⟩
     ·intro q;have:=q.c;rw[hcx,hcy] at this;exact⟨⟨q.ne,this⟩,by rw[<-hap];exact q.a⟩
    by_cases ha:Al n cs i k
    ·rw[hal.2 ha];simp only[Bool.not_true,cond_false];cases b' with
     | none =>
       have e3:decide ((dM cs none).1<0)=true:=by simp[dM]
       rw[e3];simp only[cond_true,Option.bind_some];refine⟨_,rfl,⟨k+1,some (i,k),by simp only[dM,hcx,hcy],by omega,nz hB ha hS fun q hq=>by cases hq⟩,by simp only;omega⟩
     | some q =>
       have e3:decide ((dM cs (some q)).1<0)=false:=decide_eq_false (show¬(q.1:Int)<0 by omega);rw[e3];simp only[cond_false,Option.bind_some];have hq:=hB.1;have e4:decide (cst x+cst y<(dM cs (some q)).2.2)=decide (kr cs i k q.1 q.2):=by
        have hq':q.1<i\/(q.1=i/\q.2<k):=hq;have h7:kr cs i k q.1 q.2↔cst x+cst y<cN cs q.1+cN cs q.2:=by
         unfold kr;rw[hcx,hcy];constructor
         ·rintro(h|⟨h,h'⟩)
          ·exact h
          ·omega
         ·exact fun h=>.inl h
        rw[Bool.eq_iff_iff,decide_eq_true_eq,decide_eq_true_eq,h7];exact Iff.rfl
       rw[e4];by_cases c:kr cs i k q.1 q.2
       ·rw[decide_eq_true c];exact⟨_,rfl,⟨k+1,some (i,k),by simp only[dM,hcx,hcy],by omega,nz hB ha hS fun q' hq'=>by cases hq';exact c⟩,by simp only;omega⟩
       ·rw[decide_eq_false c];exact⟨_,rfl,⟨k+1,some q,rfl,by omega,uh hB hS c⟩,by simp only;omega⟩
    ·have:(decide (i≠k/\(cst x<cst y\/cst x=cst y/\i<k))&&apP n x.F.F y.F.F)=false:=by
      cases e:(decide (i≠k/\(cst x<cst y\/cst x=cst y/\i<k))&&apP n x.F.F y.F.F) with
      |false=>rfl
      |true=>exact absurd (hal.1 e) ha
     rw[this];simp only[Bool.not_false,cond_true];refine⟨_,rfl,⟨k+1,b',rfl,by omega,fK hB (fun j l hs=>by omega) fun j l hs ha'=>?_⟩,by simp only;omega⟩;rcases(hS j l ha').1 hs with h1|⟨rfl,rfl⟩
     ·exact h1
     ·exact absurd ha' ha
   ·right;have:k=cs.length:=by omega
    subst this;have e1:decide ((cs.length:Int)<((cs.map (·.F)).length:Int))=false:=by simp
    simp only[e1,cond_false];exact⟨_,rfl,b',rfl,fK hB (fun j l hs=>by omega) fun j l hs ha=>by have:=ha.hl;omega⟩) N0 ((dM cs b).1,(dM cs b).2.1,(dM cs b).2.2,0) ⟨0,b,rfl,by omega,fK hb (fun j l hs=>.inl hs) fun j l hs _=>by omega⟩ (eH (by simp only;omega))
  obtain⟨b',e,hB⟩:=o2;exact⟨b',by rw[o1,e],hB⟩
 obtain⟨o,o1,o2⟩:=cz (f:=FG n (cs.map (·.F)) (cs.map (·.N))) (fun t=>∃(i:Nat)(b:Option (Nat×Nat)),t=((dM cs b).1,(dM cs b).2.1,(dM cs b).2.2,(i:Int))/\i<=cs.length/\IsB n cs (fun j _=>j<i) b) (fun t=>cs.length-t.2.2.2.toNat)
  (fun o=>∃b,o=((dM cs b).1,(dM cs b).2.1)/\IsB n cs (fun _ _=>True) b) (fun t⟨i,b,e,hi,hB⟩=>by
  subst e;unfold FG;by_cases hil:i<cs.length
  ·left;have e1:decide ((i:Int)<((cs.map (·.F)).length:Int))=true:=by simp;omega
   obtain⟨b',c1,c2⟩:=inner i hil b hB;simp only[e1,cond_true];rw[c1];simp only[Option.bind_some];rw[aH (by omega) (by omega)];exact⟨_,rfl,⟨i+1,b',rfl,by omega,c2⟩,by simp only;omega⟩
  ·right;have:i=cs.length:=by omega
   subst this;have e1:decide ((cs.length:Int)<((cs.map (·.F)).length:Int))=false:=by simp
   simp only[e1,cond_false];exact⟨_,rfl,b,rfl,fK hB (fun j l hs=>trivial) fun j l _ ha=>ha.hj⟩) N0 (-1,-1,0,0) ⟨0,none,rfl,by omega,fun j l hs=>by omega⟩ (eH (by simp only;omega))
 obtain⟨b,e,hB⟩:=o2;exact⟨b,by rw[o1,e];rfl,hB⟩
end Vs

namespace Vs
open Go
def zc:aA:=⟨⟨0,[]⟩,0⟩
def atC(cs:List aA)(i:Nat):aA:=(cs[i]?).getD zc
def dd(cs:List aA):Option (Nat×Nat)->Bool×aA×aA
 |none=>(false,zc,zc)
 |some q=>(true,atC cs q.1,atC cs q.2)
theorem OP(a b:Int):M_r [a,b]=some (if a≠0 then a else b):=by
 unfold M_r;have key:=cI (f:=M_j [a,b]) [a,b] (fun _ x=>x !=0) (fun _ x=>x) () (fun i x hx _=>by
  have hlt:=(List.getElem?_eq_some_iff.1 hx).1;have h1:decide ((i:Int)<([a,b].length:Nat))=true:=decide_eq_true (by omega);simp only[List.length_cons,List.length_nil] at hlt;simp only[M_j,h1,cond_true,aW,hx,Option.bind_some];rw[aH (by omega) (by omega)];cases x !=0<;>rfl) (by simp[M_j]) (by simp)
 rw[key];unfold ct;simp only[List.zipIdx_cons,List.zipIdx_nil,List.find?_cons,List.find?_nil];by_cases h1:a=0
 ·by_cases h2:b=0
  ·simp[h1,h2]
  ·have:(b !=0)=true:=bne_iff_ne.2 h2;simp[h1,this]
 ·have:(a !=0)=true:=bne_iff_ne.2 h1;simp[h1,this]
theorem zj{n:ae}{s:Int}{cs:List aA}(h:sk n s cs){i k:Nat}{x y:aA}(hx:cs[i]?=some x)(hy:cs[k]?=some y):(dQ n x.F y.F<0↔i<k)/\(dQ n x.F y.F=0↔i=k):=by
 obtain⟨hi,ei⟩:=List.getElem?_eq_some_iff.1 hx;obtain⟨hk,ek⟩:=List.getElem?_eq_some_iff.1 hy;have hp:=List.pairwise_iff_getElem.1 h.srt;have hn:=gE n x.F y.F;rcases Nat.lt_trichotomy i k with c|c|c
 ·have:=hp i k hi hk c;rw[ei,ek] at this;omega
 ·subst c;rw[hx] at hy;cases hy;omega
 ·have:=hp k i hk hi c;rw[ei,ek] at this;omega
theorem kc{n:ae}{s:Int}{cs:List aA}(h:sk n s cs){i:Nat}{c:aA}(hc:cs[i]?=some c):M_e c=some (cst c):=by
 have:=gg h hc;unfold M_e;rw[aH (by unfold cst at this;omega) (by unfold cst at this;omega)];rfl
theorem Sm{n:ae}{s:Int}{cs:List aA}(h:sk n s cs){i:Nat}{c:aA}(hc:cs[i]?=some c):c.F.F.length<=12:=by
 obtain⟨h1,_⟩:=h.ok c (List.mem_of_getElem? hc);obtain⟨l,hl⟩:=Option.isSome_iff_exists.1 h1.v;exact(PG h.net hl).1.len
theorem Ao{n:ae}{s:Int}{cs:List aA}(h:sk n s cs){f g:Nat}{x y:aA}(hx:cs[f]?=some x)(hy:cs[g]?=some y)(b:Option (Nat×Nat))(hb:∀q,b=some q->q.1<cs.length/\q.2<cs.length):
 ((M_e x).bind fun rZ18=>(M_e y).bind fun rZ19=>(M_e (dd cs b).2.1).bind fun rZ20=>(M_e (dd cs b).2.2).bind fun rZ21=>(M_i (IntKind.wrap .i64 (rZ18+rZ19)) (IntKind.wrap .i64 (rZ20+rZ21))).bind fun rZ22=>bnd ([rZ22,0]) fun lZ23=>(M_r lZ23).bind fun rZ27=>((cond ((dd cs b).1) (some (rZ27==0)) (some false):Option Bool).bind fun oZ29=>cond (oZ29) ((pe n x.F (dd cs b).2.1.F).bind fun rZ31=>(pe n y.F (dd cs b).2.2.F).bind fun rZ32=>bnd ([rZ31,rZ32]) fun lZ33=>(M_r lZ33).bind fun rZ37=>some rZ37) (some rZ27):Option Int).bind fun oZ38=>(cond (!(dd cs b).1) (some true) (some (decide (oZ38<0))):Option Bool))=some (match b with|none=>true|some q=>decide (kr cs f g q.1 q.2)):=by
 have rx:=gg h hx;have ry:=gg h hy;rw[kc h hx,kc h hy];simp only[Option.bind_some];cases b with
 | none =>
   have e0:M_e zc=some 0:=rfl;simp only[dd,e0,Option.bind_some,sM,bnd,OP,cond_false,Bool.not_false,cond_true]
 | some q =>
   obtain⟨q1,q2⟩:=hb q rfl;have h1:cs[q.1]?=some (atC cs q.1):=by unfold atC;rw[List.getElem?_eq_getElem q1];rfl
   have h2:cs[q.2]?=some (atC cs q.2):=by unfold atC;rw[List.getElem?_eq_getElem q2];rfl
   generalize atC cs q.1=u at h1;generalize atC cs q.2=v at h2;have hu:(dd cs (some q))=(true,u,v):=by
    show(true,(cs[q.1]?).getD zc,(cs[q.2]?).getD zc)=_;rw[h1,h2];rfl
   have ru:=gg h h1;have rv:=gg h h2;have bx:=(h.ok x (List.mem_of_getElem? hx)).1.b;have by':=(h.ok y (List.mem_of_getElem? hy)).1.b;have bu:=(h.ok u (List.mem_of_getElem? h1)).1.b;have bv:=(h.ok v (List.mem_of_getElem? h2)).1.b;obtain⟨i1,i2⟩:=zj h hx h1;obtain⟨i3,i4⟩:=zj h hy h2;rw[hu];simp only[kc h h1,kc h h2,Option.bind_some,cond_true,Bool.not_true,cond_false];rw[aH (n:=cst x+cst y) (by omega) (by omega),aH (n:=cst u+cst v) (by omega) (by omega)];simp only[sM,bnd,OP,Option.bind_some];have e:(if cH (cst x+cst y) (cst u+cst v)≠0 then cH (cst x+cst y) (cst u+cst v) else 0)=cH (cst x+cst y) (cst u+cst v):=by
    split<;>omega
   rw[e];have hc:kr cs f g q.1 q.2↔cst x+cst y<cst u+cst v\/(cst x+cst y=cst u+cst v/\(f<q.1\/f=q.1/\g<q.2)):=by
    unfold kr cN;rw[hx,hy,h1,h2]
   by_cases c:cst x+cst y=cst u+cst v
   ·have e2:(cH (cst x+cst y) (cst u+cst v)==0)=true:=by rw[beq_iff_eq];exact bT.2 c
    rw[e2,cond_true,fM bx bu];simp only[Option.bind_some];rw[fM by' bv];simp only[Option.bind_some];congr 1;rw[Bool.eq_iff_iff,decide_eq_true_eq,decide_eq_true_eq,hc];split
    ·omega
    ·omega
   ·have e2:(cH (cst x+cst y) (cst u+cst v)==0)=false:=by
     cases e3:(cH (cst x+cst y) (cst u+cst v)==0) with
     |false=>rfl
     |true=>exact absurd (bT.1 (by simpa using e3)) c
    rw[e2,cond_false];simp only[Option.bind_some];congr 1;rw[Bool.eq_iff_iff,decide_eq_true_eq,decide_eq_true_eq,hc,fG];omega
def SI(i k:Nat)(j l:Nat):Prop:=j<i\/l<i\/(j=i/\l<k)\/(l=i/\j<k)
theorem Mv{n:ae}{s:Int}{cs:List aA}(h:sk n s cs)(fs:List au):∃b,bg (M_n n (cs,true)) N0 (false,0,zc,zc)=some (dd cs b)/\IsB n cs (fun _ _=>True) b:=by
 have h2:=h.len;have hF:=(cS h.net).2.2;have inner:∀(i:Nat)(x:aA)(hi:cs[i]?=some x)(b:Option (Nat×Nat)),IsB n cs (fun j l=>j<i\/l<i) b->∃b',bg (M_u n (cs,true) ((dd cs b).1,(i:Int),(dd cs b).2.1,(dd cs b).2.2) x) N0 ((dd cs b).1,0,(dd cs b).2.1,(dd cs b).2.2)=some (dd cs b')/\IsB n cs (fun j l=>j<i+1\/l<i+1) b':=by
  intro i x hci b hb;have hi:=(List.getElem?_eq_some_iff.1 hci).1;have wi1:IntKind.wrap .i64 ((i:Int)+1)=((i+1:Nat):Int):=by rw[aH (by omega) (by omega)];rfl
  obtain⟨o,o1,o2⟩:=cz (f:=M_u n (cs,true) ((dd cs b).1,(i:Int),(dd cs b).2.1,(dd cs b).2.2) x) (fun t=>∃(k:Nat)(b':Option (Nat×Nat)),t=((dd cs b').1,(k:Int),(dd cs b').2.1,(dd cs b').2.2)/\k<=cs.length-(i+1)/\IsB n cs (SI i (i+1+k)) b') (fun t=>cs.length-(i+1)-t.2.1.toNat)
   (fun o=>∃b',o=dd cs b'/\IsB n cs (fun j l=>j<i+1\/l<i+1) b') (fun t⟨k,b',e,hk,hB⟩=>by
   subst e;unfold M_u;simp only[wi1,Int.toNat_natCast];by_cases hkl:k<cs.length-(i+1)
   ·left;have hck:cs[i+1+k]?=some (cs[i+1+k]'(by omega)):=List.getElem?_eq_getElem _;generalize cs[i+1+k]'(by omega)=y at hck;have e1:decide ((k:Int)<((cs.length-(i+1):Nat):Int))=true:=by simp;omega
    have hx:=gg h hci;have hy:=gg h hck;obtain⟨fx1,fx2⟩:=nC h hci;obtain⟨fy1,fy2⟩:=nC h hck;have hcx:cN cs i=cst x:=by unfold cN;rw[hci]
    have hcy:cN cs (i+1+k)=cst y:=by unfold cN;rw[hck]
    have hap:apN n cs i (i+1+k)=apP n x.F.F y.F.F:=by unfold apN;rw[hci,hck]
    have hap2:apN n cs (i+1+k) i=apP n x.F.F y.F.F:=by unfold apN;rw[hci,hck];exact Oe fy2 fx2
    have wk:IntKind.wrap .i64 ((k:Int)+1)=((k+1:Nat):Int):=by rw[aH (by omega) (by omega)];rfl
    have hbb:∀q,b'=some q->q.1<cs.length/\q.2<cs.length:=fun q hq=>by subst hq;exact⟨hB.2.1.hj,hB.2.1.hl⟩
    simp only[e1,cond_true];rw[bD (by omega),Option.bind_some,hck,Option.bind_some,Ol n x.F.F y.F.F h.net (Sm h hci) (by omega) fx2 fy2,Option.bind_some];simp only[wk];cases ha:apP n x.F.F y.F.F with
    | false =>
      simp only[Bool.not_false,cond_true];refine⟨_,rfl,⟨k+1,b',rfl,by omega,fK hB (fun j l hs=>by unfold SI at*;omega) fun j l hs ha'=>?_⟩,by simp only;omega⟩;unfold SI at*
      rcases hs with h1|h1|⟨h1,h3⟩|⟨h1,h3⟩
      ·exact .inl h1
      ·exact .inr (.inl h1)
      ·by_cases c:l=i+1+k
       ·subst h1;subst c;have:=ha'.a;rw[hap,ha] at this;cases this
       ·exact .inr (.inr (.inl ⟨h1,by omega⟩))
      ·by_cases c:j=i+1+k
       ·subst h1;subst c;have:=ha'.a;rw[hap2,ha] at this;cases this
       ·exact .inr (.inr (.inr ⟨h1,by omega⟩))
    | true =>
      simp only[Bool.not_true,cond_false];obtain⟨f,g,u,v,hu,hv,hfg,hal,hS⟩:∃(f g:Nat)(u v:aA),cs[f]?=some u/\cs[g]?=some v/\((M_e y).bind fun rZ14=>(M_e x).bind fun rZ15=>cond (decide (rZ14<rZ15)) (some (y,x)) (some (x,y)):Option (aA×aA))=some (u,v)/\Al n cs f g/\∀j l,Al n cs j l->(SI i (i+1+(k+1)) j l↔SI i (i+1+k) j l\/(j=f/\l=g)):=by
       rw[kc h hci,kc h hck];simp only[Option.bind_some];by_cases c:cst y<cst x
       ·refine⟨i+1+k,i,y,x,hck,hci,by rw[decide_eq_true c];rfl,⟨by omega,hi,by omega,by rw[hcx,hcy];exact .inl c,by rw[hap2];exact ha⟩,fun j l ha'=>?_⟩;unfold SI;constructor
        ·rintro(h1|h1|⟨h1,h3⟩|⟨h1,h3⟩)
         ·exact .inl (.inl h1)
         ·exact .inl (.inr (.inl h1))
         ·by_cases c2:l=i+1+k
          ·exfalso;subst h1;subst c2;have:=ha'.c;rw[hcx,hcy] at this;omega
          ·exact .inl (.inr (.inr (.inl ⟨h1,by omega⟩)))
         ·by_cases c2:j=i+1+k
          ·exact .inr ⟨c2,h1⟩
          ·exact .inl (.inr (.inr (.inr ⟨h1,by omega⟩)))
        ·omega
       ·refine⟨i,i+1+k,x,y,hci,hck,by rw[decide_eq_false c];rfl,⟨hi,by omega,by omega,by rw[hcx,hcy];omega,by rw[hap];exact ha⟩,fun j l ha'=>?_⟩;unfold SI;constructor
        ·rintro(h1|h1|⟨h1,h3⟩|⟨h1,h3⟩)
         ·exact .inl (.inl h1)
         ·exact .inl (.inr (.inl h1))
         ·by_cases c2:l=i+1+k
          ·exact .inr ⟨h1,c2⟩
          ·exact .inl (.inr (.inr (.inl ⟨h1,by omega⟩)))
         ·by_cases c2:j=i+1+k
          ·exfalso;subst h1;subst c2;have:=ha'.c;rw[hcx,hcy] at this;omega
          ·exact .inl (.inr (.inr (.inr ⟨h1,by omega⟩)))
        ·omega
      rw[hfg,Option.bind_some];have hst:=Ao h hu hv b' hbb;have hres:∀(K:Option ((Bool×Int×aA×aA)⊕(Bool×aA×aA)))(z:Bool)(E:Option Bool),E=some z->K=E.bind (fun oZ40=>cond (oZ40) (some (.inl (true,((k+1:Nat):Int),u,v))) (some (.inl ((dd cs b').1,((k+1:Nat):Int),(dd cs b').2.1,(dd cs b').2.2))))->K=some (.inl (if z then(true,((k+1:Nat):Int),u,v) else((dd cs b').1,((k+1:Nat):Int),(dd cs b').2.1,(dd cs b').2.2))):=fun K z E hE hK=>by
       rw[hK,hE];cases z<;>rfl
      refine⟨_,hres _ _ _ hst ?_,?_,?_⟩
      ·simp only[Option.bind_assoc,bnd]
      ·have hatu:atC cs f=u:=by unfold atC;rw[hu];rfl
       have hatv:atC cs g=v:=by unfold atC;rw[hv];rfl
       have hS':∀j l,Al n cs j l->(SI i (i+1+(k+1)) j l↔SI i (i+1+k) j l\/(j=f/\l=g)):=hS;cases b' with
       | none =>
         exact⟨k+1,some (f,g),by simp only[if_true,dd,hatu,hatv],by omega,nz hB hal hS' fun q hq=>by cases hq⟩
       | some q =>
         by_cases c:kr cs f g q.1 q.2
         ·exact⟨k+1,some (f,g),by simp only[decide_eq_true c,if_true,dd,hatu,hatv],by omega,nz hB hal hS' fun q' hq'=>by cases hq';exact c⟩
         ·exact⟨k+1,some q,by simp only[decide_eq_false c,Bool.false_eq_true,if_false],by omega,uh hB hS' c⟩
      ·have hm:∀z:Bool,cs.length-(i+1)-((if z then(true,((k+1:Nat):Int),u,v) else((dd cs b').1,((k+1:Nat):Int),(dd cs b').2.1,(dd cs b').2.2)):Bool×Int×aA×aA).2.1.toNat<cs.length-(i+1)-((k:Int)).toNat:=fun z=>by
        cases z
        ·simp only[Bool.false_eq_true,if_false];omega
        ·simp only[if_true];omega
       exact hm _
   ·right;have:k=cs.length-(i+1):=by omega
    subst this;have e1:decide (((cs.length-(i+1):Nat):Int)<((cs.length-(i+1):Nat):Int))=false:=by simp
    simp only[e1,cond_false];refine⟨_,rfl,b',rfl,fK hB (fun j l hs=>by unfold SI at hs;omega) fun j l hs ha=>?_⟩;have q1:=ha.hj;have q2:=ha.hl;have q3:=ha.ne;unfold SI;omega) N0 ((dd cs b).1,0,(dd cs b).2.1,(dd cs b).2.2) ⟨0,b,rfl,by omega,fK hb (fun j l hs=>by unfold SI;omega) fun j l hs ha=>by
     have q3:=ha.ne;unfold SI at hs;omega⟩ (eH (by simp only;omega))
  obtain⟨b',e,hB⟩:=o2;exact⟨b',by rw[o1,e],hB⟩
 obtain⟨o,o1,o2⟩:=cz (f:=M_n n (cs,true)) (fun t=>∃(i:Nat)(b:Option (Nat×Nat)),t=((dd cs b).1,(i:Int),(dd cs b).2.1,(dd cs b).2.2)/\i<=cs.length/\IsB n cs (fun j l=>j<i\/l<i) b) (fun t=>cs.length-t.2.1.toNat)
  (fun o=>∃b,o=dd cs b/\IsB n cs (fun _ _=>True) b) (fun t⟨i,b,e,hi,hB⟩=>by
  subst e;unfold M_n;by_cases hil:i<cs.length
  ·left;have hci:cs[i]?=some cs[i]:=List.getElem?_eq_getElem hil;have e1:decide ((i:Int)<(cs.length:Int))=true:=by simp;omega
   have wi1:IntKind.wrap .i64 ((i:Int)+1)=((i+1:Nat):Int):=by rw[aH (by omega) (by omega)];rfl
   obtain⟨b',c1,c2⟩:=inner i cs[i] hci b hB;simp only[e1,cond_true,wi1,Int.toNat_natCast];rw[bD (by omega),Option.bind_some,hci,Option.bind_some,bD ⟨by omega,trivial,by omega,trivial⟩,Option.bind_some,c1];simp only[Option.bind_some];exact⟨_,rfl,⟨i+1,b',rfl,by omega,c2⟩,by simp only;omega⟩
  ·right;have:i=cs.length:=by omega
   subst this;have e1:decide ((cs.length:Int)<(cs.length:Int))=false:=by simp
   simp only[e1,cond_false];exact⟨_,rfl,b,rfl,fK hB (fun j l hs=>trivial) fun j l _ ha=>.inl ha.hj⟩) N0 (false,0,zc,zc) ⟨0,none,rfl,by omega,fun j l hs=>by omega⟩ (eH (by simp only;omega))
 obtain⟨b,e,hB⟩:=o2;exact⟨b,by rw[o1,e],hB⟩
end Vs

namespace Vs
open Go
theorem vy(n:ae)(d:aI)(fs:List au)(hz:bb n<=1048576)(hf:fs.length<=1048576):
 ∃ x y ok, HI n fs d = some (x, y, ok) ∧ xb d n.N n.F fs = some (x.F, y.F, ok, fs) ∧ x.F.F.length ≤ 20 ∧ y.F.F.length ≤ 20 ∧
   (ok=true->ce n=true/\(xA n x.F).isSome=true/\(xA n y.F).isSome=true/\apP n x.F.F y.F.F=true):=by
 obtain⟨ok,cs,u1,u2,u3⟩:=Gq n d fs hz hf;unfold HI xb;rw[u1,u2];simp only[Option.bind_some];cases ok with
 |false=>exact⟨zc,zc,false,rfl,rfl,by simp[zc],by simp[zc],fun h=>by cases h⟩
 | true =>
   have h:=u3 rfl;have hl:=h.len;obtain⟨b,i1,i2⟩:=Mv h fs;obtain⟨b',s1,s2⟩:=Fz h;obtain rfl:=Gp i2 s2;simp only[Bool.not_true,cond_false];have i1':bg (M_n n (cs,true)) N0 (false,0,(⟨⟨0,[]⟩,0⟩:aA),(⟨⟨0,[]⟩,0⟩:aA))=some (dd cs b):=i1;rw[i1',s1];simp only[Option.bind_some];cases b with
   |none=>exact⟨zc,zc,false,rfl,rfl,by simp[zc],by simp[zc],fun h=>by cases h⟩
   | some q =>
     obtain⟨_,hal,_⟩:=i2;have h1:cs[q.1]?=some (cs[q.1]'hal.hj):=List.getElem?_eq_getElem _;have h2:cs[q.2]?=some (cs[q.2]'hal.hl):=List.getElem?_eq_getElem _;generalize cs[q.1]'hal.hj=x at h1;generalize cs[q.2]'hal.hl=y at h2;have ha:=hal.a;unfold apN at ha;rw[h1,h2] at ha;have o1:=h.ok x (List.mem_of_getElem? h1);have o2:=h.ok y (List.mem_of_getElem? h2);have m2:(cs.map (·.F))[q.1]?=some x.F:=by rw[List.getElem?_map,h1];rfl
     have m4:(cs.map (·.F))[q.2]?=some y.F:=by rw[List.getElem?_map,h2];rfl
     have b1:=hal.hj;have b2:=hal.hl;refine⟨x,y,true,?_,?_,o1.1.b.1,o2.1.b.1,fun _=>⟨h.net,o1.1.v,o2.1.v,ha⟩⟩
     ·simp only[dd,atC,h1,h2,Option.getD_some]
     ·have e1:decide ((dM cs (some q)).1<0)=false:=decide_eq_false (show¬(q.1:Int)<0 by omega);rw[e1,cond_false];show((grd (0<=(q.1:Int)/\(q.1:Int)<((cs.map (·.F)).length:Int))).bind fun _=>((cs.map (·.F))[Int.toNat (q.1:Int)]?).bind fun yZ6=>(grd (0<=(q.2:Int)/\(q.2:Int)<((cs.map (·.F)).length:Int))).bind fun _=>((cs.map (·.F))[Int.toNat (q.2:Int)]?).bind fun yZ8=>some (yZ6,yZ8,true,fs))=_;rw[bD (by rw[List.length_map];omega),Option.bind_some,Int.toNat_natCast,m2,Option.bind_some,bD (by rw[List.length_map];omega),Option.bind_some,Int.toNat_natCast,m4];rfl
end Vs

namespace Vs
open Go
def cpR(n:ae)(fs:List au)(d:aI):ah×ah×Bool:=(uR n fs d).getD (⟨0,[]⟩,⟨0,[]⟩,false)
theorem vd(n:ae)(fs:List au)(d:aI)(hz:bb n<=1048576)(hf:bQ fs<=1048576):
 ∃x y ok,uR n fs d=some (x,y,ok)/\xb d n.N n.F fs=some (x,y,ok,fs)/\x.F.length<=20/\y.F.length<=20:=by
 obtain⟨x,y,ok,h1,h2,h3,h4,_⟩:=vy n d fs hz (by unfold bQ at hf;omega);refine⟨x.F,y.F,ok,?_,h2,h3,h4⟩;unfold uR;rw[h1];rfl
theorem km(n:ae)(fs:List au)(d:aI)(hz:bb n<=1048576)(hf:bQ fs<=1048576):uR n fs d=some (cpR n fs d):=by
 obtain⟨x,y,ok,h1,_⟩:=vd n fs d hz hf;unfold cpR;rw[h1];rfl
theorem kn(n:ae)(fs:List au)(d:aI)(hz:bb n<=1048576)(hf:bQ fs<=1048576):xb d n.N n.F fs=some ((cpR n fs d).1,(cpR n fs d).2.1,(cpR n fs d).2.2,fs):=by
 obtain⟨x,y,ok,h1,h2,_⟩:=vd n fs d hz hf;unfold cpR;rw[h1];exact h2
theorem nc(n:ae)(fs:List au)(d:aI)(hz:bb n<=1048576)(hf:bQ fs<=1048576):dJ (cpR n fs d).1<=1048576/\dJ (cpR n fs d).2.1<=1048576:=by
 obtain⟨x,y,ok,h1,_,h3,h4⟩:=vd n fs d hz hf;unfold cpR;rw[h1];simp only[dJ,fm,Option.getD_some];omega
end Vs

namespace Vs
open Go
theorem uP{α:Type}{xs:List α}{n:Nat}(h:xs.length=n):iq xs 0 n=xs:=by subst h;exact gu xs
theorem je(x1:ae)(x2:List au)(x3:aI)(o1:kK x1)(o2:gw x2):Ma x1 x2 x3=some true:=by
 unfold Ma;rw[tA x1 _ (by omega) (by omega) o1];simp only[Option.bind_some];by_cases hc1:(1048576:Int)-bb x1<0
 ·simp[hc1]
 simp only[hc1,if_false,decide_false,cond_false];rw[sU x2 _ (by omega) (by omega) o2];simp only[Option.bind_some];by_cases hc2:(1048576:Int)-bb x1-bQ x2<0
 ·simp[hc2]
 simp only[hc2,if_false,decide_false,cond_false];have z1:bb x1<=1048576:=by omega
 have z2:bQ x2<=1048576:=by omega
 obtain⟨zr1,zr2⟩:=nc x1 x2 x3 z1 z2;have hI:=km x1 x2 x3 z1 z2;have hS:=kn x1 x2 x3 z1 z2;generalize cpR x1 x2 x3=R at hI hS zr1 zr2;obtain⟨r,s,b⟩:=R;simp only at zr1 zr2 hS;have w1:=w_ft x1;have f1:=nj 1 x1;have m1:=qc x1 1 (by omega) (by omega) z1;have w2:=w_fu x2;have f2:=dr fj lD pC x2 (eD 1 x1).1;have m2:=qz x2 (eD 1 x1).1 (by omega) (by omega) z2;have n2:decide ((cl fj (eD 1 x1).1 x2).1<0)=false:=decide_eq_false (by omega);have w3:=w_fs r;have f3:=kw 1 r;have m3:=mN r 1 (by omega) (by omega) zr1;have n3:decide ((bU 1 r).1<0)=false:=decide_eq_false (by omega);have w4:=w_fs s;have f4:=kw (bU 1 r).1 s;have m4:=mN s (bU 1 r).1 (by omega) (by omega) zr2;have n4:decide ((bU (bU 1 r).1 s).1<0)=false:=decide_eq_false (by omega);have g1:pV (⟨r.N,(bU 1 r).2⟩:ah) 1=some (bU 1 r).1:=mI r 1 (by omega) (by omega) zr1;have g2:pV (⟨s.N,(bU (bU 1 r).1 s).2⟩:ah) (bU 1 r).1=some (bU (bU 1 r).1 s).1:=mI s _ (by omega) (by omega) zr2;simp only[tl x1 z1,ux x2 z2,wN x3,hI,hS,rf r zr1,rf s zr2,tL x1 z1,tk x2 z2,m1,m2,n2,m3,n3,m4,n4,uP (jG 1 r),uP (jG (bU 1 r).1 s),g1,g2,Option.bind_some,Bool.not_true,beq_self_eq_true,bnd,bne_self_eq_false,cond_false,cond_true]
end Vs

