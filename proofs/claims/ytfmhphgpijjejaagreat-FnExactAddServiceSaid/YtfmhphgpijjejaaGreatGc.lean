/-
  Part of the proof that FnExactAddService returns true at every input.
-/
import Derived.Test.YtfmhphgpijjejaaGreatVe
import Derived.Test.YtfmhphgpijjejaaGreatGa
set_option linter.defProp false
set_option linter.unusedSimpArgs false
set_option linter.unusedVariables false
open Option renaming bind_some -> A0, isSome_iff_exists -> D9, isSome_some -> G9, map_map -> K7
open List renaming getElem?_eq_some_iff -> A1, getElem?_eq_getElem -> A2, mem_of_getElem? -> A3, length_append -> A6, length_cons -> A8, append_assoc -> B0, length_nil -> B1, length_pos_iff -> B3, getElem?_of_mem -> B5, length_singleton -> B6, mem_append -> B7, length_pos_of_mem -> B8, getElem?_map -> B9, mem_singleton -> C1, pairwise_iff_getElem -> C3, mem_cons -> C7, append_nil -> C8, getElem?_set_self -> D0, getElem?_append_right -> D5, getElem?_append_left -> D6, any_eq_true -> D7, length_take -> D8, length_eq_zero_iff -> E3, length_map -> E7, take_add_one -> E8, map_cons -> E9, zipIdx_cons -> F0, getElem?_take -> F3, pairwise_cons -> F4, find?_cons -> F5, sum_cons -> F6, mem_map -> F8, mem_filter -> F9, filter_append -> G0, take_of_length_le -> G1, length_filter_le -> G2, singleton_append -> G3, getElem_map -> G5, pairwise_append -> G6, set_set -> G8, any_eq_false -> H1, length_range -> H2, Pairwise -> H5, getElem_mem -> H6, getElem?_cons_zero -> H7, mem_flatMap -> H8, filter_cons_of_pos -> I0, all_eq_not_any_not -> I1, length_drop -> I2, length_eq_one_iff -> I4, zipIdx_nil -> I5, take_append_drop -> I6, eq_nil_or_concat -> I7, concat_eq_append -> I8, find?_nil -> I9, mem_append_left -> J0, mem_of_mem_take -> J2, getElem_of_mem -> J3, filterMap_cons -> J4, mem_cons_self -> J5, mem_filterMap -> J7, nodup_append -> J9, take_length -> K1, cons_append -> K2, nil_append -> K5, drop_zero -> K6, mem_range -> K8, nodup_nil -> K9, range -> M0
open Go.IntKind renaming wrap -> A4, bits -> D4
open Int renaming toNat_natCast -> A5, toNat -> C4, tdiv_eq_ediv_of_nonneg -> E5, fdiv_eq_ediv_of_nonneg -> H0, le_refl -> H3, eq_ofNat_of_zero_le -> H9, le_of_lt -> I3, natCast_nonneg -> J6, mul_nonneg -> L0, mul_le_mul -> L3, add_assoc -> L4, reduceAdd -> L5, mul_comm -> L6, pow_pos -> L8, fdiv -> L9
open Bool renaming not_true -> A7, and_eq_true -> B2, true_and -> B4, false_eq_true -> C0, or_eq_false_iff -> C2, eq_iff_iff -> C5, not_false -> D3, not_eq_true' -> E0, false_or -> E4, not_eq_false' -> E6, and_true -> H4, false_and -> J1, eq_false_iff -> J8, or_eq_true -> K4, not_not -> L7
open Nat renaming zero_add -> C6, le_refl -> C9, lt_trichotomy -> F7, mod_eq_of_lt -> G4, pow_le_pow_right -> G7, or_lt_two_pow -> K0, zero_le -> K3
namespace Vs
open Go
theorem Es:∀(ns:List Int)(r:ByteArray),(ns.foldl (fun r n=>r.push (UInt8.ofNat n.toNat)) r).size=r.size+ns.length
 |[],r=>by simp
 | n :: ns, r => by
   simp only[List.foldl_cons,Es ns,A8,ByteArray.size_push];omega
theorem rf(ns:List Int):(b2s ns).size=ns.length:=by
 unfold b2s;rw[Es];simp
def txt(k:Int):ByteArray:=(Bs k).getD ⟨#[]⟩
theorem Bu(k:Int)(h0:0<=k)(h1:k<=1000000000000):Bs k=some (txt k):=by
 have:∃r,Bs k=some r:=by
  unfold Bs;by_cases h:k<=0
  ·exact⟨_,by rw[decide_eq_true h,cond_true]⟩
  ·rw[decide_eq_false h,cond_false];obtain⟨b,hb,hq⟩:=bT (f:=Gb) (fun s=>0<=s.1/\s.2.size<=13/\s.1*10^s.2.size<=1000000000000) (fun s=>s.1.toNat) (fun b=>b.size<=13) (fun s hI=>by
    obtain⟨a,z⟩:=s;obtain⟨i1,i2,i3⟩:=hI;simp only at i1 i2 i3;by_cases hp:0<a
    ·left;have hz:z.size<=12:=by
      apply Decidable.byContradiction;intro hc;have e:z.size=13:=by omega
      rw[e] at i3;omega
     have hd:10*(a.tdiv 10)<=a:=by rw[E5 i1];omega
     have hd2:a.tdiv 10<a:=by rw[E5 i1];omega
     have hd3:0<=a.tdiv 10:=by rw[E5 i1];omega
     have hpow:(0:Int)<=10^z.size:=I3 (L8 (by omega));have ha:a<=1000000000000:=by
      have h1:(1:Int)<=10^z.size:=L8 (by omega);have:=Int.mul_le_mul_of_nonneg_left h1 i1;omega
     refine⟨(a.tdiv 10,b2s [A4 .u8 (A4 .i64 (48+(Int.tmod a 10)))]++z),?_,⟨hd3,?_,?_⟩,by simp only;omega⟩
     ·simp only[Gb,decide_eq_true hp,cond_true,bnd];rw[bg (by omega),bg (by rw[rf];simp;omega)];simp only[A0];rw[aA (n:=Int.tdiv a 10) (by omega) (by omega)]
     ·simp only[ByteArray.size_append,rf,A8,B1];omega
     ·simp only[ByteArray.size_append,rf,A8,B1];rw[show 0+1+z.size=z.size+1 by omega,Int.pow_succ,L6 (10^z.size) 10,<-Int.mul_assoc,L6 (a.tdiv 10) 10];exact Int.le_trans (Int.mul_le_mul_of_nonneg_right hd hpow) i3
    ·right;exact⟨z,by simp only[Gb,decide_eq_false hp,cond_false],i2⟩) N0 (k,⟨#[]⟩) ⟨h0,by show(0:Nat)<=13;omega,by show k*10^0<=1000000000000;simpa using h1⟩ (dm (by simp;omega))
   rw[hb];simp only[A0];rw[bg (by have:(⟨#[109]⟩:ByteArray).size=1:=rfl;omega)];exact⟨_,rfl⟩
 obtain⟨r,hr⟩:=this;unfold txt;rw[hr];rfl
def ca(xs:(List ByteArray)):Nat:=xs.length+(xs.map fun x=>x.size).sum
def lZ(xs:(List ByteArray)):Prop:=xs.length<=9223372036854775807/\∀x∈xs,x.size<=9223372036854775807
def zt(xs:(List ByteArray))(l:Int)(h1:0<=l)(h2:l<=1048576)(hs:lZ xs):Ry xs l=some (if l-ca xs<0 then(-1:Int) else l-ca xs):=by
 unfold Ry;have hs1:=hs.1;rw[aA (by omega) (by omega)];simp only[fg,decide_eq_true_eq];by_cases h:l-(xs.length:Int)<0
 ·rw[if_pos h,if_pos (by unfold ca;omega)]
 ·rw[if_neg h,Du (f:=M_c xs) xs (fun x=>x.size) (fun i x l' hx h3 h4=>by
   have hlt:=(A1.1 hx).1;have h1:decide ((i:Int)<xs.length)=true:=by simp[hlt]
   have hx2:=hs.2 x (A3 hx);simp only[M_c,h1,cond_true,aR,hx,A0,fg,decide_eq_true_eq];rw[aA (by omega) (by omega),aA (by omega) (by omega)];by_cases h5:l'-(x.size:Int)<0
   ·simp only[if_pos h5,if_true]
   ·simp only[if_neg h5,if_true];rfl) (fun l=>by simp[M_c]) _ (by omega) (by omega) (by omega)]
  have e:l-(xs.length:Int)-((xs.map fun x=>x.size).sum:Nat)=l-(ca xs:Int):=by unfold ca;omega
  rw[e];by_cases h5:l-(ca xs:Int)<0
  ·simp only[if_pos h5,A0]
  ·simp only[if_neg h5,A0]
theorem yp(xs:(List ByteArray))(hl:ca xs<=1048576):RO xs=some xs:=by
 unfold RO;have hlen:xs.length<=1048576:=by unfold ca at hl;omega
 have key:=fun l0(h0:l0.length=xs.length)=>iZ (f:=Ih xs) xs id l0 h0 (fun i l x y hx hy hll=>by
  have hlt:=(A1.1 hx).1;have h1:decide ((i:Int)<xs.length)=true:=by simp[hlt]
  have h2:(0<=(i:Int)/\(i:Int)<(l.length:Int)):=by omega
  simp only[Ih,h1,cond_true,aR,hx,A0,bg h2,A5,hy,bnd,id];rw[aA (by omega) (by omega)];rfl) (fun l=>by simp[Ih]) (by omega)
 rw[bg (by omega)];simp only[A0,bnd];rw[key _ (by simp)];simp
theorem xX(xs:(List ByteArray))(hl:ca xs<=1048576):PI xs xs=some true:=by
 unfold PI;have hlen:xs.length<=1048576:=by unfold ca at hl;omega
 rw[mY (f:=Jo xs xs) xs (fun i x hx=>by
  have hlt:=(A1.1 hx).1;have h1:decide ((i:Int)<xs.length)=true:=by simp[hlt]
  simp only[Jo,h1,cond_true,aR,hx,A0,beq_self_eq_true,A7,cond_false];rw[aA (by omega) (by omega)];rfl) (by simp[Jo]) (by omega)]
 simp
def Jr(x:aG):Jt x=some x:=by unfold Jt;rfl
def Jy(x:aG):JS x x=some true:=by unfold JS;simp
def cQ(xs:(List aG)):Nat:=xs.length
def jl(xs:(List aG)):Prop:=xs.length<=9223372036854775807
def Dm(xs:(List aG))(l:Int)(h1:0<=l)(h2:l<=1048576)(hs:jl xs):Qn xs l=some (if l-cQ xs<0 then(-1:Int) else l-cQ xs):=by
 unfold Qn;unfold jl at hs;rw[aA (by omega) (by omega)];simp only[fg,decide_eq_true_eq];by_cases h:l-(xs.length:Int)<0
 ·rw[if_pos h,if_pos (show l-(cQ xs:Int)<0 from h)]
 ·rw[if_neg h,if_neg (show¬l-(cQ xs:Int)<0 from h)];rfl
theorem Bc(xs:(List aG))(hl:cQ xs<=1048576):Ot xs=some xs:=by
 unfold Ot;have hlen:xs.length<=1048576:=by unfold cQ at hl;omega
 have key:=fun l0(h0:l0.length=xs.length)=>iZ (f:=Hc xs) xs id l0 h0 (fun i l x y hx hy hll=>by
  have hlt:=(A1.1 hx).1;have h1:decide ((i:Int)<xs.length)=true:=by simp[hlt]
  have h2:(0<=(i:Int)/\(i:Int)<(l.length:Int)):=by omega
  have hto:Jt x=some x:=Jr x;simp only[Hc,h1,cond_true,aR,hx,A0,bg h2,A5,hy,hto,bnd,id];rw[aA (by omega) (by omega)];rfl) (fun l=>by simp[Hc]) (by omega)
 rw[bg (by omega)];simp only[A0,bnd];rw[key _ (by simp)];simp
theorem BI(xs:(List aG))(hl:cQ xs<=1048576):Pc xs xs=some true:=by
 unfold Pc;have hlen:xs.length<=1048576:=by unfold cQ at hl;omega
 rw[mY (f:=GR xs xs) xs (fun i x hx=>by
  have hlt:=(A1.1 hx).1;have h1:decide ((i:Int)<xs.length)=true:=by simp[hlt]
  have he:JS x x=some true:=Jy x;simp only[GR,h1,cond_true,aR,hx,A0,he,A7,cond_false];rw[aA (by omega) (by omega)];rfl) (by simp[GR]) (by omega)]
 simp
def bd(x:ae):Nat:=ca x.N+cQ x.F
def ma(x:ae):Prop:=lZ x.N/\jl x.F
def yY(x:ae)(l:Int)(h1:0<=l)(h2:l<=1048576)(hs:ma x):KK x l=some (if l-bd x<0 then(-1:Int) else l-bd x):=by
 unfold KK;obtain⟨hs0,hs1⟩:=hs;rw[zt _ _ (by omega) (by omega) hs0];simp only[A0];by_cases h10:l-(ca x.N:Int)<0
 ·rw[if_pos h10,if_pos (show l-(bd x:Int)<0 by unfold bd;omega)];simp
 ·simp only[if_neg h10];simp only[h10,decide_false,cond_false];rw[Dm _ _ (by omega) (by omega) hs1];simp only[A0];by_cases h11:l-(ca x.N:Int)-(cQ x.F:Int)<0
  ·rw[if_pos h11,if_pos (show l-(bd x:Int)<0 by unfold bd;omega)];simp
  ·simp only[if_neg h11];simp only[h11,decide_false,cond_false];have e:l-(ca x.N:Int)-(cQ x.F:Int)=l-(bd x:Int):=by unfold bd;omega
   rw[e,if_neg (by omega)]
theorem Ah(x:ae)(hl:bd x<=1048576):xM x=some x:=by
 unfold xM;simp only[yp x.N (by unfold bd at hl;omega),Bc x.F (by unfold bd at hl;omega),A0]
theorem yl(x:ae)(hl:bd x<=1048576):Ll x x=some true:=by
 unfold Ll;simp[xX x.N (by unfold bd at hl;omega),BI x.F (by unfold bd at hl;omega)]
def Br(x:az):HA x=some x:=by unfold HA;rfl
def Ct(x:az):Il x x=some true:=by unfold Il;simp
def ch(xs:(List az)):Nat:=xs.length
def gS(xs:(List az)):Prop:=xs.length<=9223372036854775807
def xD(xs:(List az))(l:Int)(h1:0<=l)(h2:l<=1048576)(hs:gS xs):NR xs l=some (if l-ch xs<0 then(-1:Int) else l-ch xs):=by
 unfold NR;unfold gS at hs;rw[aA (by omega) (by omega)];simp only[fg,decide_eq_true_eq];by_cases h:l-(xs.length:Int)<0
 ·rw[if_pos h,if_pos (show l-(ch xs:Int)<0 from h)]
 ·rw[if_neg h,if_neg (show¬l-(ch xs:Int)<0 from h)];rfl
theorem Ae(xs:(List az))(hl:ch xs<=1048576):zG xs=some xs:=by
 unfold zG;have hlen:xs.length<=1048576:=by unfold ch at hl;omega
 have key:=fun l0(h0:l0.length=xs.length)=>iZ (f:=FI xs) xs id l0 h0 (fun i l x y hx hy hll=>by
  have hlt:=(A1.1 hx).1;have h1:decide ((i:Int)<xs.length)=true:=by simp[hlt]
  have h2:(0<=(i:Int)/\(i:Int)<(l.length:Int)):=by omega
  have hto:HA x=some x:=Br x;simp only[FI,h1,cond_true,aR,hx,A0,bg h2,A5,hy,hto,bnd,id];rw[aA (by omega) (by omega)];rfl) (fun l=>by simp[FI]) (by omega)
 rw[bg (by omega)];simp only[A0,bnd];rw[key _ (by simp)];simp
theorem xz(xs:(List az))(hl:ch xs<=1048576):LZ xs xs=some true:=by
 unfold LZ;have hlen:xs.length<=1048576:=by unfold ch at hl;omega
 rw[mY (f:=GZ xs xs) xs (fun i x hx=>by
  have hlt:=(A1.1 hx).1;have h1:decide ((i:Int)<xs.length)=true:=by simp[hlt]
  have he:Il x x=some true:=Ct x;simp only[GZ,h1,cond_true,aR,hx,A0,he,A7,cond_false];rw[aA (by omega) (by omega)];rfl) (by simp[GZ]) (by omega)]
 simp
def cI(xs:(List Int)):Nat:=xs.length
def kQ(xs:(List Int)):Prop:=xs.length<=9223372036854775807
def Kn(xs:(List Int))(l:Int)(h1:0<=l)(h2:l<=1048576)(hs:kQ xs):Pp xs l=some (if l-cI xs<0 then(-1:Int) else l-cI xs):=by
 unfold Pp;unfold kQ at hs;rw[aA (by omega) (by omega)];simp only[fg,decide_eq_true_eq];by_cases h:l-(xs.length:Int)<0
 ·rw[if_pos h,if_pos (show l-(cI xs:Int)<0 from h)]
 ·rw[if_neg h,if_neg (show¬l-(cI xs:Int)<0 from h)];rfl
theorem Qz(xs:(List Int))(hl:cI xs<=1048576):Qa xs=some xs:=by
 unfold Qa;have hlen:xs.length<=1048576:=by unfold cI at hl;omega
 have key:=fun l0(h0:l0.length=xs.length)=>iZ (f:=Hp xs) xs id l0 h0 (fun i l x y hx hy hll=>by
  have hlt:=(A1.1 hx).1;have h1:decide ((i:Int)<xs.length)=true:=by simp[hlt]
  have h2:(0<=(i:Int)/\(i:Int)<(l.length:Int)):=by omega
  simp only[Hp,h1,cond_true,aR,hx,A0,bg h2,A5,hy,bnd,id];rw[aA (by omega) (by omega)];rfl) (fun l=>by simp[Hp]) (by omega)
 rw[bg (by omega)];simp only[A0,bnd];rw[key _ (by simp)];simp
theorem Nf(xs:(List Int))(hl:cI xs<=1048576):Nn xs xs=some true:=by
 unfold Nn;have hlen:xs.length<=1048576:=by unfold cI at hl;omega
 rw[mY (f:=Jg xs xs) xs (fun i x hx=>by
  have hlt:=(A1.1 hx).1;have h1:decide ((i:Int)<xs.length)=true:=by simp[hlt]
  simp only[Jg,h1,cond_true,aR,hx,A0,bne_self_eq_false,cond_false];rw[aA (by omega) (by omega)];rfl) (by simp[Jg]) (by omega)]
 simp
def cG(x:ai):Nat:=cI x.F
def qK(x:ai):Prop:=kQ x.F
def tS(x:ai)(l:Int)(h1:0<=l)(h2:l<=1048576)(hs:qK x):IL x l=some (if l-cG x<0 then(-1:Int) else l-cG x):=by
 unfold IL;have hs0:kQ x.F:=hs;rw[Kn _ _ (by omega) (by omega) hs0];simp only[A0];by_cases h10:l-(cI x.F:Int)<0
 ·rw[if_pos h10,if_pos (show l-(cG x:Int)<0 by unfold cG;omega)];simp
 ·simp only[if_neg h10];simp only[h10,decide_false,cond_false];have e:l-(cI x.F:Int)=l-(cG x:Int):=by unfold cG;omega
  rw[e,if_neg (by omega)]
theorem tN(x:ai)(hl:cG x<=1048576):Ht x=some x:=by
 unfold Ht;simp only[Qz x.F (by unfold cG at hl;omega),A0]
theorem uF(x:ai)(hl:cG x<=1048576):Hm x x=some true:=by
 unfold Hm;simp[Nf x.F (by unfold cG at hl;omega)]
theorem uM(x:aH):GU x=some x:=by unfold GU;rfl
theorem tX(x:aH):Jn x x=some true:=by unfold Jn;simp
def bz(x:af):Nat:=cG x.N+cG x.F
def me(x:af):Prop:=qK x.N/\qK x.F
theorem xB(x:af)(l:Int)(h1:0<=l)(h2:l<=1048576)(hs:me x):PP x l=some (if l-bz x<0 then(-1:Int) else l-bz x):=by
 unfold PP;obtain⟨hs0,hs1⟩:=hs;rw[tS _ _ (by omega) (by omega) hs0];simp only[A0];by_cases h10:l-(cG x.N:Int)<0
 ·rw[if_pos h10,if_pos (show l-(bz x:Int)<0 by unfold bz;omega)];simp
 ·simp only[if_neg h10];simp only[h10,decide_false,cond_false];rw[tS _ _ (by omega) (by omega) hs1];simp only[A0];by_cases h11:l-(cG x.N:Int)-(cG x.F:Int)<0
  ·rw[if_pos h11,if_pos (show l-(bz x:Int)<0 by unfold bz;omega)];simp
  ·simp only[if_neg h11];simp only[h11,decide_false,cond_false];have e:l-(cG x.N:Int)-(cG x.F:Int)=l-(bz x:Int):=by unfold bz;omega
   rw[e,if_neg (by omega)]
def zU(x:af)(hl:bz x<=1048576):GV x=some x:=by
 unfold GV;simp only[tN x.N (by unfold bz at hl;omega),uM x.P,tN x.F (by unfold bz at hl;omega),uM x.L,A0]
def xl(x:af)(hl:bz x<=1048576):Gw x x=some true:=by
 unfold Gw;simp[uF x.N (by unfold bz at hl;omega),tX x.P,uF x.F (by unfold bz at hl;omega),tX x.L]
def aX(xs:(List af)):Nat:=xs.length+(xs.map fun x=>bz x).sum
def kc(xs:(List af)):Prop:=xs.length<=9223372036854775807/\∀x∈xs,me x
def vM(xs:(List af))(l:Int)(h1:0<=l)(h2:l<=1048576)(hs:kc xs):OU xs l=some (if l-aX xs<0 then(-1:Int) else l-aX xs):=by
 unfold OU;have hs1:=hs.1;rw[aA (by omega) (by omega)];simp only[fg,decide_eq_true_eq];by_cases h:l-(xs.length:Int)<0
 ·rw[if_pos h,if_pos (by unfold aX;omega)]
 ·rw[if_neg h,Du (f:=JM xs) xs (fun x=>bz x) (fun i x l' hx h3 h4=>by
   have hlt:=(A1.1 hx).1;have h1:decide ((i:Int)<xs.length)=true:=by simp[hlt]
   simp only[JM,h1,cond_true,aR,hx,A0,xB x l' h3 h4 (hs.2 x (A3 hx)),fg,decide_eq_true_eq];rw[aA (by omega) (by omega)];by_cases h5:l'-(bz x:Int)<0
   ·simp only[if_pos h5,if_true,Int.reduceNeg,Int.reduceLT]
   ·simp only[if_neg h5,if_true];rfl) (fun l=>by simp[JM]) _ (by omega) (by omega) (by omega)]
  have e:l-(xs.length:Int)-((xs.map fun x=>bz x).sum:Nat)=l-(aX xs:Int):=by unfold aX;omega
  rw[e];by_cases h5:l-(aX xs:Int)<0
  ·simp only[if_pos h5,A0]
  ·simp only[if_neg h5,A0]
theorem uY(xs:(List af))(hl:aX xs<=1048576):AE xs=some xs:=by
 unfold AE;have hlen:xs.length<=1048576:=by unfold aX at hl;omega
 have key:=fun l0(h0:l0.length=xs.length)=>iZ (f:=M_o xs) xs id l0 h0 (fun i l x y hx hy hll=>by
  have hlt:=(A1.1 hx).1;have h1:decide ((i:Int)<xs.length)=true:=by simp[hlt]
  have h2:(0<=(i:Int)/\(i:Int)<(l.length:Int)):=by omega
  have hto:GV x=some x:=zU x (by have:=lT (fun x=>bz x) hx;unfold aX at hl;omega);simp only[M_o,h1,cond_true,aR,hx,A0,bg h2,A5,hy,hto,bnd,id];rw[aA (by omega) (by omega)];rfl) (fun l=>by simp[M_o]) (by omega)
 rw[bg (by omega)];simp only[A0,bnd];rw[key _ (by simp)];simp
theorem no(xs:(List af))(hl:aX xs<=1048576):Ay xs xs=some true:=by
 unfold Ay;have hlen:xs.length<=1048576:=by unfold aX at hl;omega
 rw[mY (f:=Hh xs xs) xs (fun i x hx=>by
  have hlt:=(A1.1 hx).1;have h1:decide ((i:Int)<xs.length)=true:=by simp[hlt]
  have he:Gw x x=some true:=xl x (by have:=lT (fun x=>bz x) hx;unfold aX at hl;omega);simp only[Hh,h1,cond_true,aR,hx,A0,he,A7,cond_false];rw[aA (by omega) (by omega)];rfl) (by simp[Hh]) (by omega)]
 simp
theorem Ba(x:aM):AR x=some x:=by unfold AR;rfl
def dN(k:Int)(_:ByteArray):Int×ByteArray:=(k+1,txt k)
def mw(_:ByteArray):Nat:=1
theorem lV(k:Int)(x:ByteArray):(dN k x).1=k+(mw x:Int):=rfl
def w_jk(xs:(List ByteArray)):(xs.map mw).sum<=16*ca xs:=by
 unfold ca;induction xs with
 |nil=>simp
 |cons x xs ih=>simp only[E9,F6,A8,mw] at ih⊢;omega
def tF(xs:(List ByteArray))(k0:Int)(hk:0<=k0)(hK:k0+((xs.map mw).sum:Nat)<=1000000000000)(hl:ca xs<=1048576):NG k0 xs=some (bl dN k0 xs):=by
 unfold NG;have hlen:xs.length<=1048576:=by unfold ca at hl;omega
 rw[jf (f:=Gk) xs dN mw lV 1000000000000 (fun i x k l hll hi hx hli h0 hK2=>by
  have hw1:mw x=mw x:=rfl;have h1:decide ((i:Int)<(l.length:Int))=true:=decide_eq_true (by omega);have h2:0<=(i:Int)/\(i:Int)<(l.length:Int):=by omega
  simp only[Gk,h1,cond_true,bg h2,A0,A5,hli,bnd,Bu k h0 (by omega)];rw[aA (n:=k+1) (by unfold mw at hK2;omega) (by unfold mw at hK2;omega),aA (n:=(i:Int)+1) (by unfold mw at hK2;omega) (by unfold mw at hK2;omega)];rfl) (fun k l hll=>by simp[Gk,hll]) k0 hk hK (by omega)]
 rfl
def fF(k:Int)(_:aG):Int×aG:=(k+4,⟨k,k+1,k+2,k+3⟩)
def w_p(_:aG):Nat:=4
theorem nN(k:Int)(x:aG):(fF k x).1=k+(w_p x:Int):=rfl
def w_jl(xs:(List aG)):(xs.map w_p).sum<=16*cQ xs:=by
 unfold cQ;induction xs with
 |nil=>simp
 |cons x xs ih=>simp only[E9,F6,A8,w_p] at ih⊢;omega
def vr(xs:(List aG))(k0:Int)(hk:0<=k0)(hK:k0+((xs.map w_p).sum:Nat)<=1000000000000)(hl:cQ xs<=1048576):Pz k0 xs=some (bl fF k0 xs):=by
 unfold Pz;have hlen:xs.length<=1048576:=by unfold cQ at hl;omega
 rw[jf (f:=IB) xs fF w_p nN 1000000000000 (fun i x k l hll hi hx hli h0 hK2=>by
  have hw1:w_p x=w_p x:=rfl;have h1:decide ((i:Int)<(l.length:Int))=true:=decide_eq_true (by omega);have h2:0<=(i:Int)/\(i:Int)<(l.length:Int):=by omega
  simp only[IB,h1,cond_true,bg h2,A0,A5,hli,bnd,D0 (show i<l.length by omega),G8];rw[aA (n:=k+1) (by unfold w_p at hK2;omega) (by unfold w_p at hK2;omega),aA (n:=k+1+1) (by unfold w_p at hK2;omega) (by unfold w_p at hK2;omega),aA (n:=k+1+1+1) (by unfold w_p at hK2;omega) (by unfold w_p at hK2;omega),aA (n:=k+1+1+1+1) (by unfold w_p at hK2;omega) (by unfold w_p at hK2;omega),aA (n:=(i:Int)+1) (by unfold w_p at hK2;omega) (by unfold w_p at hK2;omega)];simp only[L4,L5,fF];rfl) (fun k l hll=>by simp[IB,hll]) k0 hk hK (by omega)]
 rfl
def dt(k:Int)(x:ae):Int×List ByteArray×List aG:=((bl fF (bl dN k x.N).1 x.F).1,(bl dN k x.N).2,(bl fF (bl dN k x.N).1 x.F).2)
def gm(x:ae):Nat:=(x.N.map mw).sum+(x.F.map w_p).sum
def pp(k:Int)(x:ae):(dt k x).1=k+(gm x:Int):=by
 unfold dt gm;simp only[cS dN mw lV,cS fF w_p nN];try omega
def w_jm(x:ae):gm x<=16*bd x:=by
 unfold gm;have hz:bd x=ca x.N+cQ x.F:=by unfold bd;omega
 have:=w_jk x.N;have:=w_jl x.F;omega
def tI(x:ae)(k0:Int)(hk:0<=k0)(hK:k0+(gm x:Int)<=1000000000000)(hl:bd x<=1048576):Pq k0 x.N x.F=some (dt k0 x):=by
 unfold Pq;unfold gm at hK;have hz:bd x=ca x.N+cQ x.F:=by unfold bd;omega
 have f0:=cS dN mw lV x.N k0;have f1:=cS fF w_p nN x.F ((bl dN k0 x.N).1);rw[tF x.N k0 (by omega) (by omega) (by omega)];simp only[A0];rw[vr x.F ((bl dN k0 x.N).1) (by omega) (by omega) (by omega)];simp only[A0];rfl
def eh(k:Int)(_:az):Int×az:=(k+2,⟨k,k+1⟩)
def mS(_:az):Nat:=2
def qj(k:Int)(x:az):(eh k x).1=k+(mS x:Int):=rfl
def w_jn(xs:(List az)):(xs.map mS).sum<=16*ch xs:=by
 unfold ch;induction xs with
 |nil=>simp
 |cons x xs ih=>simp only[E9,F6,A8,mS] at ih⊢;omega
def tM(xs:(List az))(k0:Int)(hk:0<=k0)(hK:k0+((xs.map mS).sum:Nat)<=1000000000000)(hl:ch xs<=1048576):Mb k0 xs=some (bl eh k0 xs):=by
 unfold Mb;have hlen:xs.length<=1048576:=by unfold ch at hl;omega
 rw[jf (f:=Ig) xs eh mS qj 1000000000000 (fun i x k l hll hi hx hli h0 hK2=>by
  have hw1:mS x=mS x:=rfl;have h1:decide ((i:Int)<(l.length:Int))=true:=decide_eq_true (by omega);have h2:0<=(i:Int)/\(i:Int)<(l.length:Int):=by omega
  simp only[Ig,h1,cond_true,bg h2,A0,A5,hli,bnd,D0 (show i<l.length by omega),G8];rw[aA (n:=k+1) (by unfold mS at hK2;omega) (by unfold mS at hK2;omega),aA (n:=k+1+1) (by unfold mS at hK2;omega) (by unfold mS at hK2;omega),aA (n:=(i:Int)+1) (by unfold mS at hK2;omega) (by unfold mS at hK2;omega)];simp only[L4,L5,eh];rfl) (fun k l hll=>by simp[Ig,hll]) k0 hk hK (by omega)]
 rfl
def bj(k:Int)(_:Int):Int×Int:=(k+1,k)
def dp(_:Int):Nat:=1
theorem jJ(k:Int)(x:Int):(bj k x).1=k+(dp x:Int):=rfl
def JR(xs:(List Int)):(xs.map dp).sum<=16*cI xs:=by
 unfold cI;induction xs with
 |nil=>simp
 |cons x xs ih=>simp only[E9,F6,A8,dp] at ih⊢;omega
def rE(xs:(List Int))(k0:Int)(hk:0<=k0)(hK:k0+((xs.map dp).sum:Nat)<=1000000000000)(hl:cI xs<=1048576):CU k0 xs=some (bl bj k0 xs):=by
 unfold CU;have hlen:xs.length<=1048576:=by unfold cI at hl;omega
 rw[jf (f:=GQ) xs bj dp jJ 1000000000000 (fun i x k l hll hi hx hli h0 hK2=>by
  have hw1:dp x=dp x:=rfl;have h1:decide ((i:Int)<(l.length:Int))=true:=decide_eq_true (by omega);have h2:0<=(i:Int)/\(i:Int)<(l.length:Int):=by omega
  simp only[GQ,h1,cond_true,bg h2,A0,A5,hli,bnd];rw[aA (n:=k+1) (by unfold dp at hK2;omega) (by unfold dp at hK2;omega),aA (n:=(i:Int)+1) (by unfold dp at hK2;omega) (by unfold dp at hK2;omega)];rfl) (fun k l hll=>by simp[GQ,hll]) k0 hk hK (by omega)]
 rfl
def rn(xs:(List Int))(k0:Int)(hk:0<=k0)(hK:k0+((xs.map dp).sum:Nat)<=1000000000000)(hl:cI xs<=1048576):AG (bl bj k0 xs).2 k0=some (bl bj k0 xs).1:=by
 unfold AG;have hlen:xs.length<=1048576:=by unfold cI at hl;omega
 rw[ue (f:=Je (bl bj k0 xs).2) xs bj dp jJ 1000000000000 k0 (fun i x k hx hm h0 hK2=>by
  have hi:=(A1.1 hx).1;have h1:decide ((i:Int)<((bl bj k0 xs).2.length:Int))=true:=decide_eq_true (by rw[dw];omega);simp only[Je,h1,cond_true,aR,hm,A0,bj,bne_self_eq_false,cond_false];rw[aA (n:=k+1) (by unfold dp at hK2;omega) (by unfold dp at hK2;omega),aA (n:=(i:Int)+1) (by unfold dp at hK2;omega) (by unfold dp at hK2;omega)];rfl) (fun k=>by simp[Je,dw]) hk hK (by omega)]
 rfl
def cm(k:Int)(x:af):Int×af:=((bl bj ((bl bj (k+1+1+1) x.N.F).1+1+1+1) x.F.F).1+1+1,⟨k,k+1,⟨k+1+1,(bl bj (k+1+1+1) x.N.F).2⟩,⟨(bl bj (k+1+1+1) x.N.F).1,(bl bj (k+1+1+1) x.N.F).1+1⟩,⟨(bl bj (k+1+1+1) x.N.F).1+1+1,(bl bj ((bl bj (k+1+1+1) x.N.F).1+1+1+1) x.F.F).2⟩,⟨(bl bj ((bl bj (k+1+1+1) x.N.F).1+1+1+1) x.F.F).1,(bl bj ((bl bj (k+1+1+1) x.N.F).1+1+1+1) x.F.F).1+1⟩⟩)
def nI(x:af):Nat:=8+(x.N.F.map dp).sum+(x.F.F.map dp).sum
def ix(k:Int)(x:af):(cm k x).1=k+(nI x:Int):=by
 unfold cm nI;simp only[cS bj dp jJ];omega
def w_jj(xs:(List af)):(xs.map nI).sum<=16*aX xs:=by
 unfold aX;induction xs with
 |nil=>simp
 | cons x xs ih =>
   have t0:=JR x.N.F;simp only[cI] at t0;have t1:=JR x.F.F;simp only[cI] at t1;simp only[E9,F6,A8,nI,bz,cG,cI] at ih⊢;omega
def jZ(xs:(List af))(k0:Int)(hk:0<=k0)(hK:k0+((xs.map nI).sum:Nat)<=1000000000000)(hl:aX xs<=1048576):JJ k0 xs=some (bl cm k0 xs):=by
 unfold JJ;have hlen:xs.length<=1048576:=by unfold aX at hl;omega
 rw[jf (f:=JF) xs cm nI ix 1000000000000 (fun i x k l hll hi hx hli h0 hK2=>by
  have hw1:nI x=nI x:=rfl;have h1:decide ((i:Int)<(l.length:Int))=true:=decide_eq_true (by omega);have h2:0<=(i:Int)/\(i:Int)<(l.length:Int):=by omega
  have hb:bz x<=1048576:=by have:=lT (fun x=>bz x) hx;unfold aX at hl;omega
  unfold bz cG cI at hb;unfold nI at hK2;simp only[JF,h1,cond_true,bg h2,A0,A5,hli,bnd,D0 (show i<l.length by omega),G8];rw[aA (n:=k+1) (by omega) (by omega),aA (n:=k+1+1) (by omega) (by omega),aA (n:=k+1+1+1) (by omega) (by omega)];have f0:=cS bj dp jJ x.N.F (k+1+1+1);have g0:=JR x.N.F;unfold cI at g0;rw[rE x.N.F (k+1+1+1) (by omega) (by omega) (by unfold cI;omega)];simp only[A0,D0 (show i<l.length by omega),G8];rw[aA (n:=(bl bj (k+1+1+1) x.N.F).1+1) (by omega) (by omega),aA (n:=(bl bj (k+1+1+1) x.N.F).1+1+1) (by omega) (by omega),aA (n:=(bl bj (k+1+1+1) x.N.F).1+1+1+1) (by omega) (by omega)];have f1:=cS bj dp jJ x.F.F ((bl bj (k+1+1+1) x.N.F).1+1+1+1);have g1:=JR x.F.F;unfold cI at g1;rw[rE x.F.F ((bl bj (k+1+1+1) x.N.F).1+1+1+1) (by omega) (by omega) (by unfold cI;omega)];simp only[A0,D0 (show i<l.length by omega),G8];rw[aA (n:=(bl bj ((bl bj (k+1+1+1) x.N.F).1+1+1+1) x.F.F).1+1) (by omega) (by omega),aA (n:=(bl bj ((bl bj (k+1+1+1) x.N.F).1+1+1+1) x.F.F).1+1+1) (by omega) (by omega)];rw[aA (n:=(i:Int)+1) (by omega) (by omega)];rfl) (fun k l hll=>by simp[JF,hll]) k0 hk hK (by omega)]
 rfl
def ky(xs:(List af))(k0:Int)(hk:0<=k0)(hK:k0+((xs.map nI).sum:Nat)<=1000000000000)(hl:aX xs<=1048576):Hi (bl cm k0 xs).2 k0=some (bl cm k0 xs).1:=by
 unfold Hi;have hlen:xs.length<=1048576:=by unfold aX at hl;omega
 rw[ue (f:=Ga (bl cm k0 xs).2) xs cm nI ix 1000000000000 k0 (fun i x k hx hm h0 hK2=>by
  have hi:=(A1.1 hx).1;have h1:decide ((i:Int)<((bl cm k0 xs).2.length:Int))=true:=decide_eq_true (by rw[dw];omega);have hb:bz x<=1048576:=by have:=lT (fun x=>bz x) hx;unfold aX at hl;omega
  unfold bz cG cI at hb;unfold nI at hK2;simp only[Ga,h1,cond_true,aR,hm,A0,cm];rw[aA (n:=k+1) (by omega) (by omega),aA (n:=k+1+1) (by omega) (by omega),aA (n:=k+1+1+1) (by omega) (by omega)];have f0:=cS bj dp jJ x.N.F (k+1+1+1);have g0:=JR x.N.F;unfold cI at g0;have hh0:AG (bl bj (k+1+1+1) x.N.F).2 (k+1+1+1)=some (bl bj (k+1+1+1) x.N.F).1:=rn x.N.F (k+1+1+1) (by omega) (by omega) (by unfold cI;omega);have hn0:decide ((bl bj (k+1+1+1) x.N.F).1<0)=false:=decide_eq_false (by omega);simp only[bne_self_eq_false,cond_false,hh0,A0,hn0];rw[aA (n:=(bl bj (k+1+1+1) x.N.F).1+1) (by omega) (by omega),aA (n:=(bl bj (k+1+1+1) x.N.F).1+1+1) (by omega) (by omega),aA (n:=(bl bj (k+1+1+1) x.N.F).1+1+1+1) (by omega) (by omega)];have f1:=cS bj dp jJ x.F.F ((bl bj (k+1+1+1) x.N.F).1+1+1+1);have g1:=JR x.F.F;unfold cI at g1;have hh1:AG (bl bj ((bl bj (k+1+1+1) x.N.F).1+1+1+1) x.F.F).2 ((bl bj (k+1+1+1) x.N.F).1+1+1+1)=some (bl bj ((bl bj (k+1+1+1) x.N.F).1+1+1+1) x.F.F).1:=rn x.F.F ((bl bj (k+1+1+1) x.N.F).1+1+1+1) (by omega) (by omega) (by unfold cI;omega);have hn1:decide ((bl bj ((bl bj (k+1+1+1) x.N.F).1+1+1+1) x.F.F).1<0)=false:=decide_eq_false (by omega);simp only[bne_self_eq_false,cond_false,hh1,A0,hn1];rw[aA (n:=(bl bj ((bl bj (k+1+1+1) x.N.F).1+1+1+1) x.F.F).1+1) (by omega) (by omega),aA (n:=(bl bj ((bl bj (k+1+1+1) x.N.F).1+1+1+1) x.F.F).1+1+1) (by omega) (by omega)];rw[aA (n:=(i:Int)+1) (by omega) (by omega)];try simp only[bne_self_eq_false,cond_false]
  rfl) (fun k=>by simp[Ga,dw]) hk hK (by omega)]
 rfl
end Vs

namespace Vs
open Go
def wi(x a b:Int):Bool:=decide (a<=x)&&decide (x<=b)
theorem cD{x a b:Int}:wi x a b=true↔a<=x/\x<=b:=by simp[wi]
def qe{x a b:Int}:wi x a b=false↔¬(a<=x/\x<=b):=by rw[<-cD];simp
theorem dY(x a b:Int):M_g x a b=some (wi x a b):=by
 grind [M_g,wi]
theorem iR(x a b:Int):M_f x a b=some (wi x a b):=by
 grind [M_f,wi]
def sQ(c:UInt8):Bool:=decide (97<=c.toNat)&&decide (c.toNat<=122)
def zS(c:UInt8):Bool:=decide (48<=c.toNat)&&decide (c.toNat<=57)
def gK(i:Nat)(c:UInt8):Bool:=!sQ c&&(!zS c||i==0)
def pU(s:ByteArray):Bool:=!eT gK s.data.toList&&wi s.size 1 8
theorem sE(s:ByteArray)(i:Nat):wn s (i:Int)=s.data.toList[i]?:=by
 unfold wn;rw[if_pos (by omega),A5];by_cases h:i<s.size
 ·have h2:i<s.data.toList.length:=by simpa using h
  rw[getElem?_pos s i h,A2 h2];rfl
 simp_all
def ga(s:ByteArray):s.size=s.data.toList.length:=by simp_all
theorem BJ(c:UInt8):sQ c=(decide (97<=(c.toNat:Int))&&decide ((c.toNat:Int)<=122)):=by
 unfold sQ
 grind
theorem Kr(c:UInt8):zS c=(decide (48<=(c.toNat:Int))&&decide ((c.toNat:Int)<=57)):=by
 unfold zS
 grind
theorem KX(s:ByteArray)(hl:s.size<=1048576):Qh s=some (pU s):=by
 unfold Qh pU;rw[ga] at*
 rw[eB (f:=IW s) s.data.toList gK (.inr false) (.inl ()) (fun i c hc _=>by
  have hlt:=(A1.1 hc).1;have h1:decide ((i:Int)<s.size)=true:=decide_eq_true (by rw[ga];omega);simp only[IW,h1,cond_true,sE,hc,A0,gK,BJ,Kr];rw[aA (by omega) (by omega)];have hi:((i:Int)==0)=(i==0):=by rw[C5];simp
  rw[hi];cases decide (97<=(c.toNat:Int))<;>cases decide ((c.toNat:Int)<=122)<;>cases decide (48<=(c.toNat:Int))<;>cases decide ((c.toNat:Int)<=57)<;>cases(i==0)<;>rfl) (by simp[IW]) (by omega)]
 rw[<-ga];cases eT gK s.data.toList<;>simp[dY]
theorem NA(c:UInt8):Qg (c.toNat:Int)=some (sQ c||zS c):=by
 grind [BJ,Kr,Qg,decide]
def fstc(c:UInt8):(cond (decide ((c.toNat:Int)<97)) (some true) (some (decide (122<(c.toNat:Int)))):Option Bool)=some (!sQ c):=by
 rw[BJ];by_cases h1:(c.toNat:Int)<97
 ·simp_all
 ·have h2:97<=(c.toNat:Int):=by omega
  simp only[h1,decide_false,cond_false,h2,decide_true,B4];by_cases h3:122<(c.toNat:Int)
  ·simp_all
  simp_all
theorem Kc(s:ByteArray)(hl:s.size<=1048576):QV s=some (pU s):=by
 unfold QV pU;simp only[iR,A0];rcases bt (wi s.size 1 8) with hw|hw
 ·simp only[hw,A7,cond_false,H4];have hs:0<s.data.toList.length:=by rw[<-ga];have:=(cD.1 hw).1;omega
  have h0:s.data.toList[0]?=some s.data.toList[0]:=A2 hs;have g0:wn s 0=some s.data.toList[0]:=by rw[<-h0];exact sE s 0
  simp only[g0,A0];have key:=eB (f:=M_a s) s.data.toList (fun _ c=>!(sQ c||zS c)) (.inr false) (.inl ()) (fun i c hc _=>by
   have hlt:=(A1.1 hc).1;have h1:decide ((i:Int)<s.size)=true:=decide_eq_true (by rw[ga];omega);rw[ga] at hl;simp only[M_a,h1,cond_true,sE,hc,A0,NA];rw[aA (by omega) (by omega)];cases sQ c<;>cases zS c<;>rfl) (by simp[M_a]) (by rw[ga] at hl;omega)
  rw[fstc];simp only[A0,key];rcases bt (sQ s.data.toList[0]) with hL|hL
  ·simp only[hL,A7,cond_false];have e:eT (fun _ c=>!(sQ c||zS c)) s.data.toList=eT gK s.data.toList:=by
    refine BW fun i c hc _=>?_;unfold gK;by_cases hi:i=0
    ·subst hi;rw[h0] at hc;cases hc;rw[hL];rfl
    ·have:(i==0)=false:=by simpa using hi
     rw[this];cases sQ c<;>cases zS c<;>rfl
   rw[e];cases eT gK s.data.toList<;>rfl
  ·have:eT gK s.data.toList=true:=gr.2 ⟨0,_,h0,by unfold gK;rw[hL];simp⟩;simp only[hL,this,D3,cond_true,A7]
 ·simp[hw]
def ZD(v:ByteArray)(xs:List ByteArray):Option (Nat×ByteArray):=cU (fun _ x=>x.toList==v.toList) xs
def Tn(v:ByteArray)(xs:List ByteArray):Int:=match ZD v xs with|some q=>(q.1:Int)|none=>-1
theorem KT(xs:List ByteArray)(v:ByteArray)(hl:xs.length<=1048576):RN xs v=some (Tn v xs):=by
 unfold RN Tn;rw[dh (f:=GN xs v) xs (fun _ x=>x.toList==v.toList) (fun i _=>(i:Int)) () (fun i x hx _=>by
  have hlt:=(A1.1 hx).1;have h1:decide ((i:Int)<xs.length)=true:=by simp[hlt]
  simp only[GN,h1,cond_true,aR,hx,A0]
  grind [aA]) (by simp[GN]) (by omega)]
 grind [ZD,cU]
theorem vW(xs:List ByteArray)(v:ByteArray)(hl:xs.length<=1048576):Ms xs v=some (xs.any fun x=>x.toList==v.toList):=by
 unfold Ms US;rw[dh (f:=IU xs v) xs (fun _ x=>x.toList==v.toList) (fun i _=>(i:Int)) () (fun i x hx _=>by
  have hlt:=(A1.1 hx).1;have h1:decide ((i:Int)<xs.length)=true:=by simp[hlt]
  simp only[IU,h1,cond_true,aR,hx,A0];rw[aA (by omega) (by omega),show(v.toList==x.toList)=(x.toList==v.toList) from Bool.beq_comm ..];cases x.toList==v.toList<;>rfl) (by simp[IU]) (by omega)]
 cases e:cU (fun _ x=>x.toList==v.toList) xs with
 | none =>
   have:=ef.1 e;have h:(xs.any fun x=>x.toList==v.toList)=false:=by
    rw[<-nq (fun x:ByteArray=>x.toList==v.toList),dj];exact this
   rw[h];rfl
 | some q =>
   obtain⟨i,x⟩:=q;obtain⟨h1,h2,_⟩:=cT.1 e;have h:(xs.any fun x=>x.toList==v.toList)=true:=D7.2 ⟨x,A3 h1,h2⟩;rw[h];simp
def dB(x y:Int):Int:=if x<y then -1 else if y<x then 1 else 0
theorem yZ(x y:Int):lj x y=some (dB x y):=by
 grind [lj,Jw,dB]
def Cq(f g:aG):Int:=if f.A≠g.A then dB f.A g.A else if f.B≠g.B then dB f.B g.B else if f.N≠g.N then dB f.N g.N else dB f.F g.F
theorem cJ{x y:Int}:dB x y=0↔x=y:=by
 grind [dB]
theorem pk(f g:aG):QI f g=some (Cq f g):=by
 unfold QI;simp only[yZ,A0,bnd];unfold nW;have key:=dh (f:=M_m [dB f.A g.A,dB f.B g.B,dB f.N g.N,dB f.F g.F]) [dB f.A g.A,dB f.B g.B,dB f.N g.N,dB f.F g.F] (fun _ x=>x !=0) (fun _ x=>x) () (fun i x hx _=>by
  have hlt:=(A1.1 hx).1;have h1:decide ((i:Int)<([dB f.A g.A,dB f.B g.B,dB f.N g.N,dB f.F g.F].length:Nat))=true:=decide_eq_true (by omega);simp only[A8,B1] at hlt;simp only[M_m,h1,cond_true,aR,hx,A0]
  grind [aA]) (by simp[M_m]) (by simp)
 rw[key];unfold Cq cU;simp only[F0,I5,F5,I9];by_cases h1:f.A=g.A
 ·rw[cJ.2 h1];by_cases h2:f.B=g.B
  ·rw[cJ.2 h2];by_cases h3:f.N=g.N
   ·rw[cJ.2 h3]
    grind
   ·have:(dB f.N g.N !=0)=true:=bne_iff_ne.2 fun e=>h3 (cJ.1 e);simp[h1,h2,h3,this]
  ·have:(dB f.B g.B !=0)=true:=bne_iff_ne.2 fun e=>h2 (cJ.1 e);simp[h1,h2,this]
 ·have:(dB f.A g.A !=0)=true:=bne_iff_ne.2 fun e=>h1 (cJ.1 e);simp[h1,this]
end Vs

namespace Vs
open Go
theorem ET{α:Type}(xs:List α)(i:Nat)(h:i<=xs.length):slT xs (i:Int)=some (xs.take i):=by
 simp_all [if_pos,slT]
def Sa{n:ae}(h:bd n<=1048576):n.N.length<=1048576/\n.F.length<=1048576/\∀x∈n.N,x.size<=1048576:=by
 unfold bd ca cQ at h;refine⟨by omega,by omega,fun x hx=>?_⟩;obtain⟨i,hi,rfl⟩:=J3 hx;have:n.N[i].size<=(n.N.map fun x:ByteArray=>x.size).sum:=lT (fun x:ByteArray=>x.size) (xs:=n.N) (i:=i) (x:=n.N[i]) (by simp[hi]);omega
def jD(n:ae)(i:Nat)(x:ByteArray):Bool:=!pU x||(n.N.take i).any fun y=>y.toList==x.toList
def Bd(m:Nat)(f:aG):Bool:=decide (f.A<0)||decide (f.B<=f.A)||decide ((m:Int)<=f.B)||!wi f.N 1 5000||!wi f.F 0 9
def iL(n:ae)(i:Nat)(f:aG):Bool:=Bd n.N.length f||(decide (0<i)&&match n.F[i-1]? with|some g=>decide (0<Cq g f)|none=>false)
def bK(n:ae):Bool:=!eT (jD n) n.N&&!eT (iL n) n.F&&wi n.N.length 2 8&&decide (n.F.length<=14)
def ge(n:ae)(hz:bd n<=1048576):Dh n=some (bK n):=by
 obtain⟨h1,h2,h3⟩:=Sa hz;unfold Dh bK;rw[eB (f:=FX n) n.N (jD n) (.inr false) (.inl ()) (fun i x hx _=>by
  have hlt:=(A1.1 hx).1;have e1:decide ((i:Int)<n.N.length)=true:=by simp[hlt]
  simp only[FX,e1,cond_true,aR,hx,A0,KX x (h3 x (A3 hx)),ET n.N i (Nat.le_of_lt hlt),vW (n.N.take i) x (by simp;omega),jD];rw[aA (by omega) (by omega)];rcases bt (pU x) with e|e<;>rcases bt ((n.N.take i).any (fun y=>y.toList==x.toList)) with e'|e'<;>simp only[e,e']<;>rfl) (by simp[FX]) (by omega)]
 rcases bt (eT (jD n) n.N) with hN|hN
 ·simp[hN]
 ·simp only[hN,C0,if_false,A0,D3,B4];rw[eB (f:=Jp n) n.F (iL n) (.inr false) (.inl ()) (fun i x hx _=>by
   have hlt:=(A1.1 hx).1;have e1:decide ((i:Int)<n.F.length)=true:=by simp[hlt]
   simp only[Jp,e1,cond_true,aR,hx,A0,dY];rw[aA (n:=(i:Int)+1) (by omega) (by omega)];unfold iL Bd;cases decide (x.A<0)
   ·cases decide (x.B<=x.A)
    ·cases decide ((n.N.length:Int)<=x.B)
     ·cases wi x.N 1 5000
      ·rfl
      ·cases wi x.F 0 9
       ·rfl
       ·by_cases hi:0<i
        ·have hi':decide ((0:Int)<(i:Int))=true:=by simp[hi]
         have hp:n.F[i-1]?=some n.F[i-1]:=A2 (by omega);have hw:A4 .i64 ((i:Int)-1)=((i-1:Nat):Int):=by rw[aA (by omega) (by omega)];omega
         simp only[hi',cond_true,cond_false,A7,hw,aR,hp,A0,pk,hi,decide_true,B4,E4];cases decide (0<Cq n.F[i-1] x)<;>rfl
        ·have hi':decide ((0:Int)<(i:Int))=false:=by simp;omega
         simp[hi',hi]
     ·rfl
    ·rfl
   ·rfl) (by simp[Jp]) (by omega)]
  rcases bt (eT (iL n) n.F) with hF|hF
  ·simp[hF]
  ·simp only[hF,C0,if_false,A0,D3,B4,dY];have e:decide ((n.F.length:Int)<=14)=decide (n.F.length<=14):=decide_eq_decide.2 (by omega);rw[e];cases wi n.N.length 2 8<;>rfl
theorem KA(n:ae)(i:Nat)(x:ByteArray)(hx:n.N[i]?=some x):
 (Tn x n.N !=(i:Int))=(n.N.take i).any fun y=>y.toList==x.toList:=by
 unfold Tn;cases e:ZD x n.N with
 | none =>
   have:=ef.1 e i x hx;simp at this
 | some q =>
   obtain⟨j,y⟩:=q;obtain⟨h1,h2,h3⟩:=cT.1 e;simp only;by_cases hj:j=i
   ·subst hj;have:((n.N.take j).any fun y=>y.toList==x.toList)=false:=by
     rw[H1];intro z hz;obtain⟨k,hk,rfl⟩:=J3 hz;simp only[D8] at hk;have:=h3 k (n.N.take j)[k] (by omega) (by rw[List.getElem_take];exact A2 (by omega));rw[this];simp
    rw[this];simp
   ·have hji:j<i:=by
     rcases F7 j i with h|h|h
     ·exact h
     ·exact(hj h).elim
     ·have:=h3 i x h hx;simp at this
    have:((n.N.take i).any fun y=>y.toList==x.toList)=true:=D7.2 ⟨y,by
     have:(n.N.take i)[j]?=some y:=by rw[F3,if_pos hji];exact h1
     exact A3 this,h2⟩
    rw[this];simp;omega
theorem Jf(f:aG)(m:Nat)(hm:m<=8)(hm2:2<=m):MY f (m:Int)=some (!Bd m f):=by
 unfold MY Bd;simp only[iR,A0];rw[aA (n:=(m:Int)-1) (by omega) (by omega)];rcases bt (wi f.A 0 ((m:Int)-1)) with h1|h1
 ·have h2:=cD.1 h1;rw[aA (n:=f.A+1) (by omega) (by omega)];rcases bt (wi f.B (f.A+1) ((m:Int)-1)) with h3|h3
  ·have h4:=cD.1 h3;have a1:decide (f.A<0)=false:=by simp;omega
   have a2:decide (f.B<=f.A)=false:=by simp;omega
   have a3:decide ((m:Int)<=f.B)=false:=by simp;omega
   simp only[h1,h3,a1,a2,a3,cond_true,E4]
   grind [wi]
  ·have h4:=qe.1 h3
   grind
 ·have h2:=qe.1 h1;simp only[h1,cond_false];by_cases a1:f.A<0
  ·simp[a1]
  ·by_cases a2:f.B<=f.A
   ·simp[a2]
   grind
structure yi(m:Int)(f:aG):Prop where
 a0:0<=f.A
 ab:f.A<f.B
 bm:f.B<m
 l1:1<=f.N
 l2:f.N<=5000
 r0:0<=f.F
 r9:f.F<=9
def pM{m:Nat}{f:aG}(h:Bd m f=false):yi m f:=by
 unfold Bd at h;simp only[C2,decide_eq_false_iff_not,E6,cD] at h;obtain⟨⟨⟨⟨h1,h2⟩,h3⟩,h4,h5⟩,h6,h7⟩:=h;exact⟨by omega,by omega,by omega,h4,h5,h6,h7⟩
def NC(f g:aG)(m:Nat)(hm:m<=8)(hf:yi m f)(hg:yi m g):∃r,NL f g=some r/\decide (0<r)=decide (0<Cq f g):=by
 obtain⟨a1,a2,a3,a4,a5,a6,a7⟩:=hf;obtain⟨b1,b2,b3,b4,b5,b6,b7⟩:=hg;have sgn:∀x y:Int,decide (0<x-y)=decide (0<dB x y):=by
  intro x y;unfold dB;by_cases h:x<y
  ·rw[if_pos h];exact decide_eq_decide.2 (by omega)
  ·rw[if_neg h];by_cases h2:y<x
   ·rw[if_pos h2];exact decide_eq_decide.2 (by omega)
   ·rw[if_neg h2];exact decide_eq_decide.2 (by omega)
 unfold NL Cq;rw[aA (n:=f.A-g.A) (by omega) (by omega),aA (n:=f.B-g.B) (by omega) (by omega),aA (n:=f.N-g.N) (by omega) (by omega),aA (n:=f.F-g.F) (by omega) (by omega)];by_cases h1:f.A=g.A
 ·have e1:(f.A !=g.A)=false:=by rw[h1];simp
  by_cases h2:f.B=g.B
  ·have e2:(f.B !=g.B)=false:=by rw[h2];simp
   by_cases h3:f.N=g.N
   ·have e3:(f.N !=g.N)=false:=by rw[h3];simp
    exact⟨f.F-g.F,by simp only[e1,e2,e3,cond_false],by simp only[h1,h2,h3,ne_eq,not_true,if_false];exact sgn _ _⟩
   ·have e3:(f.N !=g.N)=true:=bne_iff_ne.2 h3;exact⟨f.N-g.N,by simp only[e1,e2,e3,cond_false,cond_true],by simp only[h1,h2,h3,ne_eq,not_true,not_false_eq_true,if_false,if_true];exact sgn _ _⟩
  ·have e2:(f.B !=g.B)=true:=bne_iff_ne.2 h2;exact⟨f.B-g.B,by simp only[e1,e2,cond_false,cond_true],by simp only[h1,h2,ne_eq,not_true,not_false_eq_true,if_false,if_true];exact sgn _ _⟩
 ·have e1:(f.A !=g.A)=true:=bne_iff_ne.2 h1;exact⟨f.A-g.A,by simp only[e1,cond_true],by simp only[h1,ne_eq,not_false_eq_true,if_true];exact sgn _ _⟩
theorem rM(n:ae)(hz:bd n<=1048576):yx n=some (bK n):=by
 obtain⟨z1,z2,z3⟩:=Sa hz;unfold yx bK;simp only[iR,A0];rcases bt (wi n.N.length 2 8) with hw|hw
 ·have hw2:=cD.1 hw;have e:decide (14<(n.F.length:Int))=!decide (n.F.length<=14):=by
   rw[<-decide_not];exact decide_eq_decide.2 (by omega)
  simp only[hw,e,A7,cond_false,A0,H4];rcases bt (decide (n.F.length<=14)) with h14|h14
  ·simp only[h14,A7,cond_false,H4];rw[eB (f:=M_q n) n.N (jD n) (.inr false) (.inl ()) (fun i x hx _=>by
    have hlt:=(A1.1 hx).1;have e1:decide ((i:Int)<n.N.length)=true:=by simp[hlt]
    simp only[M_q,e1,cond_true,aR,hx,A0,Kc x (z3 x (A3 hx)),KT n.N x z1,KA n i x hx,jD];rw[aA (by omega) (by omega)];rcases bt (pU x) with e|e<;>rcases bt ((n.N.take i).any (fun y=>y.toList==x.toList)) with e'|e'<;>simp only[e,e']<;>rfl) (by simp[M_q]) (by omega)]
   rcases bt (eT (jD n) n.N) with hN|hN
   ·simp[hN]
   ·simp only[hN,C0,if_false,A0,D3,B4];rw[eB (f:=GY n) n.F (iL n) (.inr false) (.inl ()) (fun i x hx hprev=>by
     have hlt:=(A1.1 hx).1;have e1:decide ((i:Int)<n.F.length)=true:=by simp[hlt]
     simp only[GY,e1,cond_true,aR,hx,A0,Jf x n.N.length (by omega) (by omega),L7];rw[aA (n:=(i:Int)+1) (by omega) (by omega)];unfold iL;rcases bt (Bd n.N.length x) with h1|h1
     ·simp[h1]
     ·simp only[h1,cond_false,E4];by_cases hi:0<i
      ·have hi':decide ((0:Int)<(i:Int))=true:=by simp[hi]
       have hp:n.F[i-1]?=some n.F[i-1]:=A2 (by omega);have hw:A4 .i64 ((i:Int)-1)=((i-1:Nat):Int):=by rw[aA (by omega) (by omega)];omega
       have hb:=hprev (i-1) n.F[i-1] (by omega) hp;unfold iL at hb;simp only[C2] at hb;obtain⟨r,r1,r2⟩:=NC n.F[i-1] x n.N.length (by omega) (pM hb.1) (pM h1);simp only[hi',cond_true,hw,aR,hp,A0,r1,r2,hi,decide_true,B4];cases decide (0<Cq n.F[i-1] x)<;>rfl
      ·have hi':decide ((0:Int)<(i:Int))=false:=by simp;omega
       simp[hi',hi]) (by simp[GY]) (by omega)]
    cases eT (iL n) n.F<;>rfl
  ·simp[h14]
 ·simp[hw]
end Vs

namespace Vs
open Go
theorem kL{n:ae}(h:bK n=true):2<=n.N.length/\n.N.length<=8/\n.F.length<=14:=by
 unfold bK at h;simp only[B2,decide_eq_true_eq,cD] at h;omega
def tP{n:ae}(h:bK n=true){i:Nat}{f:aG}(hf:n.F[i]?=some f):yi n.N.length f:=by
 unfold bK at h;simp only[B2,E0] at h;have:=dj.1 h.1.1.2 i f hf;unfold iL at this;simp only[C2] at this;exact pM this.1
def eo(r:Int):Nat->List aG->List Int
 |_,[]=>[]
 |i,f::fs=>if f.F=r then(i:Int)::eo r (i+1) fs else eo r (i+1) fs
def lc(r:Int)(i:Nat)(f:aG)(fs:List aG):eo r i (f::fs)=if f.F=r then(i:Int)::eo r (i+1) fs else eo r (i+1) fs:=rfl
theorem nj(r:Int):∀(fs:List aG)(i:Nat),(eo r i fs).length<=fs.length
 |[],i=>by simp[eo]
 | f :: fs, i => by
   have:=nj r fs (i+1);rw[lc];split<;>simp<;>omega
theorem pT(r:Int):∀(fs:List aG)(i:Nat)(x:Int),x∈eo r i fs↔∃j f,fs[j]?=some f/\f.F=r/\x=((i+j:Nat):Int)
 |[],i,x=>by simp[eo]
 | f :: fs, i, x => by
   have ih:=pT r fs (i+1) x;have step:(∃j g,(f::fs)[j]?=some g/\g.F=r/\x=((i+j:Nat):Int))↔(f.F=r/\x=(i:Int))\/∃j g,fs[j]?=some g/\g.F=r/\x=((i+1+j:Nat):Int):=by
    constructor
    ·rintro⟨j,g,h1,h2,h3⟩;cases j with
     |zero=>simp at h1;subst h1;exact .inl ⟨h2,h3⟩
     |succ j=>exact .inr ⟨j,g,by simpa using h1,h2,by rw[h3];congr 1;omega⟩
    ·rintro(⟨h1,h2⟩|⟨j,g,h1,h2,h3⟩)
     ·exact⟨0,f,rfl,h1,h2⟩
     ·exact⟨j+1,g,by simpa using h1,h2,by rw[h3];congr 1;omega⟩
   rw[step,<-ih];rw[lc];split
   ·rename_i h;simp[h]
   ·rename_i h;simp[h]
theorem uE(r:Int):∀(fs:List aG)(i:Nat)(acc:List Int),bX (fun i(f:aG)(a:List Int)=>(.inl (if f.F=r then a++[(i:Int)] else a):List Int⊕List Int)) (fun a=>a) i fs acc=acc++eo r i fs
 |[],i,acc=>by simp[bX,eo]
 | f :: fs, i, acc => by
   simp only[bX];rw[uE r fs (i+1)];rw[lc];split<;>simp
def ji:List Int:=[1,2,3,4,5,6,7,8,9]
def dK(n:ae):List (List Int):=((ji.map fun r=>eo r 0 n.F).filter fun l=>decide (0<l.length))++(eo 0 0 n.F).map fun i=>[i]
def Ao(n:ae)(h:n.F.length<=14):(dK n).length<=23:=by
 have:=nj 0 n.F 0;have h2:=G2 (fun l:List Int=>decide (0<l.length)) (ji.map fun r=>eo r 0 n.F);have h3:(ji.map fun r=>eo r 0 n.F).length=9:=rfl;unfold dK;simp only[A6,E7];omega
def zo{f:Int×List Int->Option ((Int×List Int)⊕List Int)}(fs:List aG)(r:Int)(hl:fs.length<=1048576)
 (h1:∀(i:Nat) x(a:List Int),fs[i]?=some x->a.length<=i->f ((i:Int),a)=some (.inl (((i+1:Nat):Int),if x.F=r then a++[(i:Int)] else a)))
 (h2:∀a,f ((fs.length:Int),a)=some (.inr a)):aW f N0 (0,[])=some (eo r 0 fs):=by
 have:=dg (f:=f) fs (fun i(a:List Int)=>((i:Int),a)) (fun i x a=>.inl (if x.F=r then a++[(i:Int)] else a)) (fun a=>a) (fun i a=>a.length<=i) (fun i a x hx hI=>by
  refine .inl ⟨_,rfl,?_,h1 i x a hx hI⟩;split<;>first|omega|(simp only[A6,A8,B1];omega)) (fun a _=>h2 a) [] (by simp) (by omega)
 rw[show aW f N0 (0,[])=_ from this,uE];rfl
def Lm{f:Int×List (List Int)->Option ((Int×List (List Int))⊕List (List Int))}(fs:List aG)(G:List (List Int))(hl:fs.length<=1048576)(hG:G.length<=100)
 (h1:∀(i:Nat) x(a:List (List Int)),fs[i]?=some x->a.length<=100+i->f ((i:Int),a)=some (.inl (((i+1:Nat):Int),if x.F=0 then a++[[(i:Int)]] else a)))
 (h2:∀a,f ((fs.length:Int),a)=some (.inr a)):aW f N0 (0,G)=some (G++(eo 0 0 fs).map fun i=>[i]):=by
 have:=dg (f:=f) fs (fun i(a:List (List Int))=>((i:Int),a)) (fun i x a=>.inl (if x.F=0 then a++[[(i:Int)]] else a)) (fun a=>a) (fun i a=>a.length<=100+i) (fun i a x hx hI=>by
  refine .inl ⟨_,rfl,?_,h1 i x a hx hI⟩;split<;>first|omega|(simp only[A6,A8,B1];omega)) (fun a _=>h2 a) G (by omega) (by omega)
 rw[show aW f N0 (0,G)=_ from this];have gen:∀(fs:List aG)(i:Nat)(acc:List (List Int)),bX (fun i(f:aG)(a:List (List Int))=>(.inl (if f.F=0 then a++[[(i:Int)]] else a):List (List Int)⊕List (List Int))) (fun a=>a) i fs acc=acc++(eo 0 i fs).map fun i=>[i]:=by
  intro fs;induction fs with
  |nil=>intro i acc;simp[bX,eo]
  | cons f fs ih =>
    intro i acc;simp only[bX];rw[ih (i+1)];rw[lc];split<;>simp
 rw[gen]
def HH{f:Int×List (List Int)->Option ((Int×List (List Int))⊕List (List Int))}(fs:List aG)
 (h1:∀(r:Int)(a:List (List Int)),1<=r->r<=9->a.length<=10->f (r,a)=some (.inl (r+1,if 0<(eo r 0 fs).length then a++[eo r 0 fs] else a)))
 (h2:∀a,f (10,a)=some (.inr a)):aW f N0 (1,[])=some ((ji.map fun r=>eo r 0 fs).filter fun l=>decide (0<l.length)):=by
 have:=dg (f:=f) ji (fun i(a:List (List Int))=>((i:Int)+1,a)) (fun i r a=>.inl (if 0<(eo r 0 fs).length then a++[eo r 0 fs] else a)) (fun a=>a) (fun i a=>a.length<=i) (fun i a r hr hI=>by
  have hi:i<9:=by have:=(A1.1 hr).1;simpa[ji] using this
  have e:(i:Int)+1=r:=by
   rcases i with _|_|_|_|_|_|_|_|_|i<;>first|(simp[ji] at hr;omega)|omega
  refine .inl ⟨_,rfl,?_,?_⟩
  ·split<;>first|omega|(simp only[A6,A8,B1];omega)
  ·rw[e,h1 r a (by omega) (by omega) (by omega)];have:((i+1:Nat):Int)+1=r+1:=by omega
   rw[this]) (fun a _=>by have:=h2 a;simpa[ji] using this) [] (by simp) (by simp[ji])
 rw[show aW f N0 (1,[])=_ from this];have gen:∀(rs:List Int)(i:Nat)(acc:List (List Int)),bX (fun(_:Nat)(r:Int)(a:List (List Int))=>(.inl (if 0<(eo r 0 fs).length then a++[eo r 0 fs] else a):List (List Int)⊕List (List Int))) (fun a=>a) i rs acc=
  acc++(rs.map fun r=>eo r 0 fs).filter fun l=>decide (0<l.length):=by
  intro rs;induction rs with
  |nil=>intro i acc;simp[bX]
  | cons r rs ih =>
    intro i acc;simp only[bX];rw[ih (i+1),E9,List.filter_cons];by_cases h:0<(eo r 0 fs).length
    ·simp[h]
    ·simp[h]
 rw[gen];rfl
def Nd(n:ae)(h:n.F.length<=14):Mq n=some (dK n):=by
 unfold Mq;rw[HH (f:=HV n) n.F (fun r a hr1 hr9 ha=>by
  have e1:decide (r<=9)=true:=by simp[hr9]
  simp only[HV,e1,cond_true];rw[zo (f:=Iw n (r,a)) n.F r (by omega) (fun i x b hx hb=>by
   have hlt:=(A1.1 hx).1;have e1:decide ((i:Int)<n.F.length)=true:=by simp[hlt]
   simp only[Iw,e1,cond_true,aR,hx,A0,bnd];rw[bg (by omega),aA (by omega) (by omega)];by_cases e:x.F=r
   ·simp[e]
   ·simp[e,fg]) (fun a=>by simp[Iw])]
  simp only[A0,bnd];rw[bg (by omega),aA (by omega) (by omega)];by_cases e:0<(eo r 0 n.F).length
  ·have e':decide ((0:Int)<((eo r 0 n.F).length:Int))=true:=by simpa using e
   simp only[e',cond_true,if_pos e,A0]
  ·have e':decide ((0:Int)<((eo r 0 n.F).length:Int))=false:=by simpa using e
   simp only[e',cond_false,if_neg e]) (fun a=>by simp[HV])]
 simp only[A0];have hl:=G2 (fun l:List Int=>decide (0<l.length)) (ji.map fun r=>eo r 0 n.F);have hl9:(ji.map fun r=>eo r 0 n.F).length=9:=rfl;rw[Lm (f:=FY n) n.F _ (by omega) (by omega) (fun i x a hx ha=>by
  have hlt:=(A1.1 hx).1;have e1:decide ((i:Int)<n.F.length)=true:=by simp[hlt]
  simp only[FY,e1,cond_true,aR,hx,A0,bnd];rw[bg (by omega),aA (by omega) (by omega)];by_cases e:x.F=0
  ·simp[e]
  ·simp[e,fg]) (fun a=>by simp[FY])]
 rfl
def Jj(n:ae)(h:n.F.length<=14)(i:Nat)(f:aG)(hf:n.F[i]?=some f)(hr:f.F≠0):Be n (i:Int)=some (eo f.F 0 n.F):=by
 unfold Be;have e:(f.F==0)=false:=by simpa using hr
 simp only[aR,hf,A0,e,cond_false];rw[zo (f:=M_e n (i:Int)) n.F f.F (by omega) (fun j x b hx hb=>by
  have hlt:=(A1.1 hx).1;have e1:decide ((j:Int)<n.F.length)=true:=by simp[hlt]
  simp only[M_e,e1,cond_true,aR,hx,hf,A0,bnd];rw[bg (by omega),aA (by omega) (by omega)];by_cases e:x.F=f.F
  ·simp[e]
  ·simp[e,fg]) (fun a=>by simp[M_e])]
 rfl
end Vs

namespace Vs
open Go
def xW{r:Int}{fs:List aG}(h:fs.length<=14):∀x∈eo r 0 fs,0<=x/\x<14:=by
 intro x hx;obtain⟨j,f,hj,_,rfl⟩:=(pT r fs 0 x).1 hx;have:=(A1.1 hj).1;omega
def CA{n:ae}(h:n.F.length<=14):∀g∈dK n,g.length<=14/\∀x∈g,0<=x/\x<14:=by
 intro g hg;unfold dK at hg;rw[B7] at hg;rcases hg with hg|hg
 ·obtain⟨r,_,rfl⟩:=F8.1 (F9.1 hg).1;exact⟨Nat.le_trans (nj ..) h,xW h⟩
 ·obtain⟨x,hx,rfl⟩:=F8.1 hg;exact⟨by simp,fun y hy=>by rw[C1.1 hy];exact xW h x hx⟩
def Ki{n:ae}(h:bK n=true):∀f∈n.F,f.A<n.N.length/\f.B<n.N.length:=by
 intro f hf;obtain⟨i,hi⟩:=B5 hf;obtain⟨h1,h2,h3⟩:=tP h hi;omega
def iy(n:ae)(e:Int):Int:=match n.F[e.toNat]? with|some f=>f.F|none=>0
def np(n:ae)(e:Int):List Int:=if iy n e=0 then [e] else eo (iy n e) 0 n.F
def nJ(n:ae)(x y:Int):Prop:=x=y\/(iy n x≠0/\iy n x=iy n y)
def iX(n:ae)(e:Int):Prop:=0<=e/\e<(n.F.length:Int)
def wN{n:ae}{e:Int}(h:iX n e):∃f,n.F[e.toNat]?=some f/\iy n e=f.F:=by
 have hlt:e.toNat<n.F.length:=by have:=h.1;have:=h.2;omega
 refine⟨_,A2 hlt,?_⟩;unfold iy;rw[A2 hlt]
def qw{n:ae}{r x:Int}:x∈eo r 0 n.F↔iX n x/\iy n x=r:=by
 rw[pT];constructor
 ·rintro⟨j,f,h1,h2,rfl⟩;have:=(A1.1 h1).1;refine⟨⟨by omega,by omega⟩,?_⟩;unfold iy;rw[show((0+j:Nat):Int).toNat=j by omega,h1];exact h2
 ·rintro⟨h,hr⟩;obtain⟨f,h1,h2⟩:=wN h;exact⟨x.toNat,f,h1,by rw[<-h2];exact hr,by have:=h.1;omega⟩
def mP{n:ae}{x y:Int}(hy:iX n y):y∈np n x↔nJ n x y:=by
 unfold np nJ;by_cases h:iy n x=0
 ·rw[if_pos h,C1];exact⟨fun e=>.inl e.symm,fun e=>e.elim Eq.symm fun q=>(q.1 h).elim⟩
 ·rw[if_neg h,qw];constructor
  ·exact fun q=>.inr ⟨h,q.2.symm⟩
  ·rintro(rfl|q)
   ·exact⟨hy,rfl⟩
   ·exact⟨hy,q.2.symm⟩
def mq{n:ae}{g:List Int}(hg:g∈dK n){x y:Int}(hx:x∈g)(hfx:iX n x)(hfy:iX n y):y∈g↔nJ n x y:=by
 unfold dK at hg;rw[B7] at hg;rcases hg with hg|hg
 ·obtain⟨h1,_⟩:=F9.1 hg;obtain⟨r,hr,rfl⟩:=F8.1 h1;have hr0:r≠0:=by unfold ji at hr;simp at hr;omega
  rw[qw] at hx⊢;unfold nJ;constructor
  ·exact fun q=>.inr ⟨by rw[hx.2];exact hr0,by rw[hx.2,q.2]⟩
  ·rintro(rfl|q)
   ·exact hx
   ·exact⟨hfy,by rw[<-q.2,hx.2]⟩
 ·obtain⟨z,hz,rfl⟩:=F8.1 hg;rw[C1] at hx⊢;subst hx;have h0:=(qw.1 hz).2;unfold nJ;exact⟨fun e=>.inl e.symm,fun e=>e.elim Eq.symm fun q=>(q.1 h0).elim⟩
def Oh{n:ae}(h:bK n=true){x:Int}(hx:iX n x):∃g∈dK n,x∈g:=by
 obtain⟨f,h1,h2⟩:=wN hx;have hf:=tP h h1;obtain⟨_,_,_,_,_,_,_⟩:=hf;unfold dK;by_cases h0:iy n x=0
 ·exact⟨[x],List.mem_append_right _ (F8.2 ⟨x,qw.2 ⟨hx,h0⟩,rfl⟩),by simp⟩
 ·have hm:x∈eo (iy n x) 0 n.F:=qw.2 ⟨hx,rfl⟩;refine⟨_,J0 _ (F9.2 ⟨F8.2 ⟨iy n x,?_,rfl⟩,by simpa using B8 hm⟩),hm⟩;unfold ji;rw[h2] at h0⊢;simp only[C7,List.not_mem_nil,or_false];omega
def nk(n:ae)(e:Int):Int:=match cU (fun _(g:List Int)=>decide (e∈g)) (dK n) with|some q=>(q.1:Int)|none=>-1
def xA{n:ae}(h:bK n=true){x y:Int}(hx:iX n x)(hy:iX n y):nk n x=nk n y↔nJ n x y:=by
 obtain⟨g,hg,hm⟩:=Oh h hx;constructor
 ·intro e;unfold nk at e;cases hf:cU (fun _(g:List Int)=>decide (x∈g)) (dK n) with
  | none =>
    obtain⟨i,hi⟩:=B5 hg;have:=ef.1 hf i g hi;simp[hm] at this
  | some q =>
    obtain⟨i,gx⟩:=q;obtain⟨k1,k2,_⟩:=cT.1 hf;rw[hf] at e;cases hf2:cU (fun _(g:List Int)=>decide (y∈g)) (dK n) with
    |none=>rw[hf2] at e;simp only at e;omega
    | some q2 =>
      obtain⟨j,gy⟩:=q2;obtain⟨m1,m2,_⟩:=cT.1 hf2;rw[hf2] at e;have hij:i=j:=by simp only at e;omega
      subst hij;rw[k1] at m1;cases m1;exact(mq (A3 k1) (by simpa using k2) hx hy).1 (by simpa using m2)
 ·intro e;have e':nJ n y x:=e.elim (fun q=>.inl q.symm) fun q=>.inr ⟨by rw[<-q.2];exact q.1,q.2.symm⟩;have key:∀g∈dK n,(x∈g↔y∈g):=fun g hg=>⟨fun q=>(mq hg q hx hy).2 e,fun q=>(mq hg q hy hx).2 e'⟩;have:cU (fun _(g:List Int)=>decide (y∈g)) (dK n)=cU (fun _(g:List Int)=>decide (x∈g)) (dK n):=by
   cases hf:cU (fun _(g:List Int)=>decide (x∈g)) (dK n) with
   | none =>
     rw[ef] at hf⊢;intro i z hz;have:=hf i z hz;simp only[decide_eq_false_iff_not] at this⊢;exact fun q=>this ((key z (A3 hz)).2 q)
   | some q =>
     obtain⟨i,gx⟩:=q;rw[cT] at hf⊢;obtain⟨k1,k2,k3⟩:=hf;simp only[decide_eq_true_eq,decide_eq_false_iff_not] at k2 k3⊢;exact⟨k1,(key gx (A3 k1)).1 k2,fun j z hj hz q=>k3 j z hj hz ((key z (A3 hz)).2 q)⟩
  unfold nk;rw[this]
def apP(n:ae)(a b:List Int):Bool:=!a.any fun x=>b.any fun y=>decide (y∈np n x)
def IJ{n:ae}(h:bK n=true){a b:List Int}(ha:∀x∈a,iX n x)(hb:∀x∈b,iX n x):(!(a.map (nk n)).any fun x=>decide (x∈b.map (nk n)))=apP n a b:=by
 unfold apP;congr 1;rw[C5];simp only[D7,F8,decide_eq_true_eq];constructor
 ·rintro⟨_,⟨x,hx,rfl⟩,y,hy,e⟩;exact⟨x,hx,y,hy,(mP (hb y hy)).2 ((xA h (ha x hx) (hb y hy)).1 e.symm)⟩
 ·rintro⟨x,hx,y,hy,e⟩;exact⟨_,⟨x,hx,rfl⟩,y,hy,((xA h (ha x hx) (hb y hy)).2 ((mP (hb y hy)).1 e)).symm⟩
end Vs

namespace Vs
open Go
def jm(f:aG)(v:Int):Int:=if v=f.A then f.B else if v=f.B then f.A else -1
def cL(n:ae)(e v:Int):Int:=match n.F[e.toNat]? with|some f=>jm f v|none=>-1
end Vs

namespace Vs
open Go
theorem pH(l:List Int)(x:Int)(hl:l.length<=1048576):wO l x=some (l.any fun y=>y==x):=by
 unfold wO;rw[gT (f:=GH l x) l (fun y=>y==x) (.inr true) (.inl ()) (fun i y hy=>by
  have hlt:=(A1.1 hy).1;have h1:decide ((i:Int)<l.length)=true:=by simp[hlt]
  simp only[GH,h1,cond_true,aR,hy,A0];rw[aA (by omega) (by omega)];cases y==x<;>rfl) (by simp[GH]) (by omega)]
 cases l.any fun y=>y==x<;>rfl
def sq{n:ae}{e:Int}(h:wi e 0 ((n.F.length:Int)-1)=true):∃f,bE n.F e=some f/\n.F[e.toNat]?=some f:=by
 rw[cD] at h;have hlt:e.toNat<n.F.length:=by omega
 refine⟨n.F[e.toNat],?_,A2 hlt⟩;have h3:=aR n.F e.toNat;rw[Int.toNat_of_nonneg h.1] at h3;rw[h3];exact A2 hlt
theorem ur(n:ae)(e v:Int)(h:wi e 0 ((n.F.length:Int)-1)=true):Bo n e v=some (cL n e v):=by
 obtain⟨f,h1,h2⟩:=sq h;unfold Bo cL jm;rw[h1,h2];simp only[A0];by_cases a:v=f.A
 ·rw[show(v==f.A)=true from by simpa using a,cond_true,if_pos a]
 ·rw[show(v==f.A)=false from by simpa using a,cond_false,if_neg a];by_cases b:v=f.B
  ·rw[show(v==f.B)=true from by simpa using b,cond_true,if_pos b]
  ·rw[show(v==f.B)=false from by simpa using b,cond_false,if_neg b]
end Vs

namespace Vs
open Go
theorem wo(xs:List Int)(v:Int)(hl:xs.length<=1048576):Co xs v=some (decide (v∈xs)):=by
 unfold Co UG;rw[dh (f:=Gf xs v) xs (fun _ x=>v==x) (fun i _=>(i:Int)) () (fun i x hx _=>by
  have hlt:=(A1.1 hx).1;have h1:decide ((i:Int)<xs.length)=true:=by simp[hlt]
  simp only[Gf,h1,cond_true,aR,hx,A0];rw[aA (by omega) (by omega)];cases v==x<;>rfl) (by simp[Gf]) (by omega)]
 cases e:cU (fun _ x=>v==x) xs with
 | none =>
   have:=ef.1 e;have h:¬v∈xs:=fun hm=>by
    obtain⟨i,hi⟩:=B5 hm;have:=this i v hi;simp at this
   rw[decide_eq_false h];rfl
 | some q =>
   obtain⟨i,x⟩:=q;obtain⟨h1,h2,_⟩:=cT.1 e;have h:v∈xs:=by
    have:=eq_of_beq h2;rw[this];exact A3 h1
   rw[decide_eq_true h];simp
theorem ro(f:aG)(v:Int):AJ f v=some (jm f v):=by
 unfold AJ jm;by_cases a:v=f.A
 ·rw[show(v==f.A)=true from by simpa using a,cond_true,if_pos a]
 ·rw[show(v==f.A)=false from by simpa using a,cond_false,if_neg a];by_cases b:v=f.B
  ·rw[show(v==f.B)=true from by simpa using b,cond_true,if_pos b]
  ·rw[show(v==f.B)=false from by simpa using b,cond_false,if_neg b]
theorem pG(l:List Int)(e:Int):decide (e∈l)=l.any fun x=>x==e:=by
 rw[C5,decide_eq_true_iff,D7];constructor
 ·intro h;exact⟨e,h,by simp⟩
 ·rintro⟨x,hx,he⟩;rw[<-eq_of_beq he];exact hx
end Vs

namespace Vs
open Go
theorem og{α A B C:Type}(s1:Nat->α->A->A⊕B)(s2:Nat->α->A->A⊕C)(f1:A->B)(f2:A->C)(R:B->C->Prop)(h:∀i x a,(∃a',s1 i x a=.inl a'/\s2 i x a=.inl a')\/∃b c,s1 i x a=.inr b/\s2 i x a=.inr c/\R b c)(hf:∀a,R (f1 a) (f2 a)):
 ∀(xs:List α)(i:Nat)(a:A),R (bX s1 f1 i xs a) (bX s2 f2 i xs a)
 |[],_,a=>hf a
 | x :: xs, i, a => by
   simp only[bX];rcases h i x a with⟨a',h1,h2⟩|⟨b,c,h1,h2,h3⟩
   ·rw[h1,h2];exact og s1 s2 f1 f2 R h hf xs (i+1) a'
   simp_all
def rF(n:ae)(e:Int)(a:Int×List Int):Bool:=!wi e 0 ((n.F.length:Int)-1)||decide (cL n e a.1<0)||decide (cL n e a.1∈a.2)
def oh(n:ae)(_:Nat)(e:Int)(a:Int×List Int):(Int×List Int)⊕Option (List Int):=if rF n e a then .inr none else .inl (cL n e a.1,a.2++[cL n e a.1])
def im(n:ae)(r:ai):Option (List Int):=if !wi r.N 0 ((n.N.length:Int)-1)||decide (r.F.length=0) then none else bX (oh n) (fun a=>some a.2) 0 r.F (r.N,[r.N])
def Sv(n:ae)(_:Nat)(e:Int)(a:Int×List Int):(Int×List Int)⊕((List Int)⊕(List Int×Bool)):=if rF n e a then .inr (.inr ([],false)) else .inl (cL n e a.1,a.2++[cL n e a.1])
def RG(n:ae)(_:Nat)(e:Int)(a:Int×List Int):(Int×List Int)⊕((List Int)⊕(List Int×Bool)):=if rF n e a then .inr (.inr (a.2,false)) else .inl (cL n e a.1,a.2++[cL n e a.1])
theorem YB(l:List Int):((l.length:Int)==0)=decide (l.length=0):=by
 grind
theorem tU(n:ae)(r:ai)(hN:n.N.length<=1048576)(hF:n.F.length<=1048576)(hr:r.F.length<=1048576):Gm n r=some (match im n r with|some l=>(l,true)|none=>([],false)):=by
 unfold Gm im;simp only[dY,A0,YB];rw[aA (n:=(n.N.length:Int)-1) (by omega) (by omega)];have hc:(cond (!wi r.N 0 ((n.N.length:Int)-1)) (some true) (some (decide (r.F.length=0))):Option Bool)=some (!wi r.N 0 ((n.N.length:Int)-1)||decide (r.F.length=0)):=by
  cases wi r.N 0 ((n.N.length:Int)-1)<;>rfl
 rw[hc];simp only[A0];rcases bt (!wi r.N 0 ((n.N.length:Int)-1)||decide (r.F.length=0)) with e|e
 ·rw[e];rfl
 rw[e];simp only[cond_false,bnd,C0,if_false];have key:=dg (f:=Ir n r) r.F (fun i(a:Int×List Int)=>(a.1,(i:Int),a.2)) (Sv n) (fun a=>.inl a.2) (fun i a=>a.2.length=i+1) (fun i a x hx hI=>by
  have hlt:=(A1.1 hx).1;have h1:decide ((i:Int)<r.F.length)=true:=by simp[hlt]
  simp only[Ir,h1,cond_true,aR,hx,A0,dY];rw[aA (n:=(n.F.length:Int)-1) (by omega) (by omega),aA (n:=(i:Int)+1) (by omega) (by omega)];unfold Sv rF;rcases bt (wi x 0 ((n.F.length:Int)-1)) with e1|e1
  ·obtain⟨f,f1,f2⟩:=sq e1;have ho:cL n x a.1=jm f a.1:=by unfold cL;rw[f2]
   simp only[e1,A7,cond_false,f1,A0,ro,<-ho,wo a.2 (cL n x a.1) (by omega),E4];by_cases h3:cL n x a.1<0
   ·simp_all
   ·by_cases h4:cL n x a.1∈a.2
    ·simp_all
    ·refine .inl ⟨(cL n x a.1,a.2++[cL n x a.1]),by simp[h3,h4],by simp[hI],?_⟩;simp only[decide_eq_false h3,decide_eq_false h4,cond_false,A0,bnd]
     grind [bg]
  simp_all) (fun a _=>by simp[Ir]) (r.N,[r.N]) rfl (by omega)
 have e0:((0:Nat):Int)=0:=rfl;simp only[e0] at key;rw[key];have:=og (oh n) (Sv n) (fun a=>some a.2) (fun a=>(.inl a.2:(List Int)⊕(List Int×Bool))) (fun b c=>match b with|some l=>c=.inl l|none=>c=.inr ([],false)) (fun i x a=>by
  unfold oh Sv;cases rF n x a
  ·exact .inl ⟨_,rfl,rfl⟩
  ·exact .inr ⟨_,_,rfl,rfl,rfl⟩) (fun a=>rfl) r.F 0 (r.N,[r.N])
 grind
def ye(n:ae)(r:ai)(hN:n.N.length<=1048576)(hF:n.F.length<=1048576)(hr:r.F.length<=1048576):∃o,JK n r=some (o,(im n r).isSome)/\∀l,im n r=some l->o=l:=by
 unfold JK im;simp only[iR,A0,YB,bnd];rw[aA (n:=(n.N.length:Int)-1) (by omega) (by omega)];have hc:(cond (!wi r.N 0 ((n.N.length:Int)-1)) (some true) (some (decide (r.F.length=0))):Option Bool)=some (!wi r.N 0 ((n.N.length:Int)-1)||decide (r.F.length=0)):=by
  cases wi r.N 0 ((n.N.length:Int)-1)<;>rfl
 rw[hc];simp only[A0];rcases bt (!wi r.N 0 ((n.N.length:Int)-1)||decide (r.F.length=0)) with e|e
 ·rw[e];exact⟨[r.N],rfl,fun l h=>by simp at h⟩
 rw[e];simp only[cond_false,C0,if_false];have key:=dg (f:=M_z n r) r.F (fun i(a:Int×List Int)=>((i:Int),a.2)) (RG n) (fun a=>.inl a.2) (fun i a=>a.2.length=i+1/\a.2[i]?=some a.1) (fun i a x hx hI=>by
  have hlt:=(A1.1 hx).1;have h1:decide ((i:Int)<r.F.length)=true:=by simp[hlt]
  simp only[M_z,h1,cond_true,aR,hx,A0,iR];have hl1:A4 .i64 ((a.2.length:Int)-1)=(i:Int):=by rw[aA (by omega) (by omega)];omega
  rw[aA (n:=(n.F.length:Int)-1) (by omega) (by omega),aA (n:=(i:Int)+1) (by omega) (by omega),hl1];unfold RG rF;rcases bt (wi x 0 ((n.F.length:Int)-1)) with e1|e1
  ·simp only[e1,A7,cond_false,A0,E4,A5,hI.2];rw[bg (by omega)];simp only[A0,ur n x a.1 e1,pH a.2 (cL n x a.1) (by omega)];have hm:(a.2.any fun y=>y==cL n x a.1)=decide (cL n x a.1∈a.2):=by
    rw[C5];simp
   rw[hm];by_cases h3:cL n x a.1<0
   ·exact .inr ⟨_,by simp[h3];rfl,by simp[h3]⟩
   ·by_cases h4:cL n x a.1∈a.2
    ·exact .inr ⟨_,by simp[h4];rfl,by simp[h3,h4]⟩
    ·refine .inl ⟨(cL n x a.1,a.2++[cL n x a.1]),by simp[h3,h4],⟨by simp[hI.1],by rw[<-hI.1];simp⟩,?_⟩;simp only[decide_eq_false h3,decide_eq_false h4,cond_false,A0];rw[bg (by omega)];rfl
  ·exact .inr ⟨_,by simp[e1];rfl,by simp[e1]⟩) (fun a _=>by simp[M_z]) (r.N,[r.N]) ⟨rfl,rfl⟩ (by omega)
 have e0:((0:Nat):Int)=0:=rfl;simp only[e0] at key;rw[key];have:=og (oh n) (RG n) (fun a=>some a.2) (fun a=>(.inl a.2:(List Int)⊕(List Int×Bool))) (fun b c=>match b with|some l=>c=.inl l|none=>∃o,c=.inr (o,false)) (fun i x a=>by
  unfold oh RG;cases rF n x a
  ·exact .inl ⟨_,rfl,rfl⟩
  ·exact .inr ⟨_,_,rfl,rfl,_,rfl⟩) (fun a=>rfl) r.F 0 (r.N,[r.N])
 revert this
 generalize bX (RG n) (fun a=>(.inl a.2:(List Int)⊕(List Int×Bool))) 0 r.F (r.N,[r.N])=c;cases bX (oh n) (fun a=>some a.2) 0 r.F (r.N,[r.N]) with
 |none=>rintro⟨o,h⟩;rw[h];exact⟨o,rfl,fun l h=>by cases h⟩
 |some l=>intro h;rw[h];exact⟨l,rfl,fun l' h=>by cases h;rfl⟩
def RZ(n:ae)(r:ai):Bool:=bK n&&(im n r).isSome
def Mg(n:ae)(r:ai)(hz:bd n<=1048576)(hr:r.F.length<=1048576):CB n r=some (RZ n r):=by
 obtain⟨h1,h2,_⟩:=Sa hz;unfold CB RZ;rw[rM n hz];simp only[A0];rcases bt (bK n) with e|e
 ·obtain⟨o,o1,_⟩:=ye n r (by omega) (by omega) hr
  simp_all
 ·rw[e];rfl
theorem uI{n:ae}(hE:∀f∈n.F,f.A<n.N.length/\f.B<n.N.length):∀(xs:List Int)(i:Nat)(a:Int×List Int)(l:List Int),bX (oh n) (fun a=>some a.2) i xs a=some l->a.2.Nodup->(∀v∈a.2,0<=v/\v<(n.N.length:Int))->a.1∈a.2->
 l.Nodup/\(∀v∈l,0<=v/\v<(n.N.length:Int))/\l.length=a.2.length+xs.length/\(∀e∈xs,0<=e/\e<(n.F.length:Int))/\xs.Nodup/\∀e∈xs,∀f,n.F[e.toNat]?=some f->¬(f.A∈a.2/\f.B∈a.2)
 |[],_,a,l,h,hd,hv,_=>by simp_all [Option.some.injEq,bX]
 | x :: xs, i, a, l, h, hd, hv, ha => by
   simp only[bX,oh] at h;rcases bt (rF n x a) with e|e
   ·rw[e] at h;cases h
   ·rw[e] at h;simp only[C0,if_false] at h;simp only[rF,C2,E6,decide_eq_false_iff_not,cD] at e;obtain⟨⟨e1,e2⟩,e3⟩:=e;have hi:x.toNat<n.F.length:=by omega
    have hf:=hE _ (H6 hi);have hg:=A2 hi;generalize n.F[x.toNat]=f at hf hg;have ho:cL n x a.1=jm f a.1:=by unfold cL;rw[hg]
    have hend:(f.A=a.1/\f.B=cL n x a.1)\/(f.B=a.1/\f.A=cL n x a.1):=by
     rw[ho] at e2⊢;unfold jm at e2⊢;split
     ·omega
     ·omega
    have hlt:cL n x a.1<n.N.length:=by omega
    obtain⟨g1,g2,g3,g4,g5,g6⟩:=uI hE xs (i+1) _ l h (by
     grind) (fun v hv2=>by
     grind) (by simp)
    refine⟨g1,g2,by rw[g3];simp;omega,fun e he=>?_,List.nodup_cons.2 ⟨fun hm=>?_,g5⟩,fun e he f' hf'=>?_⟩
    ·grind
    ·grind
    grind
def Ix{n:ae}{r:ai}(hE:∀f∈n.F,f.A<n.N.length/\f.B<n.N.length){l:List Int}(h:im n r=some l):l.Nodup/\(∀v∈l,0<=v/\v<(n.N.length:Int))/\l.length=r.F.length+1/\(∀e∈r.F,0<=e/\e<(n.F.length:Int))/\r.F.Nodup:=by
 unfold im at h;split at h
 ·cases h
 ·rename_i hc;simp only[K4,E0,decide_eq_true_eq,not_or,Bool.not_eq_false,cD] at hc;obtain⟨g1,g2,g3,g4,g5,_⟩:=uI hE _ _ _ _ h (by simp) (fun v hv=>by grind) (by simp)
  grind
theorem nB:∀(m:Nat)(l:List Int),l.Nodup->(∀x∈l,0<=x/\x<(m:Int))->l.length<=m
 | 0, l, _, h => by
   cases l with
   |nil=>simp
   |cons x l=>have:=h x (by simp);omega
 | m + 1, l, hn, h => by
   by_cases hm:(m:Int)∈l
   ·have:=nB m (l.erase (m:Int)) (hn.erase _) (fun x hx=>by
     have h1:=(hn.mem_erase_iff).1 hx;have:=h x h1.2;have h3:=h1.1;omega)
    rw[List.length_erase_of_mem hm] at this;omega
   ·have:=nB m l hn (fun x hx=>by
     have:=h x hx;have:x≠(m:Int):=fun e=>hm (e▸hx);omega)
    omega
end Vs

namespace Vs
open Go
def gz(l:List Int)(p:Nat):Int:=(l[p]?).getD 0
def Rq{l:List Int}{p:Nat}(h:p<l.length):l[p]?=some (gz l p):=by
 unfold gz;rw[A2 h];rfl
def Tw(xs:List Int)(h:xs.length<=1048576):∃l,rC xs=some l/\l.Perm xs/\l.Pairwise (·<=·):=YR xs (by omega)
end Vs

namespace Vs
open Go
def VH(a ck:List Int):List Int:=a.filter fun x=>decide (x∈ck)
theorem qC(p:Int->Bool):∀(xs:List Int)(i:Nat)(l:List Int),bX (fun(_:Nat)(x:Int)(l:List Int)=>(.inl (if p x then l++[x] else l):List Int⊕List Int)) (fun l=>l) i xs l=l++xs.filter p
 |[],_,l=>by simp[bX]
 | x :: xs, i, l => by
   simp only[bX];rw[qC p xs (i+1)];by_cases h:p x=true
   ·simp[h]
   ·simp[h]
def aau(a ck:List Int)(ha:a.length<=1048576)(hg:ck.length<=1048576):aW (BZ a ck) N0 (0,[])=some (VH a ck):=by
 have key:=dg (f:=BZ a ck) a (fun i(l:List Int)=>((i:Int),l)) (fun _ x l=>.inl (if decide (x∈ck) then l++[x] else l)) (fun l=>l) (fun i l=>l.length<=i) (fun i l x hx hI=>by
  have hlt:=(A1.1 hx).1;have h1:decide ((i:Int)<a.length)=true:=by simp[hlt]
  refine .inl ⟨_,rfl,by grind,?_⟩;simp only[BZ,h1,cond_true,aR,hx,A0,wo ck x hg,bnd];rw[aA (n:=(i:Int)+1) (by omega) (by omega)];by_cases h:x∈ck
  ·rw[decide_eq_true h,cond_true,bg (by omega),if_pos rfl];rfl
  simp_all) (fun l _=>by simp[BZ]) [] (C9 0) (by omega)
 have e0:((0:Nat):Int)=0:=rfl;simp only[e0] at key;rw[key,qC];rfl
def ddp(ys:List Int):Nat->List Int
 |0=>[]
 |j+1=>if 0<j/\ys[j]?=ys[j-1]? then ddp ys j else ddp ys j++(ys[j]?).toList
theorem pY(ys:List Int):∀k,(∀i,1<=i->i<k->ys[i]?≠ys[i-1]?)->ddp ys k=ys.take k
 |0,_=>by simp[ddp]
 | k + 1, h => by
   unfold ddp;rw[if_neg (fun e=>h k (by omega) (by omega) e.2),pY ys k (fun i h1 h2=>h i h1 (by omega)),E8]
def GO{l:List Int}{k:Nat}(y:Int)(h:k<l.length):(l.set k y).take (k+1)=l.take k++[y]:=by
 rw[E8,D0 h,List.take_set_of_le (C9 k)];rfl
theorem sK{ys:List Int}(hs:ys.Pairwise (·<=·)):∀j,j<=ys.length->(ddp ys j).Pairwise (·<·)/\(∀x∈ddp ys j,∀y,ys[j-1]?=some y->x<=y)/\∀x,x∈ddp ys j↔x∈ys.take j
 |0,_=>by simp[ddp]
 | j + 1, h => by
   obtain⟨h1,h2,h3⟩:=sK hs j (by omega);have hy:ys[j]?=some (ys[j]'(by omega)):=A2 (by omega);generalize ys[j]'(by omega)=y at hy;unfold ddp;rw[E8,hy];by_cases c:0<j/\some y=ys[j-1]?
   ·rw[if_pos c]
    grind [Nat.add_sub_cancel,Option.some.injEq,List.mem_take_iff_getElem,List.getElem?_eq_some_iff,Option.toList_some,List.mem_singleton]
   ·rw[if_neg c];have hlt:∀x∈ddp ys j,x<y:=fun x hx=>by
     by_cases hj:0<j
     ·have hz:ys[j-1]?=some (ys[j-1]'(by omega)):=A2 (by omega);have:=h2 x hx _ hz;have h5:ys[j-1]'(by omega)<=ys[j]'(by omega):=C3.1 hs (j-1) j (by omega) (by omega) (by omega);have h6:ys[j]'(by omega)=y:=(A1.1 hy).2;have h7:ys[j-1]'(by omega)≠y:=fun e=>c ⟨hj,by rw[hz,e]⟩;omega
     ·have:j=0:=by omega
      subst this;simp[ddp] at hx
    grind
def LA(ys:List Int)(hl:ys.length<=1048576)(k0:Nat)(h0:1<=k0)(hk:k0<ys.length)(hd:ddp ys (k0+1)=ys.take k0):
 ∃(k:Nat)(l:List Int),aW (Dd 0 ys.length (k0:Int)) N0 ((k0:Int),1,ys)=some ((k:Int),l)/\l.length=ys.length/\k<=ys.length/\l.take k=ddp ys ys.length:=by
 obtain⟨o,o1,o2⟩:=bT (f:=Dd 0 ys.length (k0:Int)) (fun s=>∃(k k2:Nat)(l:List Int),s=((k:Int),(k2:Int),l)/\1<=k2/\k0+k2<=ys.length/\l.length=ys.length/\k+1<=k0+k2/\(∀p,k0+k2<=p+1->l[p]?=ys[p]?)/\l.take k=ddp ys (k0+k2))
  (fun s=>ys.length-s.2.1.toNat) (fun o=>∃(k:Nat)(l:List Int),o=((k:Int),l)/\l.length=ys.length/\k<=ys.length/\l.take k=ddp ys ys.length) (fun s hI=>by
  obtain⟨k,k2,l,rfl,i1,i2,i3,i4,i5,i6⟩:=hI;by_cases hc:k0+k2<ys.length
  ·left;have e1:decide ((k2:Int)<((ys.length-k0:Nat):Int))=true:=decide_eq_true (by omega);have ew:A4 .i64 ((k2:Int)-1)=((k2-1:Nat):Int):=by rw[aA (by omega) (by omega)];omega
   have g1:l[0+k0+k2]?=some (ys[k0+k2]'hc):=by rw[C6,i5 _ (by omega)];exact A2 hc
   have g2:l[0+k0+(k2-1)]?=some (ys[k0+k2-1]'(by omega)):=by
    rw[show 0+k0+(k2-1)=k0+k2-1 by omega,i5 _ (by omega)];exact A2 (by omega)
   have g3:l[0+k]?=some (l[k]'(by omega)):=by rw[C6];exact A2 (by omega)
   have hddp:ddp ys (k0+k2+1)=if ys[k0+k2]'hc=ys[k0+k2-1]'(by omega) then ddp ys (k0+k2) else ddp ys (k0+k2)++[ys[k0+k2]'hc]:=by
    rw[ddp,A2 hc,A2 (show k0+k2-1<ys.length by omega)];by_cases e:ys[k0+k2]'hc=ys[k0+k2-1]'(by omega)
    ·rw[if_pos ⟨by omega,by rw[e]⟩,if_pos e]
    ·rw[if_neg (fun q=>e (Option.some.inj q.2)),if_neg e];rfl
   simp only[Dd,A5,e1,cond_true,ew,g1,g2,g3];rw[bg (by omega),bg (by omega),bg (by omega)];simp only[A0,bnd];rw[aA (n:=(k:Int)+1) (by omega) (by omega),aA (n:=(k2:Int)+1) (by omega) (by omega)];by_cases e:ys[k0+k2]'hc=ys[k0+k2-1]'(by omega)
   ·rw[if_pos e] at hddp;rw[show(ys[k0+k2]'hc !=ys[k0+k2-1]'(by omega))=false by simpa using e,cond_false];exact⟨_,rfl,⟨k,k2+1,l,by simp,by omega,by omega,i3,by omega,fun p hp=>i5 p (by omega),by rw[show k0+(k2+1)=k0+k2+1 by omega,hddp];exact i6⟩,by simp only[];omega⟩
   ·rw[if_neg e] at hddp;rw[show(ys[k0+k2]'hc !=ys[k0+k2-1]'(by omega))=true by simpa using e,cond_true];refine⟨_,rfl,⟨k+1,k2+1,l.set k (ys[k0+k2]'hc),by simp,by omega,by omega,by simpa using i3,by omega,fun p hp=>?_,?_⟩,by simp only[];omega⟩
    ·rw[List.getElem?_set_ne (by omega)];exact i5 p (by omega)
    ·rw[show k0+(k2+1)=k0+k2+1 by omega,hddp,GO _ (by omega),i6]
  ·right;have e1:decide ((k2:Int)<((ys.length-k0:Nat):Int))=false:=decide_eq_false (by omega);refine⟨_,by simp only[Dd,A5,e1,cond_false],k,l,rfl,i3,by omega,?_⟩;rw[i6,show k0+k2=ys.length by omega]) N0 ((k0:Int),((1:Nat):Int),ys) ⟨k0,1,ys,rfl,by omega,by omega,rfl,by omega,fun p _=>rfl,hd.symm⟩ (dm (by simp;omega))
 obtain⟨k,l,rfl,q1,q2,q3⟩:=o2;exact⟨k,l,o1,q1,q2,q3⟩
def Hg(ys:List Int)(hl:ys.length<=1048576):∃k l,Oo 0 ys.length ys=some (0,k,l)/\gw l 0 k=ddp ys ys.length:=by
 unfold Oo;by_cases h:(ys.length:Int)<2
 ·rw[decide_eq_true h,cond_true];refine⟨_,_,rfl,?_⟩;rw[dE,pY ys _ (fun i h1 h2=>by omega),K1]
 rw[decide_eq_false h,cond_false];obtain⟨o,o1,o2⟩:=bT (f:=Ii 0 ys.length ys) (fun s=>∃i:Nat,s=i/\1<=i/\i<=ys.length/\ddp ys i=ys.take i) (fun s=>ys.length-s.toNat)
  (fun o=>(o=.inl ()/\ddp ys ys.length=ys)\/∃k l,o=.inr (0,k,l)/\gw l 0 k=ddp ys ys.length) (fun s hI=>by
  obtain⟨i,rfl,h1,h2,h3⟩:=hI;by_cases hi:i<ys.length
  ·have e1:decide ((i:Int)<(ys.length:Int))=true:=decide_eq_true (by omega);have ew:A4 .i64 ((i:Int)-1)=((i-1:Nat):Int):=by rw[aA (by omega) (by omega)];omega
   have g1:ys[0+i]?=some (ys[i]'hi):=by rw[C6];exact A2 hi
   have g2:ys[0+(i-1)]?=some (ys[i-1]'(by omega)):=by rw[C6];exact A2 (by omega)
   simp only[Ii,e1,cond_true,A5,g1,ew,g2];rw[bg (by omega),bg (by omega)];simp only[A0];by_cases e:ys[i]'hi=ys[i-1]'(by omega)
   ·right;have hd:ddp ys (i+1)=ys.take i:=by
     rw[ddp,if_pos ⟨by omega,by rw[A2 hi,A2 (show i-1<ys.length by omega),e]⟩,h3]
    obtain⟨k,l,k1,k2,k3,k4⟩:=LA ys hl i h1 hi hd;rw[show(ys[i]'hi==ys[i-1]'(by omega))=true by simpa using e,cond_true];simp only[A5,and_true,true_and];rw[bg (by omega)];simp only[A0,k1,bnd,A5,and_true,true_and];rw[bg (by omega)];simp only[A0];refine⟨_,rfl,.inr ⟨k,_,rfl,?_⟩⟩;rw[<-k4,iU,K6];unfold en;rw[if_pos (by simp;omega),C6];rw[B0,List.take_append_of_le_length (by simp;omega),List.take_take,Nat.min_self]
   ·left;rw[show(ys[i]'hi==ys[i-1]'(by omega))=false by simpa using e,cond_false,aA (by omega) (by omega)];refine⟨_,rfl,⟨i+1,rfl,by omega,by omega,?_⟩,by omega⟩;rw[ddp,if_neg (fun q=>e (by
     have:=q.2;rw[A2 hi,A2 (show i-1<ys.length by omega)] at this;exact Option.some.inj this)),h3,E8]
  ·right;have e1:decide ((i:Int)<(ys.length:Int))=false:=decide_eq_false (by omega);refine⟨_,by simp only[Ii,e1,cond_false],.inl ⟨rfl,?_⟩⟩;rw[show ys.length=i by omega,h3,show i=ys.length by omega,K1]) N0 ((1:Nat):Int) ⟨1,rfl,by omega,by omega,by
    rw[pY ys 1 (fun i h1 h2=>by omega)]⟩ (dm (by simp;omega))
 have e1:((1:Nat):Int)=1:=rfl;rw[e1] at o1;rw[o1];rcases o2 with⟨rfl,q⟩|⟨k,l,rfl,q⟩
 ·exact⟨_,_,rfl,by rw[dE,q]⟩
 ·exact⟨k,l,rfl,q⟩
def yV(a ck:List Int)(ha:a.length<=12)(hg:ck.length<=1048576):∃l,HE a ck=some l/\l.Pairwise (·<·)/\∀x,x∈l↔x∈a/\x∈ck:=by
 unfold HE;have hc:(VH a ck).length<=a.length:=G2 ..;rw[aau a ck (by omega) hg];simp only[A0];obtain⟨l,l1,l2,l3⟩:=Tw (VH a ck) (by omega);have hln:=l2.length_eq;obtain⟨k,l',k1,k2⟩:=Hg l (by omega);rw[l1];simp only[A0];rw[<-hln,k1];simp only[A0,bnd,k2];obtain⟨s1,_,s3⟩:=sK l3 l.length (C9 _);refine⟨_,rfl,s1,fun x=>?_⟩
 grind [List.take_length,VH]
def Di(a ck:List Int):Bool:=!a.any fun x=>decide (x∈ck)
theorem Fn{a ck l:List Int}(h:∀x,x∈l↔x∈a/\x∈ck):((l.length:Int)==0)=Di a ck:=by
 rw[C5];simp only[beq_iff_eq,Di,E0,H1,decide_eq_true_eq];constructor
 ·grind
 ·intro hn;cases l with
  |nil=>rfl
  |cons x l=>exact(hn x ((h x).1 (by simp)).1 ((h x).1 (by simp)).2).elim
theorem adh{a ck l:List Int}(h:∀x,x∈l↔x∈a/\x∈ck):decide ((0:Int)<(l.length:Int))=!Di a ck:=by
 rw[<-Fn h,C5]
 grind
end Vs

namespace Vs
open Go
def iW(b:aH):Bool:=wi b.N 0 23&&wi b.F 1 (24-b.N)
theorem Nz(b:aH):FW b=some (iW b):=by
 unfold FW iW;simp only[iR,A0];rcases bt (wi b.N 0 23) with e|e
 ·have:=cD.1 e;rw[e,cond_true,aA (by omega) (by omega),B4]
 ·rw[e];rfl
theorem qH(b:aH):Hb b=some (iW b):=by
 unfold Hb iW;simp only[dY,A0];by_cases h1:0<=b.N
 ·rw[decide_eq_true h1,cond_true];rcases bt (wi b.F 1 24) with e|e
  ·have:=cD.1 e;rw[e,cond_true,aA (by omega) (by omega)];congr 1;rw[C5];simp only[decide_eq_true_eq,B2,cD];omega
  ·rw[e,cond_false];congr 1;symm;rw[J8];intro h;simp only[B2,cD] at h;have:=qe.1 e;omega
 ·rw[decide_eq_false h1,cond_false];congr 1;symm;rw[J8];intro h;simp only[B2,cD] at h;omega
def hM(b:aH):Prop:=(0<=b.N/\b.N<=24)/\0<=b.F/\b.F<=24
def Cp{b:aH}(h:iW b=true):hM b:=by
 unfold iW at h;simp only[B2,cD] at h;unfold hM;omega
def oK(b:aH):Int:=A4 .i64 ((A4 .i64 ((A4 .i64 (1*2^(min (C4 b.F) (D4 .i64))))-1))*2^(min (C4 b.N) (D4 .i64)))
theorem xk{b:aH}(h:hM b):Iy b=some (oK b):=by
 unfold Iy;rw[bg h.2.1];simp only[A0];rw[bg h.1.1];rfl
theorem zl{b:aH}(h:hM b):Jm b=some (oK b):=by
 unfold Jm;have h1:=h.1;have h2:=h.2;rw[vI (n:=b.F) (by omega) (by omega),vI (n:=b.N) (by omega) (by omega),bg h2.1];simp only[A0];rw[bg h1.1];rfl
def Ya{b:aH}(h:b.F=0):oK b=0:=by
 unfold oK;have:A4 .i64 (1*2^(min (C4 b.F) (D4 .i64)))=1:=by rw[h];rfl
 rw[this];have:A4 .i64 (1-1:Int)=0:=rfl;rw[this,Int.zero_mul];rfl
def and0(y:Int):bits .and .i64 0 y=0:=by
 show A4 .i64 ((BitVec.ofInt 64 0 &&& BitVec.ofInt 64 y).toNat:Int)=0;have:BitVec.ofInt 64 0=0#64:=rfl;rw[this,BitVec.zero_and];rfl
def Bg(x y:Int):bits .and .i64 x y=bits .and .i64 y x:=by
 show A4 .i64 ((BitVec.ofInt 64 x &&& BitVec.ofInt 64 y).toNat:Int)=A4 .i64 ((BitVec.ofInt 64 y &&& BitVec.ofInt 64 x).toNat:Int);rw[BitVec.and_comm]
theorem KO(r:ai)(g:List Int)(hr:r.F.length<=1048576)(hg:g.length<=1048576):LN r g=some (!Di r.F g):=by
 unfold LN;rw[gT (f:=Ge r g) r.F (fun x=>decide (x∈g)) (.inr true) (.inl ()) (fun i y hy=>by
  have hlt:=(A1.1 hy).1;have h1:decide ((i:Int)<r.F.length)=true:=by simp[hlt]
  simp only[Ge,h1,cond_true,aR,hy,A0,pH g y hg,<-pG];rw[aA (by omega) (by omega)];cases decide (y∈g)<;>rfl) (by simp[Ge]) (by omega)]
 unfold Di;rw[L7];cases(r.F.any fun x=>decide (x∈g))<;>rfl
def fT(a:ai)(x:aH)(b:ai)(y:aH):Bool:=(bits .and .i64 (oK x) (oK y) !=0)&&!Di a.F b.F
theorem kO(a:ai)(x:aH)(b:ai)(y:aH)(ha:a.F.length<=12)(hb:b.F.length<=1048576)(hx:hM x)(hy:hM y):AB a x b y=some (fT a x b y):=by
 unfold AB WF fT;obtain⟨l,l1,_,l3⟩:=yV a.F b.F ha hb;simp only[xk hx,xk hy,A0,l1,adh l3];cases bits .and .i64 (oK x) (oK y) !=0<;>rfl
theorem jI(a:ai)(x:aH)(b:ai)(y:aH)(ha:a.F.length<=1048576)(hb:b.F.length<=1048576)(hx:hM x)(hy:hM y):xG a x b y=some (fT a x b y):=by
 unfold xG fT;simp only[KO a b.F ha hb,zl hx,zl hy,A0];have h1:=hx.2.1;have h2:=hy.2.1;rcases bt (Di a.F b.F) with e|e
 ·rw[e];simp
 ·rw[e];simp only[D3,cond_true,H4];by_cases c1:0<x.F
  ·rw[decide_eq_true c1,cond_true];by_cases c2:0<y.F
   ·rw[decide_eq_true c2,cond_true]
   ·rw[decide_eq_false c2,cond_false,Ya (b:=y) (by omega),Bg,and0];rfl
  ·rw[decide_eq_false c1,cond_false,Ya (b:=x) (by omega),and0];rfl
def BT(xs:List (List Int))(f:List Int->Option Bool)(p:List Int->Bool)(hf:∀x∈xs,f x=some (p x))(hl:xs.length<=1048576):MQ xs f=some (match cU (fun _ x=>p x) xs with|some q=>(q.1:Int)|none=>-1):=by
 unfold MQ;rw[dh (f:=JI xs f) xs (fun _ x=>p x) (fun i _=>(i:Int)) () (fun i x hx _=>by
  have hlt:=(A1.1 hx).1;have h1:decide ((i:Int)<xs.length)=true:=by simp[hlt]
  simp only[JI,h1,cond_true,aR,hx,A0,hf x (A3 hx)];rw[aA (by omega) (by omega)];cases p x<;>rfl) (by simp[JI]) (by omega)]
 cases cU (fun _ x=>p x) xs<;>rfl
theorem Hk(n:ae)(e:Int)(h:n.F.length<=14):OW n e=some (nk n e):=by
 unfold OW nk;have hg:=CA h;have hK:=Ao n h;rw[Nd n h];simp only[A0];rw[BT (dK n) (fun x0=>IH x0 e) (fun g=>decide (e∈g)) (fun x hx=>by
  unfold IH;rw[wo x e (by have:=(hg x hx).1;omega)];rfl) (by omega)]
 rfl
theorem uf(n:ae)(l:List Int)(h:n.F.length<=14)(hl:l.length<=1048576):Jz n l=some (l.map (nk n)):=by
 unfold Jz;have:=dg (f:=Gz n l) l (fun i(a:List Int)=>((i:Int),a)) (fun _ x a=>.inl (a++[nk n x])) (fun a=>a) (fun i a=>a.length<=i) (fun i a x hx hI=>by
  have hlt:=(A1.1 hx).1;have h1:decide ((i:Int)<l.length)=true:=by simp[hlt]
  refine .inl ⟨_,rfl,by simp;omega,?_⟩;simp only[Gz,h1,cond_true,aR,hx,A0,Hk n x h,bnd];rw[bg (by omega),aA (by omega) (by omega)];rfl) (fun a _=>by simp[Gz]) [] (C9 0) (by omega)
 have e0:((0:Nat):Int)=0:=rfl;simp only[e0] at this;rw[this];have gen:∀(xs:List Int)(i:Nat)(a:List Int),bX (fun(_:Nat) x(a:List Int)=>(.inl (a++[nk n x]):List Int⊕List Int)) (fun a=>a) i xs a=a++xs.map (nk n):=by
  intro xs;induction xs with
  |nil=>intro i a;simp[bX]
  |cons x xs ih=>intro i a;simp only[bX];rw[ih];simp
 rw[gen];rfl
theorem vx(n:ae)(a b:List Int)(h:bK n=true)(ha:a.length<=12)(hb:b.length<=1048576)(fa:∀x∈a,iX n x)(fb:∀x∈b,iX n x):CK n a b=some (apP n a b):=by
 have hn:=(kL h).2.2;unfold CK;obtain⟨l,l1,_,l3⟩:=yV (a.map (nk n)) (b.map (nk n)) (by simpa using ha) (by simpa using hb);simp only[uf n a hn (by omega),uf n b hn hb,A0,l1,Fn l3];rw[<-IJ h fa fb];rfl
theorem Cx(n:ae)(e:Int)(h:n.F.length<=14)(he:iX n e):Be n e=some (np n e):=by
 obtain⟨f,f1,f2⟩:=wN he;have e0:e=(e.toNat:Int):=by have:=he.1;omega
 unfold np;rw[f2];by_cases h0:f.F=0
 ·rw[if_pos h0];unfold Be;have hg:bE n.F e=some f:=by rw[e0,aR];exact f1
  simp only[hg,A0,bnd];rw[show(f.F==0)=true by simpa using h0,cond_true]
 ·rw[if_neg h0];have:=Jj n h e.toNat f f1 h0;rw[<-e0] at this;exact this
theorem ot(n:ae)(a b:ai)(h:n.F.length<=14)(ha:a.F.length<=1048576)(hb:b.F.length<=1048576)(fa:∀x∈a.F,iX n x):Aj n a b=some (apP n a.F b.F):=by
 unfold Aj;rw[gT (f:=JB n a b) a.F (fun x=>b.F.any fun y=>decide (y∈np n x)) (.inr false) (.inl ()) (fun i x hx=>by
  have hlt:=(A1.1 hx).1;have h1:decide ((i:Int)<a.F.length)=true:=by simp[hlt]
  have hgl:(np n x).length<=1048576:=by
   unfold np;split
   ·simp
   ·have:=nj (iy n x) n.F 0;omega
  simp only[JB,h1,cond_true,aR,hx,A0,Cx n x h (fa x (A3 hx))];rw[gT (f:=M_r b (np n x)) b.F (fun y=>decide (y∈np n x)) (.inr false) (.inl ()) (fun j y hy=>by
   have hlt:=(A1.1 hy).1;have h1:decide ((j:Int)<b.F.length)=true:=by simp[hlt]
   simp only[M_r,h1,cond_true,aR,hy,A0,pH (np n x) y hgl,<-pG];rw[aA (by omega) (by omega)];cases decide (y∈np n x)<;>rfl) (by simp[M_r]) (by omega),aA (by omega) (by omega)]
  cases(b.F.any fun y=>decide (y∈np n x))<;>rfl) (by simp[JB]) (by omega)]
 unfold apP;cases(a.F.any fun x=>b.F.any fun y=>decide (y∈np n x))<;>rfl
end Vs

namespace Vs
open Go
theorem El{n:ae}:∀(xs:List Int)(i:Nat)(a:Int×List Int)(l:List Int),bX (oh n) (fun a=>some a.2) i xs a=some l->∃t,l=a.2++t
 |[],_,a,l,h=>by simp only[bX,Option.some.injEq] at h;subst h;exact⟨[],by simp⟩
 | x :: xs, i, a, l, h => by
   simp only[bX,oh] at h;rcases bt (rF n x a) with e|e
   ·rw[e] at h;cases h
   ·rw[e] at h;simp only[C0,if_false] at h;obtain⟨t,ht⟩:=El xs (i+1) _ l h;exact⟨cL n x a.1::t,by rw[ht];simp⟩
def Av{n:ae}{r:ai}{l:List Int}(h:im n r=some l):l[0]?=some r.N:=by
 unfold im at h;split at h
 ·cases h
 ·obtain⟨t,ht⟩:=El _ _ _ _ h;rw[ht];rfl
def pg(n:ae)(r:ai):Int:=match im n r with|some l=>gz l (l.length-1)|none=>0
structure sM(n:ae)(r:ai):Prop where
 len:r.F.length<=12
 fib:∀x∈r.F,iX n x
 nod:r.F.Nodup
theorem jt{n:ae}(h:bK n=true){r:ai}{l:List Int}(hl:im n r=some l):sM n r/\l.length=r.F.length+1:=by
 obtain⟨g1,g2,g3,g4,g5⟩:=Ix (Ki h) hl;have:=nB n.N.length l g1 g2;have:=kL h;exact⟨⟨by omega,g4,g5⟩,g3⟩
theorem Ei{n:ae}{r:ai}{l:List Int}(h:bK n=true)(hr:r.F.length<=1048576)(hl:im n r=some l):FD n r=some (pg n r):=by
 have hb:=kL h;obtain⟨o,o1,o2⟩:=ye n r (by omega) (by omega) hr;obtain rfl:=o2 l hl;obtain⟨hi,hlen⟩:=jt h hl;have:=hi.len;unfold FD VB pg;rw[o1,hl];simp only[A0];have e:A4 .i64 ((o.length:Int)-1)=((o.length-1:Nat):Int):=by rw[aA (by omega) (by omega)];omega
 rw[e,bg (by omega)];simp only[A0,A5];rw[Rq (by omega)];rfl
def jT(n:ae)(s:af):Bool:=
 (wi s.Id 1 999&&wi s.W 0 2&&(im n s.N).isSome&&iW s.P)&&
 (if s.W=0 then decide (s.F.N=0)&&decide (s.F.F.length=0)&&(s.L.N==0&&s.L.F==0)
  else(im n s.F).isSome&&iW s.L&&decide (s.F.N=s.N.N)&&decide (pg n s.F=pg n s.N)&&apP n s.N.F s.F.F)
structure eA(n:ae)(s:af):Prop where
 wr:sM n s.N
 sr:sM n s.F
 wb:hM s.P
 sb:hM s.L
def vS{n:ae}{s:af}(h:bK n=true)(hs:jT n s=true):eA n s:=by
 unfold jT at hs;simp only[B2] at hs;obtain⟨⟨⟨_,h3⟩,h4⟩,h5⟩:=hs;obtain⟨l,hl⟩:=D9.1 h3;by_cases c:s.W=0
 ·rw[if_pos c] at h5;simp only[B2,decide_eq_true_eq,beq_iff_eq] at h5;obtain⟨⟨k1,k2⟩,k3,k4⟩:=h5;have k2:s.F.F=[]:=E3.1 k2;exact⟨(jt h hl).1,⟨by rw[k2];simp,by rw[k2];simp,by rw[k2];simp⟩,Cp h4,by unfold hM;omega⟩
 ·rw[if_neg c] at h5;simp only[B2] at h5;obtain⟨⟨⟨⟨k1,k2⟩,_⟩,_⟩,_⟩:=h5;obtain⟨l2,hl2⟩:=D9.1 k1;exact⟨(jt h hl).1,(jt h hl2).1,Cp h4,Cp k2⟩
theorem c4(a b c d:Bool):(cond (!a) (some true) (cond (!b) (some true) (cond (!c) (some true) (some (!d)))):Option Bool)=some (!(a&&b&&c&&d)):=by
 cases a<;>cases b<;>cases c<;>cases d<;>rfl
def c3z(s:af):(cond (s.F.N==0) (cond ((s.F.F.length:Int)==0) (some (s.L.N==0&&s.L.F==0)) (some false)) (some false):Option Bool)=
 some (decide (s.F.N=0)&&decide (s.F.F.length=0)&&(s.L.N==0&&s.L.F==0)):=by
 rw[YB,show(s.F.N==0)=decide (s.F.N=0) from rfl];cases decide (s.F.N=0)<;>cases decide (s.F.F.length=0)<;>rfl
theorem deqI(a b:Int):(a==b)=decide (a=b):=rfl
theorem wT(n:ae)(s:af)(h:bK n=true)(hz:bd n<=1048576)(hw:s.N.F.length<=1048576)(hs:s.F.F.length<=1048576):Mz n s=some (jT n s):=by
 unfold Mz jT;have hr:∀r:ai,r.F.length<=1048576->CB n r=some (im n r).isSome:=fun r hr=>by
  rw[Mg n r hz hr];unfold RZ;rw[h,B4]
 simp only[iR,Nz,hr s.N hw,hr s.F hs,A0,c4];rcases bt (wi s.Id 1 999&&wi s.W 0 2&&(im n s.N).isSome&&iW s.P) with e|e
 ·rw[e];simp only[A7,cond_false,B4];simp only[B2] at e;obtain⟨l,hl⟩:=D9.1 e.1.2;by_cases c:s.W=0
  ·rw[if_pos c,show(s.W==0)=true by simpa using c,cond_true,c3z];rfl
  ·rw[if_neg c,show(s.W==0)=false by simpa using c,cond_false];cases hl2:im n s.F with
   |none=>rfl
   | some l2 =>
     simp only[G9,cond_true,B4,Ei h hs hl2,Ei h hw hl,A0,ot n s.N s.F (kL h).2.2 hw hs (jt h hl).1.fib,deqI];cases iW s.L<;>cases decide (s.F.N=s.N.N)<;>cases decide (pg n s.F=pg n s.N)<;>rfl
 ·rw[e];rfl
theorem xd(n:ae)(s:af)(h:bK n=true)(hw:s.N.F.length<=1048576)(hs:s.F.F.length<=1048576):Mv n s=some (jT n s):=by
 have hb:=kL h;unfold Mv jT;simp only[dY,qH,tU n s.N (by omega) (by omega) hw,tU n s.F (by omega) (by omega) hs,A0];cases hl:im n s.N with
 | none =>
   have:(wi s.Id 1 999&&wi s.W 0 2&&(none:Option (List Int)).isSome&&iW s.P)=false:=by simp
   rw[this];simp only[c4,J1];cases wi s.Id 1 999<;>cases wi s.W 0 2<;>rfl
 | some l =>
   simp only[c4,G9];rcases bt (wi s.Id 1 999&&wi s.W 0 2&&true&&iW s.P) with e|e
   ·rw[e];simp only[A7,cond_false,B4];by_cases c:s.W=0
    ·rw[if_pos c,show(s.W==0)=true by simpa using c,cond_true,c3z];rfl
    ·rw[if_neg c,show(s.W==0)=false by simpa using c,cond_false];cases hl2:im n s.F with
     |none=>rfl
     | some l2 =>
       obtain⟨i1,n1⟩:=jt h hl;obtain⟨i2,n2⟩:=jt h hl2;have q1:=i1.len;have q2:=i2.len;have e1:A4 .i64 ((l.length:Int)-1)=((l.length-1:Nat):Int):=by rw[aA (by omega) (by omega)];omega
       have e2:A4 .i64 ((l2.length:Int)-1)=((l2.length-1:Nat):Int):=by rw[aA (by omega) (by omega)];omega
       have d1:grd (0<=0/\0<(l.length:Int))=some ():=bg (by omega);have d2:grd (0<=0/\0<(l2.length:Int))=some ():=bg (by omega);have d3:grd (0<=((l.length-1:Nat):Int)/\((l.length-1:Nat):Int)<(l.length:Int))=some ():=bg (by omega);have d4:grd (0<=((l2.length-1:Nat):Int)/\((l2.length-1:Nat):Int)<(l2.length:Int))=some ():=bg (by omega);have g1:l[C4 0]?=some s.N.N:=Av hl;have g2:l2[C4 0]?=some s.F.N:=Av hl2;have g3:l[l.length-1]?=some (pg n s.N):=by unfold pg;rw[hl];exact Rq (by omega)
       have g4:l2[l2.length-1]?=some (pg n s.F):=by unfold pg;rw[hl2];exact Rq (by omega)
       simp only[G9,cond_true,B4,e1,e2,d1,d2,d3,d4,g1,g2,A5,g3,g4,A0,vx n s.N.F s.F.F h i1.len (by omega) i1.fib i2.fib,deqI];cases iW s.L<;>cases decide (s.F.N=s.N.N)<;>cases decide (pg n s.F=pg n s.N)<;>rfl
   ·rw[e];rfl
def fY(n:ae)(a b:af):Bool:=
 !(fT a.N a.P b.N b.P||fT a.N a.P b.F b.L||fT a.F a.L b.N b.P)&&
 ((a.W==2&&b.W==2&&apP n a.N.F b.N.F)||!fT a.F a.L b.F b.L)
def nb(n:ae)(a b:af)(h:bK n=true)(ha:eA n a)(hb:eA n b):Iz n a b=some (fY n a b):=by
 have a1:=ha.wr.len;have a2:=ha.sr.len;have b1:=hb.wr.len;have b2:=hb.sr.len;unfold Iz fY;simp only[kO a.N a.P b.N b.P a1 (by omega) ha.wb hb.wb,kO a.N a.P b.F b.L a1 (by omega) ha.wb hb.sb,kO a.F a.L b.N b.P a2 (by omega) ha.sb hb.wb,
  kO a.F a.L b.F b.L a2 (by omega) ha.sb hb.sb,vx n a.N.F b.N.F h a1 (by omega) ha.wr.fib hb.wr.fib,A0]
 cases fT a.N a.P b.N b.P<;>cases fT a.N a.P b.F b.L<;>cases fT a.F a.L b.N b.P<;>try rfl
 cases a.W==2<;>cases b.W==2<;>cases apP n a.N.F b.N.F<;>rfl
theorem jV(n:ae)(a b:af)(h:bK n=true)(ha:eA n a)(hb:eA n b):HX n a b=some (fY n a b):=by
 have a1:=ha.wr.len;have a2:=ha.sr.len;have b1:=hb.wr.len;have b2:=hb.sr.len;unfold HX fY;simp only[jI a.N a.P b.N b.P (by omega) (by omega) ha.wb hb.wb,jI a.N a.P b.F b.L (by omega) (by omega) ha.wb hb.sb,jI a.F a.L b.N b.P (by omega) (by omega) ha.sb hb.wb,
  jI a.F a.L b.F b.L (by omega) (by omega) ha.sb hb.sb,ot n a.N b.N (kL h).2.2 (by omega) (by omega) ha.wr.fib,A0]
 cases fT a.N a.P b.N b.P<;>cases fT a.N a.P b.F b.L<;>cases fT a.F a.L b.N b.P<;>try rfl
 cases a.W==2<;>cases b.W==2<;>cases apP n a.N.F b.N.F<;>rfl
def yO{list:List af}(h:aX list<=1048576){s:af}(hs:s∈list):s.N.F.length<=1048576/\s.F.F.length<=1048576:=by
 obtain⟨i,hi⟩:=B5 hs;have h2:s.N.F.length+s.F.F.length<=(list.map fun x=>bz x).sum:=lT (fun x=>bz x) hi;unfold aX at h;omega
def Rb{list:List af}(h:aX list<=1048576):list.length<=1048576:=by unfold aX at h;omega
def ic(n:ae)(list:List af)(i:Nat)(s:af):Bool:=
 !jT n s||(decide (0<i)&&match list[i-1]? with|some g=>decide (s.Id<=g.Id)|none=>false)||(list.take i).any fun o=>!fY n o s
def jQ(n:ae)(list:List af):Bool:=bK n&&decide (list.length<=8)&&!eT (ic n list) list
def Oq(xs:List af)(f:af->Option Bool)(p:af->Bool)(hf:∀x∈xs,f x=some (p x))(hl:xs.length<=1048576):td xs f=some (xs.any p):=by
 unfold td Ts;rw[dh (f:=JU xs f) xs (fun _ x=>p x) (fun i _=>(i:Int)) () (fun i x hx _=>by
  have hlt:=(A1.1 hx).1;have h1:decide ((i:Int)<xs.length)=true:=by simp[hlt]
  simp only[JU,h1,cond_true,aR,hx,hf x (A3 hx),A0];rw[aA (by omega) (by omega)];cases p x<;>rfl) (by simp[JU]) (by omega)]
 rw[<-nq];cases e:cU (fun _ x=>p x) xs with
 | none =>
   have h:eT (fun _ x=>p x) xs=false:=dj.2 (ef.1 e);rw[h];rfl
 | some q =>
   obtain⟨i,x⟩:=q;obtain⟨h1,h2,_⟩:=cT.1 e;have h:eT (fun _ x=>p x) xs=true:=gr.2 ⟨i,x,h1,h2⟩;rw[h];simp
def uS{n:ae}(h:bK n=true){list:List af}{i:Nat}(hprev:∀j y,j<i->list[j]?=some y->ic n list j y=false):∀o∈list.take i,eA n o:=by
 intro o ho;obtain⟨j,hj⟩:=B5 ho;rw[F3] at hj;split at hj
 ·rename_i hji;have:=hprev j o hji hj;unfold ic at this;simp only[C2,E6] at this;exact vS h this.1.1
 ·cases hj
def nA(n:ae)(list:List af)(hz:bd n<=1048576)(hl:aX list<=1048576):KC n list=some (jQ n list):=by
 have hll:=Rb hl;unfold KC jQ;rw[ge n hz];simp only[A0];rcases bt (bK n) with hn|hn
 ·rw[hn];simp only[A7,cond_false,A0,B4];by_cases h8:list.length<=8
  ·have e8:decide ((8:Int)<(list.length:Int))=false:=decide_eq_false (by omega);rw[e8,cond_false,decide_eq_true h8,B4];rw[eB (f:=Ik n list) list (ic n list) (.inr false) (.inl ()) (fun i x hx hprev=>by
    have hlt:=(A1.1 hx).1;have h1:decide ((i:Int)<list.length)=true:=by simp[hlt]
    obtain⟨w1,w2⟩:=yO hl (A3 hx);simp only[Ik,h1,cond_true,aR,hx,A0,xd n x hn w1 w2,ET list i (by omega)];unfold ic;rcases bt (jT n x) with e|e
    ·have hin:=vS hn e;have hcf:td (list.take i) (fun x0=>Ca x0 n x)=some ((list.take i).any fun o=>!fY n o x):=Oq _ _ _ (fun o ho=>by
      unfold Ca;rw[nb n o x hn (uS hn hprev o ho) hin];rfl) (by simp;omega)
     rw[e];simp only[A7,cond_false,E4,hcf,A0];rw[aA (n:=(i:Int)+1) (by omega) (by omega)];by_cases h0:0<i
     ·have e0:decide ((0:Int)<(i:Int))=true:=decide_eq_true (by omega);have ew:A4 .i64 ((i:Int)-1)=((i-1:Nat):Int):=by rw[aA (by omega) (by omega)];omega
      have hg:list[i-1]?=some (list[i-1]'(by omega)):=A2 (by omega);rw[e0,cond_true,ew,aR,hg,decide_eq_true h0];simp only[A0,B4];cases decide (x.Id<=(list[i-1]'(by omega)).Id)<;>cases((list.take i).any fun o=>!fY n o x)<;>rfl
     ·have e0:decide ((0:Int)<(i:Int))=false:=decide_eq_false (by omega);rw[e0,cond_false,decide_eq_false h0];simp only[J1,E4];cases((list.take i).any fun o=>!fY n o x)<;>rfl
    ·rw[e];rfl) (by simp[Ik]) (by omega)]
   cases eT (ic n list) list<;>rfl
  ·have e8:decide ((8:Int)<(list.length:Int))=true:=decide_eq_true (by omega);rw[e8,cond_true,decide_eq_false h8];rfl
 ·rw[hn];rfl
def Gg(n:ae)(list:List af)(hz:bd n<=1048576)(hl:aX list<=1048576):HK n list=some (jQ n list):=by
 have hll:=Rb hl;unfold HK jQ;rw[rM n hz];simp only[A0];rcases bt (bK n) with hn|hn
 ·rw[hn];simp only[A7,cond_false,A0,B4];by_cases h8:list.length<=8
  ·have e8:decide ((8:Int)<(list.length:Int))=false:=decide_eq_false (by omega);rw[e8,cond_false,decide_eq_true h8,B4];rw[eB (f:=Jk n list) list (ic n list) (.inr false) (.inl ()) (fun i x hx hprev=>by
    have hlt:=(A1.1 hx).1;have h1:decide ((i:Int)<list.length)=true:=by simp[hlt]
    obtain⟨w1,w2⟩:=yO hl (A3 hx);simp only[Jk,h1,cond_true,aR,hx,A0,wT n x hn hz w1 w2];rw[aA (n:=(i:Int)+1) (by omega) (by omega)];unfold ic;rcases bt (jT n x) with e|e
    ·have hin:=vS hn e;have hcf:aW (CQ n list (i:Int)) N0 0=some (if(list.take i).any (fun o=>!fY n o x) then .inr false else .inl ()):=by
      refine gT (f:=CQ n list (i:Int)) (list.take i) (fun o=>!fY n o x) (.inr false) (.inl ()) (fun k o ho=>?_) ?_ (by simp;omega)
      ·have hin2:=uS hn hprev o (A3 ho);rw[F3] at ho;split at ho
       ·rename_i hki;have h1:decide ((k:Int)<(i:Int))=true:=decide_eq_true (by omega);simp only[CQ,h1,cond_true,aR,ho,hx,A0,jV n o x hn hin2 hin];rw[aA (by omega) (by omega)];cases fY n o x<;>rfl
       ·cases ho
      ·have h1:decide ((((list.take i).length:Nat):Int)<(i:Int))=false:=decide_eq_false (by simp;omega);simp only[CQ,h1,cond_false]
     rw[e];simp only[A7,cond_false,E4,hcf,A0];by_cases h0:0<i
     ·have e0:decide ((0:Int)<(i:Int))=true:=decide_eq_true (by omega);have ew:A4 .i64 ((i:Int)-1)=((i-1:Nat):Int):=by rw[aA (by omega) (by omega)];omega
      have hg:list[i-1]?=some (list[i-1]'(by omega)):=A2 (by omega);rw[e0,cond_true,ew,aR,hg,decide_eq_true h0];simp only[A0,B4];cases decide (x.Id<=(list[i-1]'(by omega)).Id)<;>cases((list.take i).any fun o=>!fY n o x)<;>rfl
     ·have e0:decide ((0:Int)<(i:Int))=false:=decide_eq_false (by omega);rw[e0,cond_false,decide_eq_false h0];simp only[A0,cond_false,J1,E4];cases((list.take i).any fun o=>!fY n o x)<;>rfl
    ·rw[e];rfl) (by simp[Jk]) (by omega)]
   cases eT (ic n list) list<;>rfl
  ·have e8:decide ((8:Int)<(list.length:Int))=true:=decide_eq_true (by omega);rw[e8,cond_true,decide_eq_false h8];rfl
 ·rw[hn];rfl
structure age(n:ae)(list:List af):Prop where
 net:bK n=true
 len:list.length<=8
 svc:∀s∈list,eA n s
 ok:∀s∈list,jT n s=true
def CG{n:ae}{list:List af}(h:jQ n list=true):age n list:=by
 unfold jQ at h;simp only[B2,decide_eq_true_eq,E0] at h;obtain⟨⟨h1,h2⟩,h3⟩:=h;have key:∀s∈list,jT n s=true:=fun s hs=>by
  obtain⟨i,hi⟩:=B5 hs;have:=dj.1 h3 i s hi;unfold ic at this;simp only[C2,E6] at this;exact this.1.1
 exact⟨h1,h2,fun s hs=>vS h1 (key s hs),key⟩
end Vs

namespace Vs
open Go
def dJ{n:ae}(h:bK n=true):2<=n.N.length/\n.N.length<=8/\n.F.length<=14:=by
 unfold bK at h;simp only[B2,decide_eq_true_eq,cD] at h;omega
def rz{n:ae}(h:bK n=true){i:Nat}{f:aG}(hf:n.F[i]?=some f):yi n.N.length f:=by
 unfold bK at h;simp only[B2,E0] at h;have:=dj.1 h.1.1.2 i f hf;unfold iL at this;simp only[C2] at this;exact pM this.1
end Vs

namespace Vs
open Go
def tf(n:ae)(y:Int):Int:=match n.F[y.toNat]? with|some f=>f.N|none=>0
def dC(n:ae)(r:ai):Int:=iw (fun _ y s=>A4 .i64 (s+tf n y)) 0 r.F 0
def RtB(n:ae)(r:ai):Prop:=r.F.length<=20/\(∀e∈r.F,0<=e/\e<n.F.length)/\0<=r.N/\r.N<8
def eQ{n:ae}{r:ai}(h:RtB n r):oi n r=some (dC n r):=by
 have h1:=h.1;unfold oi dC;have:=mf (f:=M_d n r) r.F (fun i(s:Int)=>(s,(i:Int))) (fun _ y s=>A4 .i64 (s+tf n y)) id (fun _ _=>True) (fun i s y hy _=>by
  have hlt:=(A1.1 hy).1;have e1:decide ((i:Int)<r.F.length)=true:=by simp[hlt]
  obtain⟨g1,g2⟩:=h.2.1 y (A3 hy);have hf:bE n.F y=n.F[y.toNat]?:=by unfold bE;rw[if_pos g1]
  have hs:n.F[y.toNat]?=some (n.F[y.toNat]'(by omega)):=A2 _;refine⟨trivial,?_⟩;simp only[M_d,e1,cond_true,aR,hy,A0,hf,tf];rw[hs];simp only[A0];rw[aA (n:=(i:Int)+1) (by omega) (by omega)];rfl) (fun s _=>by simp[M_d]) 0 trivial (by omega)
 have e0:((0:Nat):Int)=0:=rfl;simp only[e0] at this;rw[this];rfl
def lU{n:ae}{r:ai}(h:RtB n r):Gn n r=some (dC n r):=eQ h
def uX{n:ae}(hn:bK n=true){r:ai}(h:RtB n r):0<=dC n r/\dC n r<=100000:=by
 have gen:∀(ys:List Int)(i:Nat)(s:Int),(∀e∈ys,0<=e/\e<n.F.length)->i+ys.length<=20->0<=s->s<=5000*i->0<=iw (fun _ y s=>A4 .i64 (s+tf n y)) i ys s/\iw (fun _ y s=>A4 .i64 (s+tf n y)) i ys s<=5000*(i+ys.length:Nat):=by
  intro ys;induction ys with
  |nil=>simp_all [iw]
  | cons y ys ih =>
    intro i s hy hi h1 h2;simp only[A8] at hi;obtain⟨g1,g2⟩:=hy y (by simp);have hs:n.F[y.toNat]?=some (n.F[y.toNat]'(by omega)):=A2 _;obtain⟨_,_,_,f4,f5,_⟩:=rz hn hs;have hf:tf n y=(n.F[y.toNat]'(by omega)).N:=by unfold tf;rw[hs]
    have hw:A4 .i64 (s+tf n y)=s+tf n y:=aA (by omega) (by omega);simp only[iw];rw[hw];have:=ih (i+1) (s+tf n y) (fun e he=>hy e (by simp[he])) (by omega) (by omega) (by omega)
    grind
 have h1:=h.1;have:=gen r.F 0 0 h.2.1 (by omega) (by omega) (by omega);unfold dC;omega
theorem agr(a b c d:Int):nW [a,b,c,d]=some (if a≠0 then a else if b≠0 then b else if c≠0 then c else d):=by
 unfold nW;have key:=dh (f:=M_m [a,b,c,d]) [a,b,c,d] (fun _ x=>x !=0) (fun _ x=>x) () (fun i x hx _=>by
  have hlt:=(A1.1 hx).1;have h1:decide ((i:Int)<([a,b,c,d].length:Nat))=true:=decide_eq_true (by omega);simp only[A8,B1] at hlt;simp only[M_m,h1,cond_true,aR,hx,A0]
  grind [aA]) (by simp[M_m]) (by simp)
 rw[key];unfold cU;simp only[F0,I5,F5,I9];by_cases h1:a=0
 ·by_cases h2:b=0
  ·by_cases h3:c=0
   ·grind
   grind
  grind
 grind
def sy(b:List Int)(i:Nat)(x:Int):Int:=match b[i]? with|some y=>dB x y|none=>1
def iE(a b:List Int):Int:=match cU (fun i x=>b[i]? !=some x) a with
 |some q=>sy b q.1 q.2
 |none=>if a.length<b.length then -1 else 0
theorem Ci(a b:List Int)(hl:a.length<=1048576):Ly a b=some (iE a b):=by
 unfold Ly;rw[dh (f:=HR a b) a (fun i x=>b[i]? !=some x) (fun i x=>sy b i x) () (fun i x hx _=>by
  have hlt:=(A1.1 hx).1;have h3:decide ((i:Int)<a.length)=true:=by simp[hlt]
  simp only[HR,h3,cond_true,aR,hx,A0,sy];by_cases hb:b.length<=i
  ·simp_all
  ·have h4:decide ((b.length:Int)<=(i:Int))=false:=by simp;omega
   have h5:b[i]?=some (b[i]'(by omega)):=A2 _;simp only[h4,cond_false,h5,A0,yZ];rw[aA (by omega) (by omega)];by_cases e:x=b[i]'(by omega)
   ·grind [cJ]
   ·have e1:(dB x (b[i]'(by omega)) !=0)=true:=bne_iff_ne.2 fun e'=>e (cJ.1 e')
    grind) (by simp[HR]) (by omega)]
 unfold iE
 grind
def fe(n:ae)(a b:ai):Int:=if dC n a≠dC n b then dB (dC n a) (dC n b) else if a.F.length≠b.F.length then dB a.F.length b.F.length else
 if iE a.F b.F≠0 then iE a.F b.F else dB a.N b.N
def gv{n:ae}{a b:ai}(ha:RtB n a)(hb:RtB n b):vd n a b=some (fe n a b):=by
 have h1:=ha.1;unfold vd;rw[lU ha,A0,lU hb,A0];simp only[yZ,A0,Ci a.F b.F (by omega),bnd,agr]
 simp_all [ne_eq,cJ,Int.natCast_inj,fe]
theorem Ak(x:Int):yR x=some (dB x 0):=by
 grind [yR,dB]
def nH(x y:Int):dB (x-y) 0=dB x y:=by
 unfold dB;omega
def EY(x y:Int):(x-y !=0)=decide (x≠y):=by
 grind
def yQ{n:ae}(hn:bK n=true){a b:ai}(ha:RtB n a)(hb:RtB n b):HN n a b=some (fe n a b):=by
 obtain⟨b1,b2,b3⟩:=dJ hn;have hla:=uX hn ha;have hlb:=uX hn hb;have h1:=ha.1;have h2:=hb.1;obtain⟨s1,s2⟩:=ha.2.2;obtain⟨s3,s4⟩:=hb.2.2;unfold HN fe;rw[eQ ha,A0,eQ hb,A0];simp only[Ak,A0];rw[aA (n:=dC n a-dC n b) (by omega) (by omega),aA (n:=(a.F.length:Int)-(b.F.length:Int)) (by omega) (by omega),aA (n:=a.N-b.N) (by omega) (by omega),EY,EY,nH,nH,nH];by_cases e1:dC n a=dC n b
 ·rw[if_neg (by simpa using e1),decide_eq_false (by simpa using e1),cond_false];by_cases e2:a.F.length=b.F.length
  ·rw[if_neg (by simpa using e2),decide_eq_false (by simp[e2]),cond_false];rw[dh (f:=Hl a b) a.F (fun i x=>b.F[i]? !=some x) (fun i x=>sy b.F i x) () (fun i x hx _=>by
    have hlt:=(A1.1 hx).1;have h3:decide ((i:Int)<a.F.length)=true:=by simp[hlt]
    have h5:b.F[i]?=some (b.F[i]'(by omega)):=A2 _;obtain⟨x1,x2⟩:=ha.2.1 x (A3 hx);obtain⟨y1,y2⟩:=hb.2.1 _ (A3 h5);simp only[Hl,h3,cond_true,aR,hx,A0,sy,h5,Ak];rw[aA (n:=(i:Int)+1) (by omega) (by omega),aA (n:=x-b.F[i]'(by omega)) (by omega) (by omega),nH];by_cases e:x=b.F[i]'(by omega)
    ·have e3:(x !=b.F[i]'(by omega))=false:=by rw[<-e];simp
     have e4:(some (b.F[i]'(by omega)) !=some x)=false:=by rw[<-e];simp
     rw[e3,e4];rfl
    ·have e3:(x !=b.F[i]'(by omega))=true:=bne_iff_ne.2 e;have e4:(some (b.F[i]'(by omega)) !=some x)=true:=bne_iff_ne.2 fun e'=>e (Option.some.inj e').symm;rw[e3,e4];rfl) (by simp[Hl]) (by omega)]
   unfold iE;cases hf:cU (fun i x=>b.F[i]? !=some x) a.F with
   | none =>
     simp only[A0];rw[if_neg (show¬a.F.length<b.F.length by omega),if_neg (by simp)]
   | some q =>
     obtain⟨g1,g2,_⟩:=cT.1 (show cU (fun i x=>b.F[i]? !=some x) a.F=some (q.1,q.2) from hf);have hlt:=(A1.1 g1).1;have h5:b.F[q.1]?=some (b.F[q.1]'(by omega)):=A2 _;have hz:sy b.F q.1 q.2≠0:=by
      unfold sy;rw[h5] at g2⊢;exact fun e=>bne_iff_ne.1 g2 (by rw[cJ.1 e])
     simp only[A0];rw[if_pos hz]
  ·rw[if_pos (by simpa using e2),decide_eq_true (by simp;omega),cond_true]
 ·rw[if_pos (by simpa using e1),decide_eq_true (by simpa using e1),cond_true]
theorem my(x y:Int):dB y x=- dB x y:=by
 unfold dB;omega
def NM{a b:List Int}(h:a.length=b.length):iE b a=- iE a b:=by
 have key:∀{a b:List Int}{i:Nat}{x:Int},a.length=b.length->cU (fun i x=>b[i]? !=some x) a=some (i,x)->∃y,cU (fun i x=>a[i]? !=some x) b=some (i,y)/\a[i]?=some x/\b[i]?=some y:=by
  intro a b i x h hf;obtain⟨g1,g2,g3⟩:=cT.1 hf;have hlt:=(A1.1 g1).1;have h5:b[i]?=some (b[i]'(by omega)):=A2 _;refine⟨b[i]'(by omega),cT.2 ⟨h5,?_,fun j y hj hy=>?_⟩,g1,h5⟩
  ·grind
  ·grind
 unfold iE;cases hf:cU (fun i x=>b[i]? !=some x) a with
 | some q =>
   grind [my,cU,sy]
 | none =>
   grind
theorem ja(n:ae)(a b:ai):fe n b a=- fe n a b:=by
 unfold fe;by_cases e1:dC n a=dC n b
 ·rw[if_neg (show¬dC n b≠dC n a from fun h=>h e1.symm),if_neg (show¬dC n a≠dC n b from fun h=>h e1)];by_cases e2:a.F.length=b.F.length
  ·rw[if_neg (show¬b.F.length≠a.F.length from fun h=>h e2.symm),if_neg (show¬a.F.length≠b.F.length from fun h=>h e2),NM e2];by_cases e3:iE a.F b.F=0
   ·rw[if_neg (show¬ -iE a.F b.F≠0 by omega),if_neg (show¬iE a.F b.F≠0 from fun h=>h e3)];exact my _ _
   omega
  ·rw[if_pos (show b.F.length≠a.F.length from fun e=>e2 e.symm),if_pos e2];exact my _ _
 ·rw[if_pos (show dC n b≠dC n a from fun e=>e1 e.symm),if_pos e1];exact my _ _
theorem uw{n:ae}{a b:ai}(h:fe n a b=0):a=b:=by
 unfold fe at h;by_cases e1:dC n a=dC n b
 ·rw[if_neg (by simp[e1])] at h;by_cases e2:a.F.length=b.F.length
  ·rw[if_neg (by simp[e2])] at h;by_cases e3:iE a.F b.F=0
   ·rw[if_neg (by simp[e3])] at h;have hs:=cJ.1 h;have hf:a.F=b.F:=by
     unfold iE at e3;cases hf:cU (fun i x=>b.F[i]? !=some x) a.F with
     | none =>
       have:=ef.1 hf;apply List.ext_getElem?
       grind
     | some q =>
       rw[hf] at e3;obtain⟨g1,g2,_⟩:=cT.1 (show cU (fun i x=>b.F[i]? !=some x) a.F=some (q.1,q.2) from hf);have hlt:=(A1.1 g1).1
       simp_all [A2,bne_iff_ne,cJ,sy]
    cases a;cases b;simp only at hs hf;rw[hs,hf]
   omega
  ·rw[if_pos e2] at h
   grind [cJ]
 simp_all [if_pos,cJ,absurd]
end Vs

namespace Vs
open Go
theorem nG{α:Type}(xs:List α)(k:Nat)(h:k<=xs.length):gw xs 0 k=xs.take k:=by rw[iU,K6]
theorem zR{α:Type}(xs:List α)(k:Nat)(h:k<=xs.length):gw xs k (xs.length-k)=xs.drop k:=by
 rw[iU,G1 (by simp)]
structure Sb(n:ae)(s:Int)(p q:List Int):Prop where
 len:q.length=p.length+1
 nd:q.Nodup
 rg:∀x∈q,0<=x/\x<(n.N.length:Int)
 pr:∀e∈p,0<=e/\e<(n.F.length:Int)
 st:0<=s/\s<8
def Sb.le{n:ae}{s:Int}{p q:List Int}(h:Sb n s p q):q.length<=n.N.length:=nB _ q h.nd h.rg
def Sb.rt{n:ae}(hn:bK n=true){s:Int}{p q:List Int}(h:Sb n s p q):RtB n ⟨s,p⟩:=by
 obtain⟨b1,b2,b3⟩:=dJ hn;have h1:=h.le;have h2:=h.len;exact⟨by show p.length<=20;omega,h.pr,h.st⟩
def F2:List az:=[⟨3000,10⟩,⟨900,20⟩]
def hZ{S B:Type}{f:S->Option (S⊕B)}(st:Nat->S)(k:Nat)(r:B)(h1:∀j,j<k->f (st j)=some (.inl (st (j+1))))(h2:f (st k)=some (.inr r))(hk:k<1000000):aW f N0 (st 0)=some r:=by
 have:=dg (f:=f) (M0 k) (fun i(_:Unit)=>st i) (fun _ _ _=>.inl ()) (fun _=>r) (fun _ _=>True) (fun i a x hx _=>by
  have hlt:=(A1.1 hx).1;rw[H2] at hlt;exact .inl ⟨(),rfl,trivial,h1 i hlt⟩) (fun a _=>by rw[H2];exact h2) () trivial (by rw[H2];omega)
 rw[this];have gen:∀(ys:List Nat)(i:Nat),bX (fun _(_:Nat)(_:Unit)=>(.inl ():Unit⊕B)) (fun _=>r) i ys ()=r:=by
  intro ys;induction ys with
  |nil=>intro i;rfl
  |cons y ys ih=>intro i;exact ih (i+1)
 rw[gen]
end Vs

namespace Vs
open Go
theorem EZ{α:Type}(p:Nat->α->Bool):∀(xs:List α)(k:Nat),((xs.zipIdx (k+1)).find? fun q=>p q.2 q.1)=((xs.zipIdx k).find? fun q=>p (q.2+1) q.1).map fun q=>(q.1,q.2+1)
 |[],k=>rfl
 | x :: xs, k => by
   rw[F0,F0,F5,F5];simp only;cases p (k+1) x with
   |true=>rfl
   |false=>exact EZ p xs (k+1)
def MH{α:Type}(p:Nat->α->Bool)(x:α)(xs:List α):
 cU p (x::xs)=if p 0 x then some (0,x) else(cU (fun i=>p (i+1)) xs).map fun q=>(q.1+1,q.2):=by
 unfold cU;rw[F0,F5];by_cases h:p 0 x=true
 ·simp[h]
 ·simp only[Bool.not_eq_true] at h;simp only[h,C0,if_false];rw[EZ p xs 0,K7,K7];rfl
def iv{x y:Int}:dB x y<0↔x<y:=by
 grind [dB]
def HJ(x y:Int)(a b:List Int):iE (x::a) (y::b)=if x=y then iE a b else dB x y:=by
 unfold iE;rw[MH];by_cases h:x=y
 ·subst h;simp only[H7,bne_self_eq_false,C0,if_false,List.getElem?_cons_succ,if_true]
  grind [cU,sy]
 ·have:((some y:Option Int) !=some x)=true:=bne_iff_ne.2 fun e=>h (Option.some.inj e).symm
  simp_all [H7,if_true,if_neg,sy]
theorem EO:∀a b c:List Int,a.length=b.length->b.length=c.length->iE a b<0->iE b c<0->iE a c<0
 |[],[],[],_,_,h,_=>h
 | x :: a, y :: b, z :: c, h1, h2, h3, h4 => by
   rw[HJ] at h3 h4⊢;by_cases e1:x=y
   ·rw[if_pos e1] at h3;by_cases e2:y=z
    ·rw[if_pos e2] at h4;rw[if_pos (e1.trans e2)];exact EO a b c (by simpa using h1) (by simpa using h2) h3 h4
    simp_all
   ·rw[if_neg e1,iv] at h3;by_cases e2:y=z
    ·rw[if_neg (by omega),iv];omega
    ·rw[if_neg e2,iv] at h4;rw[if_neg (by omega),iv];omega
def ve{n:ae}{a b:ai}(hs:a.N=b.N):fe n a b<0↔dC n a<dC n b\/(dC n a=dC n b/\(a.F.length<b.F.length\/(a.F.length=b.F.length/\iE a.F b.F<0))):=by
 unfold fe;by_cases e1:dC n a=dC n b
 ·rw[if_neg (fun h=>h e1)];by_cases e2:a.F.length=b.F.length
  ·rw[if_neg (fun h=>h e2)];by_cases e3:iE a.F b.F=0
   ·rw[if_neg (fun h=>h e3),iv];omega
   omega
  ·rw[if_pos e2,iv];omega
 ·rw[if_pos e1,iv];omega
def PT(n:ae)(a:ai):¬fe n a a<0:=by
 grind [ja]
theorem Fs{n:ae}{a b c:ai}(h1:a.N=b.N)(h2:b.N=c.N)(h3:fe n a b<0)(h4:fe n b c<0):fe n a c<0:=by
 rw[ve h1] at h3;rw[ve h2] at h4;rw[ve (h1.trans h2)]
 grind [EO]
theorem zi{n:ae}{a b:ai}(h:¬fe n a b<0):fe n b a<0\/a=b:=by
 grind [uw,ja]
def xm{n:ae}{a b c:ai}(h1:a.N=b.N)(h2:b.N=c.N)(h3:¬fe n a b<0)(h4:¬fe n b c<0):¬fe n a c<0:=by
 grind [zi,Fs,ja]
def lW(n:ae)(l:List ai):Prop:=l.Pairwise fun a b=>¬fe n b a<0
theorem Et{n:ae}:∀(xs ys:List ai),xs.Perm ys->lW n xs->lW n ys->xs=ys
 |[],ys,h,_,_=>(List.nil_perm.1 h).symm
 |x::xs,[],h,_,_=>by simp_all
 | x :: xs, y :: ys, h, h1, h2 => by
   unfold lW at h1 h2;rw[F4] at h1 h2;have e:x=y:=by
    have m1:x∈y::ys:=h.mem_iff.1 J5;have m2:y∈x::xs:=h.mem_iff.2 J5;rw[C7] at m1 m2;rcases m1 with e|m1
    ·exact e
    ·rcases m2 with e|m2
     ·exact e.symm
     ·have a1:=h2.1 x m1;have a2:=h1.1 y m2;have:=ja n x y;exact uw (n:=n) (by omega)
   subst e;rw[Et xs ys (List.Perm.cons_inv h) h1.2 h2.2]
def XU(s:Int)(L:List ai):Prop:=∀r∈L,r.N=s
theorem Sy{n:ae}{s:Int}{L:List ai}{r:ai}{k:Nat}(hs:XU s L)(hr:r.N=s)(hk:k<=L.length)(h:lW n L)(h1:∀j y,k<=j->L[j]?=some y->fe n r y<0)
 (h2:∀y,0<k->L[k-1]?=some y->¬fe n r y<0):lW n (L.take k++[r]++L.drop k):=by
 have hkL:L.take k++L.drop k=L:=I6 k L;have hpw:lW n (L.take k++L.drop k):=by rw[hkL];exact h
 unfold lW at hpw⊢;rw[G6] at hpw;obtain⟨p1,p2,p3⟩:=hpw;have before:∀y∈L.take k,¬fe n r y<0:=fun y hy=>by
  obtain⟨j,hj⟩:=B5 hy;rw[F3] at hj;split at hj
  ·rename_i hjk;have hz:L[k-1]?=some (L[k-1]'(by omega)):=A2 _;have q:=h2 _ (by omega) hz;by_cases e:j=k-1
   ·simp_all
   ·have hyz:¬fe n (L[k-1]'(by omega)) y<0:=by
     have:=C3.1 h j (k-1) (by omega) (by omega) (by omega);rw[(A1.1 hj).2] at this;exact this
    exact xm (hr.trans (hs _ (H6 _)).symm) ((hs _ (H6 _)).trans (hs _ (J2 hy)).symm) q hyz
  ·cases hj
 have after:∀y∈L.drop k,fe n r y<0:=fun y hy=>by
  obtain⟨j,hj⟩:=B5 hy
  grind
 grind [List.append_assoc,List.singleton_append,List.pairwise_cons,ja]
def Gl{f:Int->Option (Int⊕Int)}{L:List ai}(hl:L.length<=1000)(g:ai->Int)
 (h1:∀(i:Nat)(y:ai),L[i]?=some y->f ((i+1:Nat):Int)=some (if decide (g y<0) then .inl (i:Int) else .inr ((i+1:Nat):Int))) (h2:f 0=some (.inr 0)):
 ∃k:Nat,aW f N0 (L.length:Int)=some (k:Int)/\k<=L.length/\(∀j y,k<=j->L[j]?=some y->g y<0)/\∀y,0<k->L[k-1]?=some y->¬g y<0:=by
 obtain⟨b,b1,b2⟩:=bT (f:=f) (fun s=>∃i:Nat,s=(i:Int)/\i<=L.length/\∀j y,i<=j->L[j]?=some y->g y<0) (fun s=>s.toNat) (fun b=>∃k:Nat,b=(k:Int)/\k<=L.length/\(∀j y,k<=j->L[j]?=some y->g y<0)/\∀y,0<k->L[k-1]?=some y->¬g y<0) (fun s⟨i,e,hi,hj⟩=>by
  subst e;cases i with
  |zero=>grind
  | succ i =>
    have hat:=A2 (show i<L.length by omega);have hs:=h1 i _ hat;rw[hs];by_cases c:g L[i]<0
    ·rw[if_pos (by simpa using c)];refine .inl ⟨_,rfl,⟨i,rfl,by omega,fun j y hij hy=>?_⟩,by simp⟩
     grind
    grind) N0 (L.length:Int) ⟨L.length,rfl,C9 _,fun j y hj hy=>by simp_all⟩ (dm (by omega))
 simp_all
def aci{n:ae}(hn:bK n=true){d:Int}{L:List ai}{r:ai}(hr:RtB n r)(hL:∀r∈L,RtB n r)(hl:L.length<=500)(hsm:XU r.N L)(hsr:lW n L):
 ∃L',RF r n.N n.F d L=some (n.N,n.F,d,L',L)/\L'.Perm (r::L)/\lW n L':=by
 obtain⟨k,k1,k2,k3,k4⟩:=Gl (f:=Jc r n.N n.F L) (L:=L) (by omega) (fe n r) (fun i y hy=>by
  have hlt:=(A1.1 hy).1;have e1:decide (0<((i+1:Nat):Int))=true:=by simp only[decide_eq_true_eq];omega
  have e2:A4 .i64 (((i+1:Nat):Int)-1)=(i:Int):=by rw[aA (by omega) (by omega)];omega
  unfold Jc;rw[e1,cond_true,e2,bg ⟨by omega,by omega⟩,A0,A5,hy,A0,yQ hn hr (hL y (A3 hy)),A0]
  grind) (by simp[Jc])
 unfold RF;rw[k1,A0,bg ⟨trivial,by omega,trivial,by simpa using k2⟩];simp only[A0,bnd,A5];rw[bg (by grind [nG]),A0,bg (by grind [nG]),A0,bg ⟨by omega,trivial,k2,trivial⟩,A0,bg (by grind [nG,zR]),A0,nG _ _ k2,zR _ _ k2]
 grind [Sy,List.perm_middle,List.take_append_drop,List.append_assoc]
end Vs

namespace Vs
open Go
def dU(q:List Int):Int:=(q[q.length-1]?).getD 0
def fE(n:ae)(D:List Int->List Int->List ai)(v:Int)(p q:List Int)(i:Nat):List ai:=
 if 0<=cL n (i:Int) v/\cL n (i:Int) v∉q then D (p++[(i:Int)]) (q++[cL n (i:Int) v]) else []
def flS(n:ae)(D:List Int->List Int->List ai)(v:Int)(p q:List Int)(k:Nat):List ai:=(M0 k).flatMap (fE n D v p q)
def fZ(n:ae)(s d:Int)(D:List Int->List Int->List ai)(p q:List Int):List ai:=
 if dU q=d then [⟨s,p⟩] else flS n D (dU q) p q n.F.length
def lk(n:ae)(s d:Int):Nat->List Int->List Int->List ai
 |0,p,q=>fZ n s d (fun _ _=>[]) p q
 |k+1,p,q=>fZ n s d (lk n s d k) p q
structure lp(n:ae)(s:Int)(p q:List Int):Prop where
 S:Sb n s p q
 V:∀ext,bX (oh n) (fun a=>some a.2) 0 (p++ext) (s,[s])=bX (oh n) (fun a=>some a.2) p.length ext (dU q,q)
def qI(q:List Int)(w:Int):dU (q++[w])=w:=by unfold dU;simp
def RL{q:List Int}(h:0<q.length):q[q.length-1]?=some (dU q):=by
 grind [List.getElem?_eq_getElem,dU]
def Lq{n:ae}(hn:bK n=true){i:Nat}(hi:i<n.F.length){v:Int}(h0:0<=cL n (i:Int) v):cL n (i:Int) v<(n.N.length:Int):=by
 have hwi:wi (i:Int) 0 ((n.F.length:Int)-1)=true:=cD.2 (by omega);obtain⟨f,f1,f2⟩:=sq hwi;obtain⟨fa,fb,fc,_⟩:=rz hn f2;unfold cL at h0⊢;rw[f2] at h0⊢;simp only[jm] at h0⊢;omega
def lp.ext{n:ae}(hn:bK n=true){s:Int}{p q:List Int}(h:lp n s p q){i:Nat}(hi:i<n.F.length)(h1:0<=cL n (i:Int) (dU q))(h2:cL n (i:Int) (dU q)∉q):
 lp n s (p++[(i:Int)]) (q++[cL n (i:Int) (dU q)]):=by
 have hp:=h.S;have hlt:=Lq hn hi h1;refine⟨⟨by have:=hp.len;simp;omega,?_,fun x hx=>?_,fun x hx=>?_,hp.st⟩,fun ext=>?_⟩
 ·rw[J9];refine⟨hp.nd,by simp,fun x hx y hy e=>?_⟩
  simp_all
 ·rcases B7.1 hx with h|h
  ·exact hp.rg x h
  simp_all
 ·rcases B7.1 hx with h|h
  ·exact hp.pr x h
  simp_all
 ·rw[B0,h.V,G3,qI,A6,B6]
  grind [cD,decide_eq_false,bX,rF,dU,wi,cL,oh]
structure RtV(n:ae)(s:Int)(r:ai):Prop where
 st:r.N=s
 b:RtB n r
 v:(im n r).isSome=true
def Ey{n:ae}(hn:bK n=true){s d:Int}(hsd:s≠d)(hs:0<=s/\s<(n.N.length:Int)){D:List Int->List Int->List ai}{p q:List Int}(hD:∀p1 q1,lp n s p1 q1->q1.length=q.length+1->∀r∈D p1 q1,RtV n s r)(h:lp n s p q):∀r∈fZ n s d D p q,RtV n s r:=by
 intro r hr;unfold fZ at hr;split at hr
 ·rename_i e;rw[C1] at hr;subst hr;refine⟨rfl,h.S.rt hn,?_⟩;have hp:p.length≠0:=fun e0=>by
   have e1:p=[]:=E3.1 e0;subst e1;have h1:=h.V [];have h2:=h.S.len;obtain⟨x,hx⟩:∃x,q=[x]:=by
    match q,h2 with
    |[x],_=>exact⟨x,rfl⟩
   subst hx;simp only[C8,bX,Option.some.injEq,List.cons.injEq,and_true] at h1;apply hsd;rw[h1,<-e];rfl
  unfold im;have e1:wi s 0 ((n.N.length:Int)-1)=true:=cD.2 (by omega);have h3:=h.V [];rw[C8] at h3;simp only[e1,decide_eq_false hp];rw[h3];rfl
 ·unfold flS at hr;rw[H8] at hr;obtain⟨i,hi,hr⟩:=hr;rw[K8] at hi;unfold fE at hr;split at hr
  ·rename_i h1;exact hD _ _ (h.ext hn hi h1.1 h1.2) (by simp) r hr
  ·cases hr
theorem rk{n:ae}(hn:bK n=true){s d:Int}(hsd:s≠d)(hs:0<=s/\s<(n.N.length:Int)):∀(k:Nat)(p q:List Int),lp n s p q->∀r∈lk n s d k p q,RtV n s r
 |0,p,q,h=>Ey hn hsd hs (fun _ _ _ _ _ hr=>by cases hr) h
 |k+1,p,q,h=>Ey hn hsd hs (fun p1 q1 h1 _=>rk hn hsd hs k p1 q1 h1) h
structure GdL(n:ae)(s:Int)(L:List ai):Prop where
 srt:lW n L
 rt:∀r∈L,RtV n s r
def ln(n:ae)(L D L':List ai):Prop:=lW n L'/\(∀r∈L',r∈L\/r∈D)/\L'.length<=201/\(if L.length+D.length<=201 then L'.Perm (L++D) else L'.length=201)
def ln.refl{n:ae}{L:List ai}(h:lW n L)(hl:L.length<=201):ln n L [] L:=⟨h,fun r hr=>.inl hr,hl,by simp_all⟩
def ln.trans{n:ae}{L D1 L1 D2 L2:List ai}(h1:ln n L D1 L1)(hl:L1.length<=200)(h2:ln n L1 D2 L2):ln n L (D1++D2) L2:=by
 obtain⟨a1,a2,a3,a4⟩:=h1;obtain⟨b1,b2,b3,b4⟩:=h2;have c:L.length+D1.length<=201:=by
  apply Classical.byContradiction;intro h;rw[if_neg h] at a4;omega
 rw[if_pos c] at a4;have e:=a4.length_eq;rw[A6] at e;refine⟨b1,fun r hr=>?_,b3,?_⟩
 ·grind
 grind
def ln.full{n:ae}{L D1 L1:List ai}(D2:List ai)(h1:ln n L D1 L1)(hl:¬L1.length<=200):ln n L (D1++D2) L1:=by
 obtain⟨a1,a2,a3,a4⟩:=h1;refine⟨a1,fun r hr=>(a2 r hr).imp id (J0 _),a3,?_⟩;rw[A6];split
 ·rename_i c;rw[if_pos (by omega)] at a4;have e:=a4.length_eq
  grind
 ·omega
theorem GdL.put{n:ae}{s:Int}{L D L':List ai}(h:GdL n s L)(hD:∀r∈D,RtV n s r)(hq:ln n L D L'):GdL n s L':=⟨hq.1,fun r hr=>(hq.2.1 r hr).elim (h.rt r) (hD r)⟩
theorem fW(n:ae)(D:List Int->List Int->List ai)(v:Int)(p q:List Int)(k:Nat):flS n D v p q (k+1)=flS n D v p q k++fE n D v p q k:=by
 grind [List.range_succ,flS]
theorem rP(n:ae)(D:List Int->List Int->List ai)(v:Int)(p q:List Int){k:Nat}:∀m,k<=m->∃R,flS n D v p q m=flS n D v p q k++R
 |0,h=>⟨[],by simp_all⟩
 | m + 1, h => by
   by_cases e:k=m+1
   ·simp_all
   ·obtain⟨R,hR⟩:=rP n D v p q m (show k<=m by omega)
    grind [fW,List.append_assoc]
def mg{n:ae}(hn:bK n=true){s d:Int}(hsd:s≠d)(hs:0<=s/\s<(n.N.length:Int)){D:List Int->List Int->List ai}{rc:Int->List ByteArray->List aG->Int->List ai->List Int->List Int->Option (List ByteArray×List aG×Int×List ai×List Int)}
 {L:List ai} {p q:List Int} (hrc:∀(L:List ai)(p1 q1:List Int),lp n s p1 q1->q1.length=q.length+1->GdL n s L->L.length<=200->∃L',rc s n.N n.F d L p1 q1=some (n.N,n.F,d,L',q1)/\ln n L (D p1 q1) L')
 (hD:∀p1 q1,lp n s p1 q1->q1.length=q.length+1->∀r∈D p1 q1,RtV n s r) (hp:lp n s p q) (hL:GdL n s L) (hl:L.length<=200):
 ∃L',IQ rc s n.N n.F d L p q=some (n.N,n.F,d,L',q)/\ln n L (fZ n s d D p q) L':=by
 obtain⟨b1,b2,b3⟩:=dJ hn;have h1:=hp.S.le;have h2:=hp.S.len;have hix:A4 .i64 ((q.length:Int)-1)=((q.length-1:Nat):Int):=by rw[aA (by omega) (by omega)];omega
 unfold IQ fZ;rw[hix,bg ⟨by omega,by omega⟩,A0,A5,RL (by omega),A0];by_cases hv:dU q=d
 ·have e0:(dU q==d)=true:=by simpa using hv
  rw[e0,if_pos hv,cond_true];obtain⟨L',e1,e2,e3⟩:=aci hn (d:=d) (r:=⟨s,p⟩) (hp.S.rt hn) (fun r hr=>(hL.rt r hr).b) (by omega) (fun r hr=>(hL.rt r hr).st) hL.srt;rw[e1,A0];have hlen:=e2.length_eq;rw[A8] at hlen;refine⟨L',rfl,e3,fun r hr=>?_,by omega,?_⟩
  ·grind
  grind
 ·have e0:(dU q==d)=false:=by simpa using hv
  rw[e0,if_neg hv,cond_false];generalize hvq:dU q=v at*
  obtain⟨b,o1,o2⟩:=bT (f:=M_w s p q rc v) (fun t=>∃(i:Nat)(L':List ai),t=((i:Int),n.N,n.F,d,L')/\i<=n.F.length/\ln n L (flS n D v p q i) L') (fun t=>n.F.length-t.1.toNat) (fun b=>∃L',b=(n.N,n.F,d,L')/\ln n L (flS n D v p q n.F.length) L') (fun t⟨i,L',e,hi,hL'⟩=>by
   subst e;have hgd:GdL n s L':=hL.put (fun r hr=>by
    unfold flS at hr;rw[H8] at hr;obtain⟨j,hj,hr⟩:=hr;rw[K8] at hj;unfold fE at hr;split at hr
    ·rename_i c;subst hvq;exact hD _ _ (hp.ext hn (by omega) c.1 c.2) (by simp) r hr
    ·cases hr) hL'
   unfold M_w;by_cases h3:i<n.F.length/\L'.length<=200
   ·left;have e1:decide ((i:Int)<(n.F.length:Int))=true:=by simp[h3.1]
    have e2:decide ((L'.length:Int)<=200)=true:=by simp only[decide_eq_true_eq];omega
    have hwi:wi (i:Int) 0 ((n.F.length:Int)-1)=true:=cD.2 (by omega);simp only[e1,e2,cond_true,A0,ur n (i:Int) v hwi,pH q _ (show q.length<=1048576 by omega)];by_cases h4:0<=cL n (i:Int) v/\cL n (i:Int) v∉q
    ·have e3:decide (0<=cL n (i:Int) v)=true:=by simp[h4.1]
     have e4:(q.any fun y=>y==cL n (i:Int) v)=false:=by rw[<-pG];exact decide_eq_false h4.2
     have hP:lp n s (p++[(i:Int)]) (q++[cL n (i:Int) v]):=by subst hvq;exact hp.ext hn h3.1 h4.1 h4.2
     have hle:=hP.S.le;simp only[A6,B6] at hle;obtain⟨L2,c1,c2⟩:=hrc L' (p++[(i:Int)]) (q++[cL n (i:Int) v]) hP (by simp) hgd h3.2;have ep:pf p=some p:=by unfold pf;rw[bg (by omega)];rfl
     have eq:pf q=some q:=by unfold pf;rw[bg (by omega)];rfl
     simp only[e3,e4,cond_true,D3,A0,ep,eq,bnd];rw[bg (by omega),A0,bg (by omega),A0,c1,A0];have hst:fE n D v p q i=D (p++[(i:Int)]) (q++[cL n (i:Int) v]):=by unfold fE;rw[if_pos h4]
     refine⟨_,rfl,⟨i+1,L2,by grind [aA],by omega,by rw[fW,hst];exact hL'.trans h3.2 c2⟩,?_⟩
     grind [aA]
    ·have e3:(cond (decide (0<=cL n (i:Int) v)) (some (!(q.any fun y=>y==cL n (i:Int) v))) (some false):Option Bool)=some false:=by
      by_cases h5:0<=cL n (i:Int) v
      ·have:(q.any fun y=>y==cL n (i:Int) v)=true:=by
        rw[<-pG,decide_eq_true_eq];exact Classical.byContradiction fun h6=>h4 ⟨h5,h6⟩
       simp[h5,this]
      ·simp[h5]
     rw[e3];simp only[A0,cond_false];have hst:fE n D v p q i=[]:=by unfold fE;rw[if_neg h4]
     refine⟨_,rfl,⟨i+1,L',by grind [aA],by omega,by grind [fW]⟩,?_⟩
     grind [aA]
   ·right;have e1:(cond (decide ((i:Int)<(n.F.length:Int))) (some (decide ((L'.length:Int)<=200))) (some false):Option Bool)=some false:=by
     by_cases h5:i<n.F.length
     ·have:¬L'.length<=200:=fun h=>h3 ⟨h5,h⟩;have e6:decide ((L'.length:Int)<=200)=false:=by simp only[decide_eq_false_iff_not];omega
      simp[h5,e6]
     ·simp[h5]
    simp only[e1,A0,cond_false];refine⟨_,rfl,L',rfl,?_⟩;by_cases h5:i<n.F.length
    ·obtain⟨R,hR⟩:=rP n D v p q n.F.length hi;rw[hR];exact hL'.full R fun h=>h3 ⟨h5,h⟩
    grind) N0 (0,n.N,n.F,d,L) ⟨0,L,rfl,K3 _,ln.refl hL.srt (by omega)⟩ (dm (by simp only;omega))
  grind
theorem wY{n:ae}(hn:bK n=true){s d:Int}(hsd:s≠d)(hs:0<=s/\s<(n.N.length:Int)):∀(k m:Nat),k<m->∀(L:List ai)(p q:List Int),lp n s p q->q.length+k=n.N.length->GdL n s L->L.length<=200->
 ∃L',Cr m s n.N n.F d L p q=some (n.N,n.F,d,L',q)/\ln n L (lk n s d k p q) L'
 |0,0,h=>by omega
 |0,m+1,_=>fun L p q hp hq hL hl=>mg hn hsd hs (fun L1 p1 q1 hp1 e _ _=>by have:=hp1.S.le;omega) (fun _ _ _ _ _ hr=>by cases hr) hp hL hl
 | k + 1, m, hm => fun L p q hp hq hL hl => by
   obtain⟨m,rfl⟩:∃m',m=m'+1:=⟨m-1,by omega⟩;exact mg hn hsd hs (fun L1 p1 q1 hp1 e hL1 hl1=>wY hn hsd hs k m (by omega) L1 p1 q1 hp1 (by omega) hL1 hl1) (fun p1 q1 h1 _=>rk hn hsd hs k p1 q1 h1) hp hL hl
def kl(n:ae)(s d:Int):List ai:=lk n s d (n.N.length-1) [] [s]
def VK{n:ae}(hn:bK n=true){s:Int}(hs:0<=s/\s<(n.N.length:Int)):lp n s [] [s]:=by
 have:=dJ hn;exact⟨⟨rfl,by simp,fun x hx=>by simp_all,fun e he=>(by cases he),⟨hs.1,by omega⟩⟩,fun ext=>rfl⟩
def YI{n:ae}(hn:bK n=true){s d:Int}(hsd:s≠d)(hs:0<=s/\s<(n.N.length:Int)):∃L,(if(kl n s d).length<=200 then Bj n s d=some (true,L)/\L.Perm (kl n s d)/\lW n L else Bj n s d=some (false,[])):=by
 obtain⟨b1,b2,b3⟩:=dJ hn;obtain⟨k,hk⟩:∃k,n.N.length=k+2:=⟨n.N.length-2,by omega⟩;have e:VG s n.N n.F d [s]=IQ (Cr N0) s n.N n.F d [] [] [s]:=rfl;obtain⟨L,e1,e2,e3,e4,e5⟩:=mg hn hsd hs (D:=lk n s d k) (rc:=Cr N0) (L:=[]) (p:=[]) (q:=[s]) (fun L1 p1 q1 hp1 e hL1 hl1=>wY hn hsd hs k N0 (dm (by omega)) L1 p1 q1 hp1 (by grind) hL1 hl1) (fun p1 q1 h1 _=>rk hn hsd hs k p1 q1 h1) (VK hn hs) ⟨H5.nil,fun r hr=>by cases hr⟩ (by simp);have hr:kl n s d=fZ n s d (lk n s d k) [] [s]:=by unfold kl;rw[hk];rfl
 rw[<-hr] at e5;refine⟨L,?_⟩;unfold Bj;simp only[bnd,B1,C6,K5] at e5⊢;rw[e,e1,A0];by_cases h:(kl n s d).length<=200
 ·rw[if_pos (by omega)] at e5;have hl:=e5.length_eq;have e7:decide ((200:Int)<(L.length:Int))=false:=by simp only[decide_eq_false_iff_not];omega
  rw[if_pos h];refine⟨?_,e5,e2⟩;show cond (decide ((200:Int)<(L.length:Int))) _ _=_;rw[e7,cond_false,bg (by simp only;omega)];rfl
 ·have hl:L.length=201:=by
   by_cases h2:(kl n s d).length<=201
   ·rw[if_pos h2] at e5;have:=e5.length_eq;omega
   ·grind
  simp_all
end Vs

namespace Vs
open Go
def ng(a:Nat):BitVec.ofInt 64 (a:Int)=BitVec.ofNat 64 a:=by
 apply BitVec.eq_of_toNat_eq;simp[BitVec.toNat_ofInt]
def borR(a b:Nat)(ha:a<2^62)(hb:b<2^62):bits .or .i64 (a:Int) (b:Int)=((a ||| b:Nat):Int):=by
 have hab:a ||| b<2^62:=K0 ha hb;show A4 .i64 ((BitVec.ofInt 64 (a:Int) ||| BitVec.ofInt 64 (b:Int)).toNat:Int)=_;rw[ng,ng,BitVec.toNat_or,BitVec.toNat_ofNat,BitVec.toNat_ofNat,G4 (by omega),G4 (by omega),aA (by omega) (by omega)]
theorem agk(m i:Nat)(hi:i<64)(hm:m<2^62):(bits .and .i64 (L9 (m:Int) (2^(min i (D4 .i64)))) 1==0)=!m.testBit i:=by
 have e1:min i (D4 .i64)=i:=by rw[show D4 .i64=64 from rfl];omega
 have e2:L9 (m:Int) (2^i)=((m/2^i:Nat):Int):=by
  rw[H0 _ (by exact_mod_cast K3 (2^i))];simp
 have hlt:m/2^i<2^62:=Nat.lt_of_le_of_lt (Nat.div_le_self ..) hm;rw[e1,e2];have e3:bits .and .i64 ((m/2^i:Nat):Int) 1=((m/2^i%2:Nat):Int):=by
  show A4 .i64 ((BitVec.ofInt 64 ((m/2^i:Nat):Int) &&& BitVec.ofInt 64 ((1:Nat):Int)).toNat:Int)=_;rw[ng,ng,BitVec.toNat_and,BitVec.toNat_ofNat,BitVec.toNat_ofNat,G4 (by omega),G4 (by omega),Nat.and_one_is_mod,aA (by omega) (by omega)]
 rw[e3,Nat.testBit_eq_decide_div_mod_eq];have:=Nat.mod_two_eq_zero_or_one (m/2^i);rcases this with h|h<;>rw[h]<;>simp
def Qf(xs:List Int)(hl:xs.length<=1048576):JO xs=some xs:=by
 unfold JO;rw[bg (by omega)];simp only[A0];cases xs with
 |nil=>rfl
 |cons x xs=>rfl
def zJ(m:Nat)(q:List Int):Prop:=m<2^8/\∀i:Nat,m.testBit i=decide ((i:Int)∈q)
def En{w:Nat}(hw:w<8):A4 .i64 (1*2^(min w (D4 .i64)))=((2^w:Nat):Int):=by
 have e1:min w (D4 .i64)=w:=by rw[show D4 .i64=64 from rfl];omega
 have q:(2:Nat)^w<=2^8:=G7 (by omega) (by omega);have p1:(1*2^w:Int)=((2^w:Nat):Int):=by rw[Int.one_mul];exact_mod_cast rfl
 have p2:((2^w:Nat):Int)<=256:=Int.ofNat_le.2 q;have p3:(0:Int)<=((2^w:Nat):Int):=J6 _;rw[e1,p1];generalize ((2^w:Nat):Int)=z at p2 p3;exact aA (by omega) (by omega)
def zJ.ext{m:Nat}{q:List Int}(h:zJ m q){w:Nat}(hw:w<8):zJ (m ||| 2^w) (q++[(w:Int)]):=by
 refine⟨K0 h.1 (Nat.pow_lt_pow_right (by omega) hw),fun i=>?_⟩;rw[Nat.testBit_or,h.2,Nat.testBit_two_pow,C5];simp only[K4,decide_eq_true_eq,B7,C1];constructor
 ·rintro(h|h)
  ·exact .inl h
  ·right;omega
 ·rintro(h|h)
  ·exact .inl h
  ·right;omega
def lY{n:ae}(hn:bK n=true){s d:Int}{D:List Int->List Int->List ai}{rc:Int->Int->List Int->Int->List ai->Int->ae->Option (Int×List ai×Int×ae)}{p q:List Int}{m:Nat}{out:List ai}
 (hrc:∀(p1 q1:List Int)(m1:Nat)(out:List ai),lp n s p1 q1->q1.length=q.length+1->zJ m1 q1->out.length+(D p1 q1).length<=1000000000000->rc (dU q1) (m1:Int) p1 d out s n=some (d,out++D p1 q1,s,n))
 (hp:lp n s p q) (hm:zJ m q) (hlen:out.length+(fZ n s d D p q).length<=1000000000000):
 Qb rc (dU q) (m:Int) p d out s n=some (d,out++fZ n s d D p q,s,n):=by
 obtain⟨b1,b2,b3⟩:=dJ hn;have h1:=hp.S.le;have h2:=hp.S.len;unfold Qb;unfold fZ at hlen⊢;by_cases hv:dU q=d
 ·have e0:(dU q==d)=true:=by simpa using hv
  rw[if_pos hv] at hlen⊢;simp only[B6] at hlen;rw[e0,cond_true,Qf p (by omega),A0];simp only[bnd];rw[bg (by omega)];rfl
 ·have e0:(dU q==d)=false:=by simpa using hv
  rw[if_neg hv] at hlen⊢;rw[e0,cond_false];generalize hvq:dU q=v at*
  obtain⟨b,o1,o2⟩:=bT (f:=M_x v (m:Int) p n rc) (fun t=>∃i:Nat,t=((i:Int),d,out++flS n D v p q i,s,n)/\i<=n.F.length) (fun t=>n.F.length-t.1.toNat) (fun b=>b=(d,out++flS n D v p q n.F.length,s,n)) (fun t⟨i,e,hi⟩=>by
   subst e;unfold M_x;by_cases h3:i<n.F.length
   ·left;have e1:decide ((i:Int)<(n.F.length:Int))=true:=by simp[h3]
    have hat:n.F[i]?=some n.F[i]:=A2 h3;have ho:cL n (i:Int) v=jm n.F[i] v:=by unfold cL;rw[A5,hat]
    have w1:A4 .i64 ((i:Int)+1)=((i+1:Nat):Int):=by rw[aA (by omega) (by omega)];rfl
    simp only[e1,cond_true,aR,hat,A0,ro,<-ho,w1];by_cases h0:0<=cL n (i:Int) v
    ·obtain⟨w,hw⟩:=H9 h0;have hlt:=Lq hn h3 h0;rw[hw] at hlt;have hw8:w<8:=by omega
     simp only[hw,A5];rw[bg (by omega)];simp only[A0,decide_eq_true (show(0:Int)<=(w:Int) by omega),cond_true,agk m w (by omega) (by have:=hm.1;omega),hm.2 w];by_cases h4:(w:Int)∈q
     ·rw[decide_eq_true h4];simp only[A7,cond_false];have hst:fE n D v p q i=[]:=by unfold fE;rw[if_neg (by rw[hw];exact fun h=>h.2 h4)]
      exact⟨_,rfl,⟨i+1,by rw[fW,hst,C8],by omega⟩,by simp only;omega⟩
     ·rw[decide_eq_false h4];simp only[D3,cond_true,bnd];have h5:0<=cL n (i:Int) v/\cL n (i:Int) v∉q:=⟨h0,by rw[hw];exact h4⟩;have hst:fE n D v p q i=D (p++[(i:Int)]) (q++[(w:Int)]):=by unfold fE;rw[if_pos h5,hw]
      have hP:lp n s (p++[(i:Int)]) (q++[(w:Int)]):=by subst hvq;rw[<-hw];exact hp.ext hn h3 h5.1 h5.2
      obtain⟨R,hR⟩:=rP n D v p q n.F.length (show i+1<=n.F.length by omega);rw[hR,fW,hst,A6,A6] at hlen;have hw2:(2:Nat)^w<=2^8:=G7 (by omega) (by omega);have hm1:=hm.1;rw[bg (by omega),A0,En hw8,borR m (2^w) (by omega) (by omega)];have hc:=hrc (p++[(i:Int)]) (q++[(w:Int)]) (m ||| 2^w) (out++flS n D v p q i) hP (by simp) (hm.ext hw8) (by rw[A6];omega);rw[qI] at hc;rw[hc,A0];exact⟨_,rfl,⟨i+1,by rw[fW,hst,B0],by omega⟩,by simp only;omega⟩
    ·have e3:decide (0<=cL n (i:Int) v)=false:=decide_eq_false h0;simp only[e3,cond_false,A0];have hst:fE n D v p q i=[]:=by unfold fE;rw[if_neg fun h=>h0 h.1]
     exact⟨_,rfl,⟨i+1,by rw[fW,hst,C8],by omega⟩,by simp only;omega⟩
   ·right;have:i=n.F.length:=by omega
    subst this;have e1:decide ((n.F.length:Int)<(n.F.length:Int))=false:=by simp
    simp only[e1,cond_false];exact⟨_,rfl,rfl⟩) N0 (0,d,out,s,n) ⟨0,by simp[flS],by omega⟩ (dm (by simp only;omega))
  rw[o1,o2];rfl
theorem zQ{n:ae}(hn:bK n=true){s d:Int}:∀(k f:Nat),k<f->∀(p q:List Int)(m:Nat)(out:List ai),lp n s p q->q.length+k=n.N.length->zJ m q->out.length+(lk n s d k p q).length<=1000000000000->
 Ie f (dU q) (m:Int) p d out s n=some (d,out++lk n s d k p q,s,n)
 |0,0,h=>by omega
 |0,f+1,_=>fun p q m out hp hq hm hl=>lY hn (fun p1 q1 m1 out1 hp1 e _ _=>by have:=hp1.S.le;omega) hp hm hl
 | k + 1, f, hf => fun p q m out hp hq hm hl => by
   obtain⟨f,rfl⟩:∃f',f=f'+1:=⟨f-1,by omega⟩;exact lY hn (fun p1 q1 m1 out1 hp1 e hm1 hl1=>zQ hn k f (by omega) p1 q1 m1 out1 hp1 (by omega) hm1 hl1) hp hm hl
def WG{n:ae}(hn:bK n=true){s d:Int}:∀(k:Nat)(p q:List Int),(lk n s d k p q).length<=14^k:=by
 obtain⟨b1,b2,b3⟩:=dJ hn;have body:∀(D:List Int->List Int->List ai)(B:Nat)(p q:List Int),(∀p q,(D p q).length<=B)->(fZ n s d D p q).length<=max 1 (14*B):=by
  intro D B p q hD;unfold fZ;split
  ·simp;omega
  ·have gen:∀m,(flS n D (dU q) p q m).length<=m*B:=by
    intro m;induction m with
    |zero=>simp[flS]
    | succ m ih =>
      rw[fW,A6,Nat.add_mul,Nat.one_mul];have:(fE n D (dU q) p q m).length<=B:=by
       unfold fE;split
       ·exact hD _ _
       ·simp
      omega
   have h1:=gen n.F.length;have h2:n.F.length*B<=14*B:=Nat.mul_le_mul_right B b3;omega
 intro k;induction k with
 | zero =>
   intro p q;have:=body (fun _ _=>[]) 0 p q (fun _ _=>by simp);simpa[lk] using this
 | succ k ih =>
   intro p q;have:=body (lk n s d k) (14^k) p q ih;have h2:0<14^k:=Nat.pow_pos (by omega);rw[Nat.pow_succ];show(fZ n s d (lk n s d k) p q).length<=_;omega
def Wm{n:ae}(hn:bK n=true)(s d:Int):(kl n s d).length<=105413504:=by
 obtain⟨b1,b2,b3⟩:=dJ hn;have h1:=WG hn (s:=s) (d:=d) (n.N.length-1) [] [s];have h2:(14:Nat)^(n.N.length-1)<=14^7:=G7 (by omega) (by omega);unfold kl;omega
def YF{n:ae}(hn:bK n=true){s d:Int}(hsd:s≠d)(hs:0<=s/\s<(n.N.length:Int)):∃ys,MX n s d=some ys/\ys.Perm (kl n s d)/\lW n ys:=by
 obtain⟨b1,b2,b3⟩:=dJ hn;obtain⟨k,hk⟩:∃k,n.N.length=k+2:=⟨n.N.length-2,by omega⟩;obtain⟨w,rfl⟩:=H9 hs.1;have hrl:=Wm hn (w:Int) d;have hr:kl n (w:Int) d=fZ n (w:Int) d (lk n (w:Int) d k) [] [(w:Int)]:=by unfold kl;rw[hk];rfl
 have hm:zJ (2^w) [(w:Int)]:=by
  have:zJ 0 []:=⟨by omega,fun i=>by simp⟩;have:=this.ext (w:=w) (by omega);simpa using this
 have hc:=lY hn (s:=(w:Int)) (d:=d) (D:=lk n (w:Int) d k) (rc:=Ie N0) (p:=[]) (q:=[(w:Int)]) (m:=2^w) (out:=[]) (fun p1 q1 m1 out1 hp1 e hm1 hl1=>zQ hn k N0 (dm (by omega)) p1 q1 m1 out1 hp1 (by simp only[B6] at e;omega) hm1 hl1) (VK hn hs) hm (by rw[<-hr];simp;omega);rw[<-hr] at hc;have hok:=rk hn hsd hs (n.N.length-1) [] [(w:Int)] (VK hn hs);obtain⟨ys,y1,y2,y3⟩:=BA (cmp:=fun x0 x1=>xI x0 x1 n) (xs:=kl n (w:Int) d) (fe n) (by omega) (fun x hx y hy=>by
  show xI x y n=_;unfold xI;rw[gv (hok x hx).b (hok y hy).b];rfl) (fun x _=>PT n x) (fun x hx y hy z hz=>Fs ((hok x hx).st.trans (hok y hy).st.symm) ((hok y hy).st.trans (hok z hz).st.symm)) (fun x hx y hy z hz=>xm ((hok x hx).st.trans (hok y hy).st.symm) ((hok y hy).st.trans (hok z hz).st.symm))
 refine⟨ys,?_,y2,y3⟩;unfold MX;have e0:(((w:Int)) !=d)=true:=bne_iff_ne.2 hsd;have e1:Wb (w:Int) (A4 .i64 (1*2^(min (C4 (w:Int)) (D4 .i64)))) [] d [] (w:Int) n=some (d,kl n (w:Int) d,(w:Int),n):=by
  rw[A5,En (show w<8 by omega)];rw[show dU [(w:Int)]=(w:Int) from rfl,K5] at hc;exact hc
 rw[e0,cond_true,bg (by omega),A0,e1];simp only[A0];rw[y1];rfl
def adw(xs:List Int)(f:Int->Option Bool)(p:Int->Bool)(hf:∀x,f x=some (p x))(hl:xs.length<=1048576):Ml xs f=some (xs.any p):=by
 unfold Ml Sm;rw[dh (f:=IP xs f) xs (fun _ x=>p x) (fun i _=>(i:Int)) () (fun i x hx _=>by
  have hlt:=(A1.1 hx).1;have h1:decide ((i:Int)<xs.length)=true:=by simp[hlt]
  simp only[IP,h1,cond_true,aR,hx,hf x,A0];rw[aA (by omega) (by omega)];cases p x<;>rfl) (by simp[IP]) (by omega)]
 rw[<-nq];cases e:cU (fun _ x=>p x) xs with
 | none =>
   have h:eT (fun _ x=>p x) xs=false:=dj.2 (ef.1 e);rw[h];rfl
 | some q =>
   obtain⟨i,x⟩:=q;obtain⟨h1,h2,_⟩:=cT.1 e;have h:eT (fun _ x=>p x) xs=true:=gr.2 ⟨i,x,h1,h2⟩;rw[h];simp
def OQ{n:ae}(hn:bK n=true)(hz:bd n<=1048576){s d:Int}(hsd:s≠d)(hs:0<=s/\s<(n.N.length:Int))(hd:0<=d/\d<(n.N.length:Int)):∃L,(if(kl n s d).length<=200 then Hj n s d=some (L,true)/\L.Perm (kl n s d)/\lW n L else Hj n s d=some ([],false)):=by
 obtain⟨b1,b2,b3⟩:=dJ hn;obtain⟨L,l1,l2,l3⟩:=YF hn hsd hs;have hl:=l2.length_eq;refine⟨L,?_⟩;have e1:MI n [s,d]=some true:=by
  unfold MI;rw[ge n hz,hn];simp only[A0,cond_true];rw[adw [s,d] _ (fun x=>!wi x 0 ((n.N.length:Int)-1)) (fun x=>by
   unfold Qt;rw[aA (by omega) (by omega),dY];rfl) (by simp)]
  have q1:wi s 0 ((n.N.length:Int)-1)=true:=cD.2 (by omega);have q2:wi d 0 ((n.N.length:Int)-1)=true:=cD.2 (by omega);simp[q1,q2]
 have e2:(s==d)=false:=by simpa using hsd
 unfold Hj;simp only[bnd,e1,A0,A7,cond_false,e2,l1];by_cases h:(kl n s d).length<=200
 ·rw[if_pos h];have e3:decide ((200:Int)<(L.length:Int))=false:=by simp only[decide_eq_false_iff_not];omega
  rw[e3];exact⟨rfl,l2,l3⟩
 ·rw[if_neg h];have e3:decide ((200:Int)<(L.length:Int))=true:=by simp only[decide_eq_true_eq];omega
  rw[e3];rfl
end Vs

namespace Vs
open Go
def Aw{n:ae}{s d:Int}{D:List Int->List Int->List ai}(hD:∀p q r,r∈D p q->∃t,r.F=p++t)(p q:List Int):∀r∈fZ n s d D p q,∃t,r.F=p++t:=by
 intro r hr;unfold fZ at hr;split at hr
 ·rw[C1] at hr;subst hr;exact⟨[],by simp⟩
 ·unfold flS at hr;rw[H8] at hr;obtain⟨i,_,hr⟩:=hr;unfold fE at hr;split at hr
  ·obtain⟨t,ht⟩:=hD _ _ r hr;exact⟨(i:Int)::t,by rw[ht];simp⟩
  ·cases hr
theorem Dr{n:ae}{s d:Int}:∀(k:Nat)(p q:List Int),∀r∈lk n s d k p q,∃t,r.F=p++t
 |0,p,q=>Aw (fun _ _ _ hr=>by cases hr) p q
 |k+1,p,q=>Aw (fun p q r hr=>Dr k p q r hr) p q
def Fi{n:ae}{s d:Int}{D:List Int->List Int->List ai}(hD:∀p q r,r∈D p q->∃t,r.F=p++t)(hN:∀p q,(D p q).Nodup)(p q:List Int):(fZ n s d D p q).Nodup:=by
 unfold fZ;split
 ·simp
 ·have gen:∀m,(flS n D (dU q) p q m).Nodup/\∀r∈flS n D (dU q) p q m,∃(j:Nat)(t:List Int),j<m/\r.F=(p++[(j:Int)])++t:=by
   intro m;induction m with
   |zero=>exact⟨by simp[flS],fun r hr=>by simp[flS] at hr⟩
   | succ m ih =>
     obtain⟨i1,i2⟩:=ih;have hs:∀r∈fE n D (dU q) p q m,∃t,r.F=(p++[(m:Int)])++t:=fun r hr=>by
      unfold fE at hr;split at hr
      ·exact hD _ _ r hr
      ·cases hr
     rw[fW];refine⟨?_,fun r hr=>?_⟩
     ·rw[J9];refine⟨i1,by unfold fE;split;exact hN _ _;simp,fun a ha b hb e=>?_⟩;obtain⟨j,t,hj,h1⟩:=i2 a ha;obtain⟨t',h2⟩:=hs b hb;rw[e,h2,B0,B0] at h1;have:=List.append_cancel_left h1;simp only[G3,List.cons.injEq] at this;omega
     ·rcases B7.1 hr with h|h
      ·obtain⟨j,t,hj,h1⟩:=i2 r h;exact⟨j,t,by omega,h1⟩
      ·obtain⟨t,h1⟩:=hs r h;exact⟨m,t,by omega,h1⟩
  exact(gen _).1
theorem RA{n:ae}{s d:Int}:∀(k:Nat)(p q:List Int),(lk n s d k p q).Nodup
 |0,p,q=>Fi (fun _ _ _ hr=>by cases hr) (fun _ _=>K9) p q
 |k+1,p,q=>Fi (fun p q r hr=>Dr k p q r hr) (fun p q=>RA k p q) p q
def jO(l:List az)(i:Nat)(x:az):Bool:=!wi x.N 1 20000||!wi x.F 1 1000||(decide (0<i)&&match l[i-1]? with|some g=>decide (g.N<=x.N)||decide (x.F<=g.F)|none=>false)
def iu(l:List az):Bool:=!eT (jO l) l&&wi (l.length:Int) 1 6
theorem QU(l:List az)(hl:l.length<=1048576):FC l=some (iu l):=by
 unfold FC iu;rw[eB (f:=FZ l) l (jO l) (.inr false) (.inl ()) (fun i x hx hprev=>by
  have hlt:=(A1.1 hx).1;have h1:decide ((i:Int)<l.length)=true:=by simp[hlt]
  simp only[FZ,h1,cond_true,aR,hx,A0,dY];rw[aA (n:=(i:Int)+1) (by omega) (by omega)];unfold jO;by_cases h0:0<i
  ·have e0:decide ((0:Int)<(i:Int))=true:=decide_eq_true (by omega);have ew:A4 .i64 ((i:Int)-1)=((i-1:Nat):Int):=by rw[aA (by omega) (by omega)];omega
   have hg:l[i-1]?=some (l[i-1]'(by omega)):=A2 (by omega);rw[e0,ew,aR,hg,decide_eq_true h0];simp only[cond_true,A0,B4];cases wi x.N 1 20000<;>cases wi x.F 1 1000<;>cases decide ((l[i-1]'(by omega)).N<=x.N)<;>cases decide (x.F<=(l[i-1]'(by omega)).F)<;>rfl
  ·have e0:decide ((0:Int)<(i:Int))=false:=decide_eq_false (by omega);rw[e0,decide_eq_false h0];cases wi x.N 1 20000<;>cases wi x.F 1 1000<;>rfl) (by simp[FZ]) (by omega)]
 simp only[dY,A0];cases eT (jO l) l<;>rfl
theorem adc(l:List az)(hl:l.length<=1048576):Gr l=some (iu l):=by
 unfold Gr iu;rw[eB (f:=M_i l) (l.take 7) (jO l) (.inr false) (.inl ()) (fun i x hx hprev=>by
  have hlt7:=(A1.1 hx).1;rw[D8] at hlt7;have hlt:i<l.length:=by omega
  rw[F3,if_pos (by omega)] at hx;have h1:decide ((i:Int)<l.length)=true:=by simp[hlt]
  have h2:decide ((i:Int)<=6)=true:=by simp;omega
  simp only[M_i,h1,h2,cond_true,aR,hx,A0,iR];rw[aA (n:=(i:Int)+1) (by omega) (by omega)];unfold jO;by_cases h0:0<i
  ·have e0:decide ((0:Int)<(i:Int))=true:=decide_eq_true (by omega);have ew:A4 .i64 ((i:Int)-1)=((i-1:Nat):Int):=by rw[aA (by omega) (by omega)];omega
   have hg:l[i-1]?=some (l[i-1]'(by omega)):=A2 (by omega);rw[e0,ew,aR,hg,decide_eq_true h0];simp only[cond_true,A0,B4];cases wi x.N 1 20000<;>cases wi x.F 1 1000<;>cases decide ((l[i-1]'(by omega)).N<=x.N)<;>cases decide (x.F<=(l[i-1]'(by omega)).F)<;>rfl
  ·have e0:decide ((0:Int)<(i:Int))=false:=decide_eq_false (by omega);rw[e0,decide_eq_false h0];cases wi x.N 1 20000<;>cases wi x.F 1 1000<;>rfl) (by
  rw[D8];have:(cond (decide (((min 7 l.length:Nat):Int)<(l.length:Int))) (some (decide (((min 7 l.length:Nat):Int)<=6))) (some false):Option Bool)=some false:=by
   by_cases h:l.length<=7
   ·have:decide (((min 7 l.length:Nat):Int)<(l.length:Int))=false:=by simp only[decide_eq_false_iff_not];omega
    rw[this];rfl
   ·have:decide (((min 7 l.length:Nat):Int)<=6)=false:=by simp only[decide_eq_false_iff_not];omega
    rw[this];cases decide (((min 7 l.length:Nat):Int)<(l.length:Int))<;>rfl
  simp only[M_i,this,A0,cond_false]) (by rw[D8];omega)]
 simp only[iR,A0];by_cases h:l.length<=7
 ·rw[G1 h];cases eT (jO l) l<;>rfl
 ·have:wi (l.length:Int) 1 6=false:=by
   cases e:wi (l.length:Int) 1 6 with
   |false=>rfl
   |true=>have:=cD.1 e;omega
  rw[this,Bool.and_false];cases eT (jO l) (l.take 7)<;>rfl
def wR{l:List az}(h:iu l=true):1<=l.length/\l.length<=6/\∀x∈l,(1<=x.N/\x.N<=20000)/\1<=x.F/\x.F<=1000:=by
 unfold iu at h;simp only[B2,E0,cD] at h;refine⟨by omega,by omega,fun x hx=>?_⟩;obtain⟨i,hi⟩:=B5 hx;have:=dj.1 h.1 i x hi;unfold jO at this;simp only[C2,E6,cD] at this;omega
def eZ(l:List az)(len:Int):Nat->Option Nat
 |0=>none
 | k + 1 => match l[k]? with
   |some f=>if len<=f.N then some k else eZ l len k
   |none=>eZ l len k
def po(f:az)(rate:Int):Int:=Int.tdiv (rate+f.F-1) f.F
def fI(l:List az)(len rate:Int):Int:=match eZ l len l.length with
 | some k => match l[k]? with
   |some f=>if 24<po f rate then 0 else po f rate
   |none=>0
 |none=>0
def Hv:Option Nat->Int
 |some k=>(k:Int)
 |none=>-1
theorem ni(l:List az)(len:Int):∀(m k:Nat),eZ l len m=some k->k<m/\∃f,l[k]?=some f/\len<=f.N
 |0,k,h=>by cases h
 | m + 1, k, h => by
   unfold eZ at h;cases e:l[m]? with
   | none =>
     rw[e] at h;have:=ni l len m k h;exact⟨by omega,this.2⟩
   | some f =>
     rw[e] at h;simp only at h;split at h
     ·rename_i c;cases h;exact⟨by omega,f,e,c⟩
     ·have:=ni l len m k h;exact⟨by omega,this.2⟩
def WS(l:List az)(len:Int)(hl:l.length<=1048576):QK l len=some (Hv (eZ l len l.length)):=by
 unfold QK;obtain⟨b,b1,b2⟩:=bT (f:=Nl l len) (fun s=>∃i:Nat,s=(Hv (eZ l len i),(i:Int))/\i<=l.length) (fun s=>l.length-s.2.toNat) (fun b=>b=Hv (eZ l len l.length)) (fun s⟨i,e,hi⟩=>by
  subst e;unfold Nl;by_cases h:i<l.length
  ·left;have hf:l[i]?=some l[i]:=A2 h;have e1:decide ((i:Int)<(l.length:Int))=true:=by simp[h]
   simp only[e1,cond_true,aR,hf,A0];rw[aA (by omega) (by omega)];by_cases c:len<=l[i].N
   ·rw[decide_eq_true c];exact⟨_,rfl,⟨i+1,by simp only[eZ,hf,if_pos c,Hv];rfl,by omega⟩,by simp only;omega⟩
   ·rw[decide_eq_false c];exact⟨_,rfl,⟨i+1,by simp only[eZ,hf,if_neg c];rfl,by omega⟩,by simp only;omega⟩
  ·right;have:i=l.length:=by omega
   subst this;have e1:decide ((l.length:Int)<(l.length:Int))=false:=by simp
   simp only[e1,cond_false];exact⟨_,rfl,rfl⟩) N0 (-1,0) ⟨0,rfl,by omega⟩ (dm (by simp only;omega))
 rw[b1,b2];rfl
def NK(l:List az)(len:Int)(h:iu l=true)(hl:0<=len):Qi l len=some (match eZ l len l.length with|some k=>((k:Int),true)|none=>(0,false)):=by
 obtain⟨f1,f2,f3⟩:=wR h;unfold Qi;rw[QU l (by omega),h];simp only[A0,A7,cond_false,dY];by_cases h2:len<=20000
 ·rw[show wi len 0 20000=true from cD.2 (by omega)];simp only[A7,cond_false];obtain⟨b,b1,b2⟩:=bT (f:=NT l len) (fun s=>∃i:Nat,s=(i:Int)-1/\i<=l.length/\eZ l len i=eZ l len l.length) (fun s=>(s+1).toNat) (fun b=>b=match eZ l len l.length with|some k=>.inr ((k:Int),true)|none=>.inl ()) (fun s⟨i,e,hi,hb⟩=>by
   subst e;unfold NT;cases i with
   | zero =>
     right;rw[<-hb];exact⟨_,by simp;rfl,rfl⟩
   | succ i =>
     have hf:l[i]?=some l[i]:=A2 (by omega);have e0:((i+1:Nat):Int)-1=(i:Int):=by omega
     have e1:decide (0<=(i:Int))=true:=by simp
     rw[e0,e1,cond_true,aR,hf,A0];have hb2:eZ l len (i+1)=if len<=l[i].N then some i else eZ l len i:=by rw[eZ,hf]
     rw[hb2] at hb;by_cases c:len<=l[i].N
     ·right;rw[if_pos c] at hb;rw[decide_eq_true c];exact⟨_,rfl,by rw[<-hb]⟩
     ·left;rw[if_neg c] at hb;rw[decide_eq_false c];exact⟨_,rfl,⟨i,by rw[aA (by omega) (by omega)],by omega,hb⟩,by rw[aA (by omega) (by omega)];omega⟩) N0 ((l.length:Int)-1) ⟨l.length,rfl,C9 _,rfl⟩ (dm (by omega))
  rw[aA (by omega) (by omega),b1,b2];cases eZ l len l.length<;>rfl
 ·have e:wi len 0 20000=false:=by
   cases e:wi len 0 20000 with
   |false=>rfl
   |true=>have:=cD.1 e;omega
  rw[e];have hb:eZ l len l.length=none:=by
   cases hb:eZ l len l.length with
   |none=>rfl
   | some k =>
     obtain⟨_,f,g1,g2⟩:=ni l len l.length k hb;have:=(f3 f (A3 g1)).1;omega
  rw[hb];rfl
def wL{f:az}{rate:Int}(hf:1<=f.F/\f.F<=1000)(hr:1<=rate/\rate<=1000):1<=po f rate/\po f rate<=2000:=by
 unfold po;rw[E5 (by omega)];have h1:(rate+f.F-1)/f.F<=rate+f.F-1:=Int.ediv_le_self _ (by omega);have h2:1<=(rate+f.F-1)/f.F:=by
  rw[Int.le_ediv_iff_mul_le (by omega)];omega
 omega
def QX{l:List az}{len rate:Int}(h:iu l=true)(hr:1<=rate/\rate<=1000):0<=fI l len rate/\fI l len rate<=24:=by
 obtain⟨f1,f2,f3⟩:=wR h;unfold fI;split
 ·split
  ·rename_i f hf;have:=wL (f3 f (A3 hf)).2 hr;split<;>omega
  ·omega
 ·omega
def pD(l:List az)(len rate:Int)(h:iu l=true)(hr:1<=rate/\rate<=1000):xe l len rate=some (fI l len rate):=by
 obtain⟨f1,f2,f3⟩:=wR h;unfold xe fI;rw[WS l len (by omega),A0];cases hb:eZ l len l.length with
 |none=>rfl
 | some k =>
   obtain⟨_,f,g1,g2⟩:=ni l len l.length k hb;have hf:=(f3 f (A3 g1)).2;have hc:=wL hf hr;have e1:decide (Hv (some k)<0)=false:=decide_eq_false (show¬(k:Int)<0 by omega);have e2:bE l (Hv (some k))=some f:=by show bE l (k:Int)=some f;rw[aR,g1]
   rw[e1,cond_false,e2];simp only[A0,g1];rw[bg (by omega),A0,aA (n:=rate+f.F) (by omega) (by omega),aA (n:=rate+f.F-1) (by omega) (by omega)];show cond (decide (24<A4 .i64 (po f rate))) (some 0) (some (A4 .i64 (po f rate)))=_;rw[aA (by omega) (by omega)];by_cases c:24<po f rate
   ·rw[decide_eq_true c,if_pos c];rfl
   ·rw[decide_eq_false c,if_neg c];rfl
def Vq(l:List az)(len rate:Int)(h:iu l=true)(hl:0<=len)(hr:1<=rate/\rate<=1000):MA l len rate=some (fI l len rate,decide (0<fI l len rate)):=by
 obtain⟨f1,f2,f3⟩:=wR h;unfold MA fI;rw[NK l len h hl,A0];cases hb:eZ l len l.length with
 |none=>rfl
 | some k =>
   obtain⟨_,f,g1,g2⟩:=ni l len l.length k hb;have hf:=(f3 f (A3 g1)).2;have hc:=wL hf hr;simp only[A7,cond_false,dY,A0,show wi rate 1 1000=true from cD.2 hr,aR,g1];rw[bg (by omega),A0,aA (n:=rate+f.F) (by omega) (by omega),aA (n:=rate+f.F-1) (by omega) (by omega)];show cond (decide (24<A4 .i64 (po f rate))) (some (0,false)) (some (A4 .i64 (po f rate),true))=_;rw[aA (by omega) (by omega)];by_cases c:24<po f rate
   ·rw[decide_eq_true c,if_pos c];rfl
   ·rw[decide_eq_false c,if_neg c,decide_eq_true (show 0<po f rate by omega)];rfl
end Vs

namespace Vs
open Go
def yu(n:ae)(d:aM):Bool:=wi d.N 0 ((n.N.length:Int)-1)&&(wi d.L 0 ((n.N.length:Int)-1)&&((d.N !=d.L)&&(wi d.F 1 1000&&wi d.W 0 2)))
def WT(n:ae)(d:aM)(hN:n.N.length<=1048576):RE n d=some (yu n d):=by
 unfold RE yu;rw[aA (by omega) (by omega)];simp only[dY,A0];cases wi d.N 0 ((n.N.length:Int)-1)<;>cases wi d.L 0 ((n.N.length:Int)-1)<;>cases(d.N !=d.L)<;>cases wi d.F 1 1000<;>cases wi d.W 0 2<;>rfl
def acz(n:ae)(d:aM)(hN:n.N.length<=1048576):GK n d=some (yu n d):=by
 unfold GK yu;rw[aA (by omega) (by omega)];simp only[iR,A0];cases wi d.N 0 ((n.N.length:Int)-1)<;>cases wi d.L 0 ((n.N.length:Int)-1)<;>cases(d.N !=d.L)<;>cases wi d.F 1 1000<;>cases wi d.W 0 2<;>rfl
def aeh(xs:List aM)(f:aM->Option Bool)(p:aM->Bool)(hf:∀x∈xs,f x=some (p x))(hl:xs.length<=1048576):Rs xs f=some (xs.any p):=by
 unfold Rs SE;rw[dh (f:=IM xs f) xs (fun _ x=>p x) (fun i _=>(i:Int)) () (fun i x hx _=>by
  have hlt:=(A1.1 hx).1;have h1:decide ((i:Int)<xs.length)=true:=by simp[hlt]
  simp only[IM,h1,cond_true,aR,hx,hf x (A3 hx),A0];rw[aA (by omega) (by omega)];cases p x<;>rfl) (by simp[IM]) (by omega)]
 rw[<-nq];cases e:cU (fun _ x=>p x) xs with
 | none =>
   have h:eT (fun _ x=>p x) xs=false:=dj.2 (ef.1 e);rw[h];rfl
 | some q =>
   obtain⟨i,x⟩:=q;obtain⟨h1,h2,_⟩:=cT.1 e;have h:eT (fun _ x=>p x) xs=true:=gr.2 ⟨i,x,h1,h2⟩;rw[h];simp
theorem MW(n:ae)(d:aM)(hz:bd n<=1048576):QF n [d]=some (bK n&&yu n d):=by
 unfold QF;rw[ge n hz,A0];cases hn:bK n with
 |false=>rfl
 | true =>
   have hN:=dJ hn;rw[aeh [d] _ (fun d=>!yu n d) (fun x _=>by
    unfold Pu;rw[WT n x (by omega)];rfl) (by simp)]
   simp
def usF(n:ae)(l:List az)(rate:Int)(r:ai):Option aq:=if 0<fI l (dC n r) rate then some ⟨r,fI l (dC n r) rate⟩ else none
def usG(n:ae)(l:List az)(rate:Int)(_:Nat)(r:ai)(a:List aq):List aq:=if 0<fI l (dC n r) rate then a++[⟨r,fI l (dC n r) rate⟩] else a
theorem DX(n:ae)(l:List az)(rate:Int):∀(L:List ai)(k:Nat)(a:List aq),iw (usG n l rate) k L a=a++L.filterMap (usF n l rate)
 |[],_,a=>by simp[iw]
 | r :: L, k, a => by
   simp only[iw];rw[DX n l rate L,J4];unfold usG usF;by_cases c:0<fI l (dC n r) rate
   ·simp[c]
   ·simp[c]
def usH(n:ae)(l:List az)(rate:Int)(_:Nat)(r:ai)(a:List ai×List Int):List ai×List Int:=if 0<fI l (dC n r) rate then(a.1++[r],a.2++[fI l (dC n r) rate]) else a
theorem yX(n:ae)(l:List az)(rate:Int):∀(L:List ai)(k:Nat)(a:List ai×List Int),iw (usH n l rate) k L a=(a.1++(L.filterMap (usF n l rate)).map (·.F),a.2++(L.filterMap (usF n l rate)).map (·.N))
 |[],_,a=>by simp[iw]
 | r :: L, k, a => by
   simp only[iw];rw[yX n l rate L,J4];unfold usH usF;by_cases c:0<fI l (dC n r) rate
   ·simp[c]
   ·simp[c]
structure vP(n:ae)(s:Int)(cs:List aq):Prop where
 net:bK n=true
 len:cs.length<=200
 ok:∀c∈cs,RtV n s c.F/\0<=c.N/\c.N<=24
 srt:cs.Pairwise fun a b=>fe n a.F b.F<0
def AA(n:ae)(d:aM)(fs:List az)(hz:bd n<=1048576)(hf:fs.length<=1048576):
 ∃ok cs,GS n fs d=some (ok,cs)/\CF n d fs=some (ok,cs.map (·.F),cs.map (·.N),fs)/\(ok=true->vP n d.N cs/\iu fs=true/\(1<=d.F/\d.F<=1000)/\∀c∈cs,c.N=fI fs (dC n c.F) d.F)/\(ok=false->cs=[]):=by
 unfold GS CF;simp only[QU fs hf,adc fs hf,bnd,dE,rM n hz,MW n d hz,A0];cases hn:bK n with
 | false =>
   refine⟨false,[],?_,rfl,(fun h=>by cases h),fun _=>rfl⟩;cases iu fs<;>rfl
 | true =>
   have hN:=dJ hn;rw[acz n d (by omega)];cases hfo:iu fs with
   |false=>exact⟨false,[],rfl,rfl,(fun h=>by cases h),fun _=>rfl⟩
   | true =>
     cases hd:yu n d with
     |false=>exact⟨false,[],rfl,rfl,(fun h=>by cases h),fun _=>rfl⟩
     | true =>
       unfold yu at hd;simp only[B2,cD,bne_iff_ne] at hd;obtain⟨d1,d2,d3,d4,_⟩:=hd;have hs:0<=d.N/\d.N<(n.N.length:Int):=by omega
       have ht:0<=d.L/\d.L<(n.N.length:Int):=by omega
       obtain⟨L1,a⟩:=OQ hn hz d3 hs ht;obtain⟨L2,b⟩:=YI hn d3 hs;unfold IA;simp only[A7,cond_false,Bool.and_self,A0];by_cases hc:(kl n d.N d.L).length<=200
       ·rw[if_pos hc] at a b;obtain⟨a1,a2,a3⟩:=a;obtain⟨b1,b2,b3⟩:=b;have e:L1=L2:=Et L1 L2 (a2.trans b2.symm) a3 b3;subst e;have hll:=a2.length_eq;have hok:∀r∈L1,RtV n d.N r:=fun r hr=>rk hn d3 hs _ _ _ (VK hn hs) r (a2.mem_iff.1 hr);have hnd:L1.Nodup:=a2.nodup_iff.2 (RA _ _ _);have hlt:L1.Pairwise fun a b=>fe n a b<0:=by
         have:=H5.and a3 hnd;refine this.imp fun{x y} h=>?_;rcases zi h.1 with h1|h1
         ·exact h1
         ·exact absurd h1.symm h.2
        rw[a1,b1];simp only[A7,cond_false,A0];have i1:=mf (f:=FM n fs d (L1,true)) L1 (fun i(a:List aq)=>((i:Int),a)) (usG n fs d.F) id (fun i a=>a.length<=i) (fun i a r hx hI=>by
         have hlt:=(A1.1 hx).1;have hr:=(hok r (A3 hx)).b;have h1:decide ((i:Int)<L1.length)=true:=by simp[hlt]
         refine⟨by unfold usG;split<;>(try simp only[A6,A8,B1])<;>omega,?_⟩;simp only[FM,h1,cond_true,A5,hx,A0];rw[bg ⟨by omega,by omega⟩,A0,lU hr,A0,Vq fs _ _ hfo (uX hn hr).1 d4,aA (by omega) (by omega)];simp only[A0,bnd];unfold usG;by_cases c:0<fI fs (dC n r) d.F
         ·rw[decide_eq_true c,cond_true,bg (by omega),A0,if_pos c];rfl
         ·rw[decide_eq_false c,cond_false,if_neg c];rfl) (fun a _=>by simp[FM]) [] (by simp) (by omega)
        have i2:=mf (f:=xL n d fs (true,L1)) L1 (fun i(a:List ai×List Int)=>((i:Int),a.1,a.2)) (usH n fs d.F) id (fun i a=>a.1.length<=i/\a.2.length<=i) (fun i a r hx hI=>by
         have hlt:=(A1.1 hx).1;have hr:=(hok r (A3 hx)).b;have h1:decide ((i:Int)<L1.length)=true:=by simp[hlt]
         refine⟨by unfold usH;split<;>(try simp only[A6,A8,B1])<;>omega,?_⟩;simp only[xL,h1,cond_true,A5,hx,A0];rw[bg ⟨by omega,by omega⟩,A0,eQ hr,A0];simp only[bnd,dE];rw[pD fs _ _ hfo d4,aA (by omega) (by omega)];simp only[A0];unfold usH;by_cases c:0<fI fs (dC n r) d.F
         ·rw[decide_eq_true c,cond_true,bg (by omega),A0,bg (by omega),A0,if_pos c];rfl
         ·rw[decide_eq_false c,cond_false,if_neg c];rfl) (fun a _=>by simp[xL]) ([],[]) (by simp) (by omega)
        have e0:((0:Nat):Int)=0:=rfl;simp only[e0,id] at i1 i2;rw[i1,i2,DX,yX];refine⟨true,L1.filterMap (usF n fs d.F),by simp,by simp,(fun _=>⟨⟨hn,?_,fun c hc=>?_,?_⟩,trivial,d4,fun c hc=>?_⟩),(fun h=>by cases h)⟩
        ·have:=List.length_filterMap_le (usF n fs d.F) L1;omega
        ·rw[J7] at hc;obtain⟨r,hr,h1⟩:=hc;unfold usF at h1;split at h1
         ·cases h1;have:=QX (l:=fs) (len:=dC n r) hfo d4;exact⟨hok r hr,this⟩
         ·cases h1
        ·rw[List.pairwise_filterMap];refine hlt.imp fun{x y} h b hb b' hb'=>?_;unfold usF at hb hb';split at hb
         ·split at hb'
          ·cases hb;cases hb';exact h
          ·cases hb'
         ·cases hb
        ·rw[J7] at hc;obtain⟨r,hr,h1⟩:=hc;unfold usF at h1;split at h1
         ·cases h1;rfl
         ·cases h1
       ·rw[if_neg hc] at a b;rw[a,b];exact⟨false,[],rfl,rfl,(fun h=>by cases h),fun _=>rfl⟩
end Vs

namespace Vs
open Go
def CS{n:ae}{x y:Int}(h:nJ n x y):nJ n y x:=by
 rcases h with h|⟨h1,h2⟩
 ·exact .inl h.symm
 ·exact .inr ⟨fun e=>h1 (by rw[h2,e]),h2.symm⟩
def Xj{n:ae}{a b:List Int}(ha:∀x∈a,iX n x)(hb:∀x∈b,iX n x):apP n a b=apP n b a:=by
 have key:∀{a b:List Int},(∀x∈a,iX n x)->(∀x∈b,iX n x)->apP n a b=false->apP n b a=false:=fun{a b} ha hb h=>by
  unfold apP at h⊢;rw[E6,D7] at h⊢;obtain⟨x,h1,h2⟩:=h;rw[D7] at h2;obtain⟨y,h3,h4⟩:=h2;refine⟨y,h3,D7.2 ⟨x,h1,?_⟩⟩;rw[decide_eq_true_eq] at h4⊢;exact(mP (ha x h1)).2 (CS ((mP (hb y h3)).1 h4))
 cases h:apP n a b with
 |false=>exact(key ha hb h).symm
 | true =>
   cases h':apP n b a with
   |true=>rfl
   |false=>rw[key hb ha h'] at h;cases h
def cst(c:aq):Int:=c.N*(c.F.F.length:Int)
def cN(cs:List aq)(i:Nat):Int:=match cs[i]? with|some c=>cst c|none=>0
def apN(n:ae)(cs:List aq)(i k:Nat):Bool:=match cs[i]?,cs[k]? with|some a,some b=>apP n a.F.F b.F.F|_,_=>false
structure Al(n:ae)(cs:List aq)(j l:Nat):Prop where
 hj:j<cs.length
 hl:l<cs.length
 ne:j≠l
 c:cN cs j<cN cs l\/cN cs j=cN cs l/\j<l
 a:apN n cs j l=true
def lx(cs:List aq)(j l i k:Nat):Prop:=cN cs j+cN cs l<cN cs i+cN cs k\/(cN cs j+cN cs l=cN cs i+cN cs k/\(j<i\/j=i/\l<k))
instance(cs:List aq)(j l i k:Nat):Decidable (lx cs j l i k):=by unfold lx;infer_instance
def IsB(n:ae)(cs:List aq)(S:Nat->Nat->Prop):Option (Nat×Nat)->Prop
 |none=>∀j l,S j l->¬Al n cs j l
 |some q=>S q.1 q.2/\Al n cs q.1 q.2/\∀j l,S j l->Al n cs j l->¬lx cs j l q.1 q.2
def RY{n:ae}{cs:List aq}{b b':Option (Nat×Nat)}(h:IsB n cs (fun _ _=>True) b)(h':IsB n cs (fun _ _=>True) b'):b=b':=by
 cases b with
 | none => cases b' with
   |none=>rfl
   |some q=>exact(h q.1 q.2 trivial h'.2.1).elim
 | some p => cases b' with
   |none=>exact(h' p.1 p.2 trivial h.2.1).elim
   | some q =>
     obtain⟨a,b⟩:=p;obtain⟨x,y⟩:=q;have h1:=h.2.2 x y trivial h'.2.1;have h2:=h'.2.2 a b trivial h.2.1;unfold lx at h1 h2;simp only at h1 h2;have e1:a=x:=by omega
     have e2:b=y:=by omega
     rw[e1,e2]
def gp{n:ae}{cs:List aq}{S S':Nat->Nat->Prop}{b:Option (Nat×Nat)}(h:IsB n cs S b)(h1:∀j l,S j l->S' j l)(h2:∀j l,S' j l->Al n cs j l->S j l):IsB n cs S' b:=by
 cases b with
 |none=>exact fun j l hs ha=>h j l (h2 j l hs ha) ha
 |some q=>exact⟨h1 _ _ h.1,h.2.1,fun j l hs ha=>h.2.2 j l (h2 j l hs ha) ha⟩
def pF{n:ae}{cs:List aq}{S S':Nat->Nat->Prop}{b:Option (Nat×Nat)}(h:IsB n cs S b){i k:Nat}(hal:Al n cs i k)(hS:∀j l,Al n cs j l->(S' j l↔S j l\/(j=i/\l=k))):
 (∀q,b=some q->lx cs i k q.1 q.2)->IsB n cs S' (some (i,k)):=by
 intro hp;refine⟨(hS i k hal).2 (.inr ⟨rfl,rfl⟩),hal,fun j l hs ha=>?_⟩;rcases(hS j l ha).1 hs with h1|⟨rfl,rfl⟩
 ·cases b with
  |none=>exact(h j l h1 ha).elim
  | some q =>
    have a1:=h.2.2 j l h1 ha;have a2:=hp q rfl;unfold lx at*
    simp only at*
    omega
 ·unfold lx;simp only;omega
def yU{n:ae}{cs:List aq}{S S':Nat->Nat->Prop}{q:Nat×Nat}(h:IsB n cs S (some q)){i k:Nat}(hS:∀j l,Al n cs j l->(S' j l↔S j l\/(j=i/\l=k)))(hp:¬lx cs i k q.1 q.2):IsB n cs S' (some q):=by
 refine⟨(hS _ _ h.2.1).2 (.inl h.1),h.2.1,fun j l hs ha=>?_⟩;rcases(hS j l ha).1 hs with h1|⟨rfl,rfl⟩
 ·exact h.2.2 j l h1 ha
 ·exact hp
def eL(cs:List aq):Option (Nat×Nat)->Int×Int×Int
 |none=>(-1,-1,0)
 |some q=>((q.1:Int),(q.2:Int),cN cs q.1+cN cs q.2)
def gM{n:ae}{s:Int}{cs:List aq}(h:vP n s cs){i:Nat}{c:aq}(hc:cs[i]?=some c):0<=cst c/\cst c<=480:=by
 obtain⟨h1,h2,h3⟩:=h.ok c (A3 hc);have hl:=h1.b.1;unfold cst;have a:=L0 h2 (J6 c.F.F.length);have b:c.N*(c.F.F.length:Int)<=24*20:=L3 h3 (by omega) (by omega) (by omega);omega
def pK{n:ae}{s:Int}{cs:List aq}(h:vP n s cs){i:Nat}{c:aq}(hc:cs[i]?=some c):c.F.F.length<=20/\∀x∈c.F.F,iX n x:=by
 obtain⟨h1,_⟩:=h.ok c (A3 hc);exact⟨h1.b.1,h1.b.2.1⟩
def Ow{n:ae}{s:Int}{cs:List aq}(h:vP n s cs):∃b,Nh n (cs.map (·.F)) (cs.map (·.N))=some ((eL cs b).1,(eL cs b).2.1)/\IsB n cs (fun _ _=>True) b:=by
 have h2:=h.len;have hF:=(dJ h.net).2.2;unfold Nh;have inner:∀(i:Nat)(hi:i<cs.length)(b:Option (Nat×Nat)),IsB n cs (fun j _=>j<i) b->∃b',aW (IC n (cs.map (·.F)) (cs.map (·.N)) ((eL cs b).1,(eL cs b).2.1,(eL cs b).2.2,(i:Int))) N0 ((eL cs b).1,(eL cs b).2.1,(eL cs b).2.2,0)=some ((eL cs b').1,(eL cs b').2.1,(eL cs b').2.2)/\IsB n cs (fun j _=>j<i+1) b':=by
  intro i hi b hb;have hci:cs[i]?=some cs[i]:=A2 hi;generalize cs[i]=x at hci;obtain⟨o,o1,o2⟩:=bT (f:=IC n (cs.map (·.F)) (cs.map (·.N)) ((eL cs b).1,(eL cs b).2.1,(eL cs b).2.2,(i:Int))) (fun t=>∃(k:Nat)(b':Option (Nat×Nat)),t=((eL cs b').1,(eL cs b').2.1,(eL cs b').2.2,(k:Int))/\k<=cs.length/\IsB n cs (fun j l=>j<i\/(j=i/\l<k)) b') (fun t=>cs.length-t.2.2.2.toNat)
   (fun o=>∃b',o=((eL cs b').1,(eL cs b').2.1,(eL cs b').2.2)/\IsB n cs (fun j _=>j<i+1) b') (fun t⟨k,b',e,hk,hB⟩=>by
   subst e;unfold IC;by_cases hkl:k<cs.length
   ·left;have hck:cs[k]?=some cs[k]:=A2 hkl;generalize cs[k]=y at hck;have e1:decide ((k:Int)<((cs.map (·.F)).length:Int))=true:=by simp;omega
    have m1:(cs.map (·.N))[i]?=some x.N:=by rw[B9,hci];rfl
    have m2:(cs.map (·.F))[i]?=some x.F:=by rw[B9,hci];rfl
    have m3:(cs.map (·.N))[k]?=some y.N:=by rw[B9,hck];rfl
    have m4:(cs.map (·.F))[k]?=some y.F:=by rw[B9,hck];rfl
    have hx:=gM h hci;have hy:=gM h hck;obtain⟨fx1,fx2⟩:=pK h hci;obtain⟨fy1,fy2⟩:=pK h hck;have hcx:cN cs i=cst x:=by unfold cN;rw[hci]
    have hcy:cN cs k=cst y:=by unfold cN;rw[hck]
    have hap:apN n cs i k=apP n x.F.F y.F.F:=by unfold apN;rw[hci,hck]
    have wx:A4 .i64 (x.N*(x.F.F.length:Int))=cst x:=aA (by unfold cst at hx;omega) (by unfold cst at hx;omega);have wy:A4 .i64 (y.N*(y.F.F.length:Int))=cst y:=aA (by unfold cst at hy;omega) (by unfold cst at hy;omega);have wxy:A4 .i64 (cst x+cst y)=cst x+cst y:=aA (by omega) (by omega);have wk:A4 .i64 ((k:Int)+1)=((k+1:Nat):Int):=by rw[aA (by omega) (by omega)];rfl
    simp only[e1,cond_true,aR,m1,m2,m3,m4,A0,wx,wy,wxy,wk,ot n x.F y.F hF (by omega) (by omega) fx2];have hS:∀j l,Al n cs j l->((j<i\/(j=i/\l<k+1))↔(j<i\/(j=i/\l<k))\/(j=i/\l=k)):=fun j l _=>by omega
    have hbad:∀c:Bool,(cond ((i:Int)==(k:Int)) (some true) (cond (decide (cst y<cst x)) (some true) (cond (cst x==cst y) (cond (decide ((k:Int)<(i:Int))) (some true) (some (!c))) (some (!c)))):Option Bool)=some (!(decide (i≠k/\(cst x<cst y\/cst x=cst y/\i<k))&&c)):=fun c=>by
     by_cases c1:i=k
     ·subst c1;simp
     ·have:((i:Int)==(k:Int))=false:=by simp;omega
      rw[this,cond_false];by_cases c2:cst y<cst x
      ·have h9:¬(i≠k/\(cst x<cst y\/cst x=cst y/\i<k)):=by omega
       rw[decide_eq_true c2,decide_eq_false h9];rfl
      ·rw[decide_eq_false c2,cond_false];by_cases c3:cst x=cst y
       ·have:(cst x==cst y)=true:=by simpa using c3
        rw[this,cond_true];by_cases c4:k<i
        ·have h9:¬(i≠k/\(cst x<cst y\/cst x=cst y/\i<k)):=by omega
         rw[decide_eq_true (show(k:Int)<(i:Int) by omega),decide_eq_false h9];rfl
        ·have h9:(i≠k/\(cst x<cst y\/cst x=cst y/\i<k)):=by omega
         rw[decide_eq_false (show¬(k:Int)<(i:Int) by omega),decide_eq_true h9];rfl
       ·have:(cst x==cst y)=false:=by simpa using c3
        have h9:(i≠k/\(cst x<cst y\/cst x=cst y/\i<k)):=by omega
        rw[this,cond_false,decide_eq_true h9];rfl
    rw[hbad];simp only[A0];have hal:(decide (i≠k/\(cst x<cst y\/cst x=cst y/\i<k))&&apP n x.F.F y.F.F)=true↔Al n cs i k:=by
     rw[B2,decide_eq_true_eq];constructor
     ·rintro⟨⟨q1,q2⟩,q3⟩;exact⟨hi,hkl,q1,by rw[hcx,hcy];exact q2,by rw[hap];exact q3⟩
     ·intro q;have:=q.c;rw[hcx,hcy] at this;exact⟨⟨q.ne,this⟩,by rw[<-hap];exact q.a⟩
    by_cases ha:Al n cs i k
    ·rw[hal.2 ha];simp only[A7,cond_false];cases b' with
     | none =>
       have e3:decide ((eL cs none).1<0)=true:=by simp[eL]
       rw[e3];simp only[cond_true,A0];refine⟨_,rfl,⟨k+1,some (i,k),by simp only[eL,hcx,hcy],by omega,pF hB ha hS fun q hq=>by cases hq⟩,by simp only;omega⟩
     | some q =>
       have e3:decide ((eL cs (some q)).1<0)=false:=decide_eq_false (show¬(q.1:Int)<0 by omega);rw[e3];simp only[cond_false,A0];have hq:=hB.1;have e4:decide (cst x+cst y<(eL cs (some q)).2.2)=decide (lx cs i k q.1 q.2):=by
        have hq':q.1<i\/(q.1=i/\q.2<k):=hq;have h7:lx cs i k q.1 q.2↔cst x+cst y<cN cs q.1+cN cs q.2:=by
         unfold lx;rw[hcx,hcy];constructor
         ·rintro(h|⟨h,h'⟩)
          ·exact h
          ·omega
         ·exact fun h=>.inl h
        rw[C5,decide_eq_true_eq,decide_eq_true_eq,h7];exact Iff.rfl
       rw[e4];by_cases c:lx cs i k q.1 q.2
       ·rw[decide_eq_true c];exact⟨_,rfl,⟨k+1,some (i,k),by simp only[eL,hcx,hcy],by omega,pF hB ha hS fun q' hq'=>by cases hq';exact c⟩,by simp only;omega⟩
       ·rw[decide_eq_false c];exact⟨_,rfl,⟨k+1,some q,rfl,by omega,yU hB hS c⟩,by simp only;omega⟩
    ·have:(decide (i≠k/\(cst x<cst y\/cst x=cst y/\i<k))&&apP n x.F.F y.F.F)=false:=by
      cases e:(decide (i≠k/\(cst x<cst y\/cst x=cst y/\i<k))&&apP n x.F.F y.F.F) with
      |false=>rfl
      |true=>exact absurd (hal.1 e) ha
     rw[this];simp only[D3,cond_true];refine⟨_,rfl,⟨k+1,b',rfl,by omega,gp hB (fun j l hs=>by omega) fun j l hs ha'=>?_⟩,by simp only;omega⟩;rcases(hS j l ha').1 hs with h1|⟨rfl,rfl⟩
     ·exact h1
     ·exact absurd ha' ha
   ·right;have:k=cs.length:=by omega
    subst this;have e1:decide ((cs.length:Int)<((cs.map (·.F)).length:Int))=false:=by simp
    simp only[e1,cond_false];exact⟨_,rfl,b',rfl,gp hB (fun j l hs=>by omega) fun j l hs ha=>by have:=ha.hl;omega⟩) N0 ((eL cs b).1,(eL cs b).2.1,(eL cs b).2.2,0) ⟨0,b,rfl,by omega,gp hb (fun j l hs=>.inl hs) fun j l hs _=>by omega⟩ (dm (by simp only;omega))
  obtain⟨b',e,hB⟩:=o2;exact⟨b',by rw[o1,e],hB⟩
 obtain⟨o,o1,o2⟩:=bT (f:=JW n (cs.map (·.F)) (cs.map (·.N))) (fun t=>∃(i:Nat)(b:Option (Nat×Nat)),t=((eL cs b).1,(eL cs b).2.1,(eL cs b).2.2,(i:Int))/\i<=cs.length/\IsB n cs (fun j _=>j<i) b) (fun t=>cs.length-t.2.2.2.toNat)
  (fun o=>∃b,o=((eL cs b).1,(eL cs b).2.1)/\IsB n cs (fun _ _=>True) b) (fun t⟨i,b,e,hi,hB⟩=>by
  subst e;unfold JW;by_cases hil:i<cs.length
  ·left;have e1:decide ((i:Int)<((cs.map (·.F)).length:Int))=true:=by simp;omega
   obtain⟨b',c1,c2⟩:=inner i hil b hB;simp only[e1,cond_true];rw[c1];simp only[A0];rw[aA (by omega) (by omega)];exact⟨_,rfl,⟨i+1,b',rfl,by omega,c2⟩,by simp only;omega⟩
  ·right;have:i=cs.length:=by omega
   subst this;have e1:decide ((cs.length:Int)<((cs.map (·.F)).length:Int))=false:=by simp
   simp only[e1,cond_false];exact⟨_,rfl,b,rfl,gp hB (fun j l hs=>trivial) fun j l _ ha=>ha.hj⟩) N0 (-1,-1,0,0) ⟨0,none,rfl,by omega,fun j l hs=>by omega⟩ (dm (by simp only;omega))
 obtain⟨b,e,hB⟩:=o2;exact⟨b,by rw[o1,e];rfl,hB⟩
end Vs

namespace Vs
open Go
def zc:aq:=⟨⟨0,[]⟩,0⟩
def atC(cs:List aq)(i:Nat):aq:=(cs[i]?).getD zc
def dM(cs:List aq):Option (Nat×Nat)->Bool×aq×aq
 |none=>(false,zc,zc)
 |some q=>(true,atC cs q.1,atC cs q.2)
theorem Xs(a b:Int):nW [a,b]=some (if a≠0 then a else b):=by
 unfold nW;have key:=dh (f:=M_m [a,b]) [a,b] (fun _ x=>x !=0) (fun _ x=>x) () (fun i x hx _=>by
  have hlt:=(A1.1 hx).1;have h1:decide ((i:Int)<([a,b].length:Nat))=true:=decide_eq_true (by omega);simp only[A8,B1] at hlt;simp only[M_m,h1,cond_true,aR,hx,A0];rw[aA (by omega) (by omega)];cases x !=0<;>rfl) (by simp[M_m]) (by simp)
 rw[key];unfold cU;simp only[F0,I5,F5,I9];by_cases h1:a=0
 ·by_cases h2:b=0
  ·simp[h1,h2]
  ·have:(b !=0)=true:=bne_iff_ne.2 h2;simp[h1,this]
 ·have:(a !=0)=true:=bne_iff_ne.2 h1;simp[h1,this]
def DJ{n:ae}{s:Int}{cs:List aq}(h:vP n s cs){i k:Nat}{x y:aq}(hx:cs[i]?=some x)(hy:cs[k]?=some y):(fe n x.F y.F<0↔i<k)/\(fe n x.F y.F=0↔i=k):=by
 obtain⟨hi,ei⟩:=A1.1 hx;obtain⟨hk,ek⟩:=A1.1 hy;have hp:=C3.1 h.srt;have hn:=ja n x.F y.F;rcases F7 i k with c|c|c
 ·have:=hp i k hi hk c;rw[ei,ek] at this;omega
 ·subst c;rw[hx] at hy;cases hy;omega
 ·have:=hp k i hk hi c;rw[ei,ek] at this;omega
theorem kK{n:ae}{s:Int}{cs:List aq}(h:vP n s cs){i:Nat}{c:aq}(hc:cs[i]?=some c):M_h c=some (cst c):=by
 have:=gM h hc;unfold M_h;rw[aA (by unfold cst at this;omega) (by unfold cst at this;omega)];rfl
def afg{n:ae}{s:Int}{cs:List aq}(h:vP n s cs){i:Nat}{c:aq}(hc:cs[i]?=some c):c.F.F.length<=12:=by
 obtain⟨h1,_⟩:=h.ok c (A3 hc);obtain⟨l,hl⟩:=D9.1 h1.v;exact(jt h.net hl).1.len
def Ip{n:ae}{s:Int}{cs:List aq}(h:vP n s cs){f g:Nat}{x y:aq}(hx:cs[f]?=some x)(hy:cs[g]?=some y)(b:Option (Nat×Nat))(hb:∀q,b=some q->q.1<cs.length/\q.2<cs.length):
 ((M_h x).bind fun rZ18=>(M_h y).bind fun rZ19=>(M_h (dM cs b).2.1).bind fun rZ20=>(M_h (dM cs b).2.2).bind fun rZ21=>(lj (A4 .i64 (rZ18+rZ19)) (A4 .i64 (rZ20+rZ21))).bind fun rZ22=>bnd ([rZ22,0]) fun lZ23=>(nW lZ23).bind fun rZ27=>((cond ((dM cs b).1) (some (rZ27==0)) (some false):Option Bool).bind fun oZ29=>cond (oZ29) ((vd n x.F (dM cs b).2.1.F).bind fun rZ31=>(vd n y.F (dM cs b).2.2.F).bind fun rZ32=>bnd ([rZ31,rZ32]) fun lZ33=>(nW lZ33).bind fun rZ37=>some rZ37) (some rZ27):Option Int).bind fun oZ38=>(cond (!(dM cs b).1) (some true) (some (decide (oZ38<0))):Option Bool))=some (match b with|none=>true|some q=>decide (lx cs f g q.1 q.2)):=by
 have rx:=gM h hx;have ry:=gM h hy;rw[kK h hx,kK h hy];simp only[A0];cases b with
 | none =>
   have e0:M_h zc=some 0:=rfl;simp only[dM,e0,A0,yZ,bnd,Xs,cond_false,D3,cond_true]
 | some q =>
   obtain⟨q1,q2⟩:=hb q rfl;have h1:cs[q.1]?=some (atC cs q.1):=by unfold atC;rw[A2 q1];rfl
   have h2:cs[q.2]?=some (atC cs q.2):=by unfold atC;rw[A2 q2];rfl
   generalize atC cs q.1=u at h1;generalize atC cs q.2=v at h2;have hu:(dM cs (some q))=(true,u,v):=by
    show(true,(cs[q.1]?).getD zc,(cs[q.2]?).getD zc)=_;rw[h1,h2];rfl
   have ru:=gM h h1;have rv:=gM h h2;have bx:=(h.ok x (A3 hx)).1.b;have by':=(h.ok y (A3 hy)).1.b;have bu:=(h.ok u (A3 h1)).1.b;have bv:=(h.ok v (A3 h2)).1.b;obtain⟨i1,i2⟩:=DJ h hx h1;obtain⟨i3,i4⟩:=DJ h hy h2;rw[hu];simp only[kK h h1,kK h h2,A0,cond_true,A7,cond_false];rw[aA (n:=cst x+cst y) (by omega) (by omega),aA (n:=cst u+cst v) (by omega) (by omega)];simp only[yZ,bnd,Xs,A0];have e:(if dB (cst x+cst y) (cst u+cst v)≠0 then dB (cst x+cst y) (cst u+cst v) else 0)=dB (cst x+cst y) (cst u+cst v):=by
    split<;>omega
   rw[e];have hc:lx cs f g q.1 q.2↔cst x+cst y<cst u+cst v\/(cst x+cst y=cst u+cst v/\(f<q.1\/f=q.1/\g<q.2)):=by
    unfold lx cN;rw[hx,hy,h1,h2]
   by_cases c:cst x+cst y=cst u+cst v
   ·have e2:(dB (cst x+cst y) (cst u+cst v)==0)=true:=by rw[beq_iff_eq];exact cJ.2 c
    rw[e2,cond_true,gv bx bu];simp only[A0];rw[gv by' bv];simp only[A0];congr 1;rw[C5,decide_eq_true_eq,decide_eq_true_eq,hc];split
    ·omega
    ·omega
   ·have e2:(dB (cst x+cst y) (cst u+cst v)==0)=false:=by
     cases e3:(dB (cst x+cst y) (cst u+cst v)==0) with
     |false=>rfl
     |true=>exact absurd (cJ.1 (by simpa using e3)) c
    rw[e2,cond_false];simp only[A0];congr 1;rw[C5,decide_eq_true_eq,decide_eq_true_eq,hc,iv];omega
def SI(i k:Nat)(j l:Nat):Prop:=j<i\/l<i\/(j=i/\l<k)\/(l=i/\j<k)
def UE{n:ae}{s:Int}{cs:List aq}(h:vP n s cs)(fs:List az):∃b,aW (Cf n (true,cs)) N0 (false,0,zc,zc)=some (dM cs b)/\IsB n cs (fun _ _=>True) b:=by
 have h2:=h.len;have hF:=(dJ h.net).2.2;have inner:∀(i:Nat)(x:aq)(hi:cs[i]?=some x)(b:Option (Nat×Nat)),IsB n cs (fun j l=>j<i\/l<i) b->∃b',aW (Hx n (true,cs) ((dM cs b).1,(i:Int),(dM cs b).2.1,(dM cs b).2.2) x) N0 ((dM cs b).1,0,(dM cs b).2.1,(dM cs b).2.2)=some (dM cs b')/\IsB n cs (fun j l=>j<i+1\/l<i+1) b':=by
  intro i x hci b hb;have hi:=(A1.1 hci).1;have wi1:A4 .i64 ((i:Int)+1)=((i+1:Nat):Int):=by rw[aA (by omega) (by omega)];rfl
  obtain⟨o,o1,o2⟩:=bT (f:=Hx n (true,cs) ((dM cs b).1,(i:Int),(dM cs b).2.1,(dM cs b).2.2) x) (fun t=>∃(k:Nat)(b':Option (Nat×Nat)),t=((dM cs b').1,(k:Int),(dM cs b').2.1,(dM cs b').2.2)/\k<=cs.length-(i+1)/\IsB n cs (SI i (i+1+k)) b') (fun t=>cs.length-(i+1)-t.2.1.toNat)
   (fun o=>∃b',o=dM cs b'/\IsB n cs (fun j l=>j<i+1\/l<i+1) b') (fun t⟨k,b',e,hk,hB⟩=>by
   subst e;unfold Hx;simp only[wi1,A5];by_cases hkl:k<cs.length-(i+1)
   ·left;have hck:cs[i+1+k]?=some (cs[i+1+k]'(by omega)):=A2 _;generalize cs[i+1+k]'(by omega)=y at hck;have e1:decide ((k:Int)<((cs.length-(i+1):Nat):Int))=true:=by simp;omega
    have hx:=gM h hci;have hy:=gM h hck;obtain⟨fx1,fx2⟩:=pK h hci;obtain⟨fy1,fy2⟩:=pK h hck;have hcx:cN cs i=cst x:=by unfold cN;rw[hci]
    have hcy:cN cs (i+1+k)=cst y:=by unfold cN;rw[hck]
    have hap:apN n cs i (i+1+k)=apP n x.F.F y.F.F:=by unfold apN;rw[hci,hck]
    have hap2:apN n cs (i+1+k) i=apP n x.F.F y.F.F:=by unfold apN;rw[hci,hck];exact Xj fy2 fx2
    have wk:A4 .i64 ((k:Int)+1)=((k+1:Nat):Int):=by rw[aA (by omega) (by omega)];rfl
    have hbb:∀q,b'=some q->q.1<cs.length/\q.2<cs.length:=fun q hq=>by subst hq;exact⟨hB.2.1.hj,hB.2.1.hl⟩
    simp only[e1,cond_true];rw[bg (by omega),A0,hck,A0,vx n x.F.F y.F.F h.net (afg h hci) (by omega) fx2 fy2,A0];simp only[wk];cases ha:apP n x.F.F y.F.F with
    | false =>
      simp only[D3,cond_true];refine⟨_,rfl,⟨k+1,b',rfl,by omega,gp hB (fun j l hs=>by unfold SI at*;omega) fun j l hs ha'=>?_⟩,by simp only;omega⟩;unfold SI at*
      rcases hs with h1|h1|⟨h1,h3⟩|⟨h1,h3⟩
      ·exact .inl h1
      ·exact .inr (.inl h1)
      ·by_cases c:l=i+1+k
       ·subst h1;subst c;have:=ha'.a;rw[hap,ha] at this;cases this
       ·exact .inr (.inr (.inl ⟨h1,by omega⟩))
      ·by_cases c:j=i+1+k
       ·subst h1;subst c;have:=ha'.a;rw[hap2,ha] at this;cases this
       ·exact .inr (.inr (.inr ⟨h1,by omega⟩))
    | true =>
      simp only[A7,cond_false];obtain⟨f,g,u,v,hu,hv,hfg,hal,hS⟩:∃(f g:Nat)(u v:aq),cs[f]?=some u/\cs[g]?=some v/\((M_h y).bind fun rZ14=>(M_h x).bind fun rZ15=>cond (decide (rZ14<rZ15)) (some (y,x)) (some (x,y)):Option (aq×aq))=some (u,v)/\Al n cs f g/\∀j l,Al n cs j l->(SI i (i+1+(k+1)) j l↔SI i (i+1+k) j l\/(j=f/\l=g)):=by
       rw[kK h hci,kK h hck];simp only[A0];by_cases c:cst y<cst x
       ·refine⟨i+1+k,i,y,x,hck,hci,by rw[decide_eq_true c];rfl,⟨by omega,hi,by omega,by rw[hcx,hcy];exact .inl c,by rw[hap2];exact ha⟩,fun j l ha'=>?_⟩;unfold SI;constructor
        ·rintro(h1|h1|⟨h1,h3⟩|⟨h1,h3⟩)
         ·exact .inl (.inl h1)
         ·exact .inl (.inr (.inl h1))
         ·by_cases c2:l=i+1+k
          ·exfalso;subst h1;subst c2;have:=ha'.c;rw[hcx,hcy] at this;omega
          ·exact .inl (.inr (.inr (.inl ⟨h1,by omega⟩)))
         ·by_cases c2:j=i+1+k
          ·exact .inr ⟨c2,h1⟩
          ·exact .inl (.inr (.inr (.inr ⟨h1,by omega⟩)))
        ·omega
       ·refine⟨i,i+1+k,x,y,hci,hck,by rw[decide_eq_false c];rfl,⟨hi,by omega,by omega,by rw[hcx,hcy];omega,by rw[hap];exact ha⟩,fun j l ha'=>?_⟩;unfold SI;constructor
        ·rintro(h1|h1|⟨h1,h3⟩|⟨h1,h3⟩)
         ·exact .inl (.inl h1)
         ·exact .inl (.inr (.inl h1))
         ·by_cases c2:l=i+1+k
          ·exact .inr ⟨h1,c2⟩
          ·exact .inl (.inr (.inr (.inl ⟨h1,by omega⟩)))
         ·by_cases c2:j=i+1+k
          ·exfalso;subst h1;subst c2;have:=ha'.c;rw[hcx,hcy] at this;omega
          ·exact .inl (.inr (.inr (.inr ⟨h1,by omega⟩)))
        ·omega
      rw[hfg,A0];have hst:=Ip h hu hv b' hbb;have hres:∀(K:Option ((Bool×Int×aq×aq)⊕(Bool×aq×aq)))(z:Bool)(E:Option Bool),E=some z->K=E.bind (fun oZ40=>cond (oZ40) (some (.inl (true,((k+1:Nat):Int),u,v))) (some (.inl ((dM cs b').1,((k+1:Nat):Int),(dM cs b').2.1,(dM cs b').2.2))))->K=some (.inl (if z then(true,((k+1:Nat):Int),u,v) else((dM cs b').1,((k+1:Nat):Int),(dM cs b').2.1,(dM cs b').2.2))):=fun K z E hE hK=>by
       rw[hK,hE];cases z<;>rfl
      refine⟨_,hres _ _ _ hst ?_,?_,?_⟩
      ·simp only[Option.bind_assoc,bnd]
      ·have hatu:atC cs f=u:=by unfold atC;rw[hu];rfl
       have hatv:atC cs g=v:=by unfold atC;rw[hv];rfl
       have hS':∀j l,Al n cs j l->(SI i (i+1+(k+1)) j l↔SI i (i+1+k) j l\/(j=f/\l=g)):=hS;cases b' with
       | none =>
         exact⟨k+1,some (f,g),by simp only[if_true,dM,hatu,hatv],by omega,pF hB hal hS' fun q hq=>by cases hq⟩
       | some q =>
         by_cases c:lx cs f g q.1 q.2
         ·exact⟨k+1,some (f,g),by simp only[decide_eq_true c,if_true,dM,hatu,hatv],by omega,pF hB hal hS' fun q' hq'=>by cases hq';exact c⟩
         ·exact⟨k+1,some q,by simp only[decide_eq_false c,C0,if_false],by omega,yU hB hS' c⟩
      ·have hm:∀z:Bool,cs.length-(i+1)-((if z then(true,((k+1:Nat):Int),u,v) else((dM cs b').1,((k+1:Nat):Int),(dM cs b').2.1,(dM cs b').2.2)):Bool×Int×aq×aq).2.1.toNat<cs.length-(i+1)-((k:Int)).toNat:=fun z=>by
        cases z
        ·simp only[C0,if_false];omega
        ·simp only[if_true];omega
       exact hm _
   ·right;have:k=cs.length-(i+1):=by omega
    subst this;have e1:decide (((cs.length-(i+1):Nat):Int)<((cs.length-(i+1):Nat):Int))=false:=by simp
    simp only[e1,cond_false];refine⟨_,rfl,b',rfl,gp hB (fun j l hs=>by unfold SI at hs;omega) fun j l hs ha=>?_⟩;have q1:=ha.hj;have q2:=ha.hl;have q3:=ha.ne;unfold SI;omega) N0 ((dM cs b).1,0,(dM cs b).2.1,(dM cs b).2.2) ⟨0,b,rfl,by omega,gp hb (fun j l hs=>by unfold SI;omega) fun j l hs ha=>by
     have q3:=ha.ne;unfold SI at hs;omega⟩ (dm (by simp only;omega))
  obtain⟨b',e,hB⟩:=o2;exact⟨b',by rw[o1,e],hB⟩
 obtain⟨o,o1,o2⟩:=bT (f:=Cf n (true,cs)) (fun t=>∃(i:Nat)(b:Option (Nat×Nat)),t=((dM cs b).1,(i:Int),(dM cs b).2.1,(dM cs b).2.2)/\i<=cs.length/\IsB n cs (fun j l=>j<i\/l<i) b) (fun t=>cs.length-t.2.1.toNat)
  (fun o=>∃b,o=dM cs b/\IsB n cs (fun _ _=>True) b) (fun t⟨i,b,e,hi,hB⟩=>by
  subst e;unfold Cf;by_cases hil:i<cs.length
  ·left;have hci:cs[i]?=some cs[i]:=A2 hil;have e1:decide ((i:Int)<(cs.length:Int))=true:=by simp;omega
   have wi1:A4 .i64 ((i:Int)+1)=((i+1:Nat):Int):=by rw[aA (by omega) (by omega)];rfl
   obtain⟨b',c1,c2⟩:=inner i cs[i] hci b hB;simp only[e1,cond_true,wi1,A5];rw[bg (by omega),A0,hci,A0,bg ⟨by omega,trivial,by omega,trivial⟩,A0,c1];simp only[A0];exact⟨_,rfl,⟨i+1,b',rfl,by omega,c2⟩,by simp only;omega⟩
  ·right;have:i=cs.length:=by omega
   subst this;have e1:decide ((cs.length:Int)<(cs.length:Int))=false:=by simp
   simp only[e1,cond_false];exact⟨_,rfl,b,rfl,gp hB (fun j l hs=>trivial) fun j l _ ha=>.inl ha.hj⟩) N0 (false,0,zc,zc) ⟨0,none,rfl,by omega,fun j l hs=>by omega⟩ (dm (by simp only;omega))
 obtain⟨b,e,hB⟩:=o2;exact⟨b,by rw[o1,e],hB⟩
end Vs

namespace Vs
open Go
structure ChO(n:ae)(fs:List az)(d:aM)(c:aq):Prop where
 net:bK n=true
 rt:RtB n c.F
 vi:(im n c.F).isSome=true
 c0:0<=c.N
 c1:c.N<=24
 fo:iu fs=true
 ra:1<=d.F/\d.F<=1000
 cn:c.N=fI fs (dC n c.F) d.F
def afp(n:ae)(d:aM)(fs:List az):Pi n 0 fs.length d fs=CF n d fs:=by
 have e:QP n 0 fs.length d fs=IA n d fs:=by
  unfold QP IA;have e2:PK n 0 fs.length d fs=xL n d fs:=by
   funext r s;unfold PK xL;simp only[bnd,dE]
  rw[e2]
 unfold Pi CF;simp only[bnd,dE,e]
def JC(n:ae)(d:aM)(fs:List az)(hz:bd n<=1048576)(hf:fs.length<=1048576):
 ∃ x y ok, La n fs d = some (x, y, ok) ∧ FT n 0 fs.length d fs = some (x.F, y.F, ok, fs) ∧ x.F.F.length ≤ 20 ∧ y.F.F.length ≤ 20 ∧
   (ok=true->ChO n fs d x/\ChO n fs d y):=by
 obtain⟨ok,cs,u1,u2,u3,_⟩:=AA n d fs hz hf;unfold La FT;rw[u1,afp,u2];simp only[A0];cases ok with
 |false=>exact⟨zc,zc,false,rfl,rfl,by simp[zc],by simp[zc],fun h=>by cases h⟩
 | true =>
   obtain⟨h,hfo,hra,hcn⟩:=u3 rfl;have hl:=h.len;obtain⟨b,i1,i2⟩:=UE h fs;obtain⟨b',s1,s2⟩:=Ow h;obtain rfl:=RY i2 s2;simp only[A7,cond_false];have i1':aW (Cf n (true,cs)) N0 (false,0,(⟨⟨0,[]⟩,0⟩:aq),(⟨⟨0,[]⟩,0⟩:aq))=some (dM cs b):=i1;rw[i1',s1];simp only[A0];cases b with
   |none=>exact⟨zc,zc,false,rfl,rfl,by simp[zc],by simp[zc],fun h=>by cases h⟩
   | some q =>
     obtain⟨_,hal,_⟩:=i2;have h1:cs[q.1]?=some (cs[q.1]'hal.hj):=A2 _;have h2:cs[q.2]?=some (cs[q.2]'hal.hl):=A2 _;generalize cs[q.1]'hal.hj=x at h1;generalize cs[q.2]'hal.hl=y at h2;have ha:=hal.a;unfold apN at ha;rw[h1,h2] at ha;have o1:=h.ok x (A3 h1);have o2:=h.ok y (A3 h2);have m2:(cs.map (·.F))[q.1]?=some x.F:=by rw[B9,h1];rfl
     have m4:(cs.map (·.F))[q.2]?=some y.F:=by rw[B9,h2];rfl
     have b1:=hal.hj;have b2:=hal.hl;refine⟨x,y,true,?_,?_,o1.1.b.1,o2.1.b.1,fun _=>⟨⟨h.net,o1.1.b,o1.1.v,o1.2.1,o1.2.2,hfo,hra,hcn x (A3 h1)⟩,⟨h.net,o2.1.b,o2.1.v,o2.2.1,o2.2.2,hfo,hra,hcn y (A3 h2)⟩⟩⟩
     ·simp only[dM,atC,h1,h2,Option.getD_some]
     ·have e1:decide ((eL cs (some q)).1<0)=false:=decide_eq_false (show¬(q.1:Int)<0 by omega);rw[e1,cond_false];show((grd (0<=(q.1:Int)/\(q.1:Int)<((cs.map (·.F)).length:Int))).bind fun _=>((cs.map (·.F))[C4 (q.1:Int)]?).bind fun yZ6=>(grd (0<=(q.2:Int)/\(q.2:Int)<((cs.map (·.F)).length:Int))).bind fun _=>((cs.map (·.F))[C4 (q.2:Int)]?).bind fun yZ8=>some (yZ6,yZ8,true,fs))=_;rw[bg (by rw[E7];omega),A0,A5,m2,A0,bg (by rw[E7];omega),A0,A5,m4];rfl
end Vs

namespace Vs
def Srt{α:Type}(k:α->Int)(l:List α):Prop:=l.Pairwise fun a b=>k a<=k b
def Stb{α:Type}(k:α->Int)(l r:List α):Prop:=∀v,r.filter (fun x=>decide (k x=v))=l.filter fun x=>decide (k x=v)
def Stb.refl{α:Type}(k:α->Int)(l:List α):Stb k l l:=fun _=>rfl
def Stb.trans{α:Type}{k:α->Int}{a b c:List α}(h:Stb k a b)(g:Stb k b c):Stb k a c:=fun v=>(g v).trans (h v)
def Stb.app{α:Type}{k:α->Int}{a b c d:List α}(h:Stb k a b)(g:Stb k c d):Stb k (a++c) (b++d):=fun v=>by rw[G0,G0,h v,g v]
def Stb.swap{α:Type}{k:α->Int}{u w:List α}(h:∀x∈u,∀y∈w,k y<k x):Stb k (u++w) (w++u):=fun v=>by
 rw[G0,G0];cases hu:u.filter (fun x=>decide (k x=v)) with
 |nil=>simp
 | cons a t =>
   have ha:a∈u.filter fun x=>decide (k x=v):=by rw[hu];simp
   rw[F9] at ha;have hw:w.filter (fun x=>decide (k x=v))=[]:=by
    rw[List.filter_eq_nil_iff];intro y hy e;have:=h a ha.1 y hy;simp at ha e;omega
   rw[hw];simp
def Stb.mem{α:Type}{k:α->Int}{a b:List α}(h:Stb k a b)(x:α):x∈b↔x∈a:=by
 have:=h (k x);have e:∀l:List α,x∈l↔x∈l.filter fun y=>decide (k y=k x):=fun l=>by simp[F9]
 rw[e b,e a,this]
def Srt.app{α:Type}{k:α->Int}{a b:List α}(h:Srt k a)(g:Srt k b)(m:∀x∈a,∀y∈b,k x<=k y):Srt k (a++b):=G6.2 ⟨h,g,m⟩
def Srt.app3{α:Type}{k:α->Int}{a b:List α}:Srt k (a++b)↔Srt k a/\Srt k b/\∀x∈a,∀y∈b,k x<=k y:=G6
def KU{α:Type}{k:α->Int}{l t:List α}{x:α}(h:Stb k l (x::t))(s:Srt k (x::t)):∃a b,l=a++x::b/\(∀y∈a,k x<k y)/\∀y∈b,k x<=k y:=by
 have hx:=h (k x);have hall:∀y∈l,k x<=k y:=fun y hy=>by
  have:=(h.mem y).2 hy;rcases C7.1 this with e|e
  ·rw[e];exact H3 _
  ·exact(F4.1 s).1 y e
 rw[I0 (by simp)] at hx;have hm:x∈l:=(h.mem x).1 (by simp);clear h s;induction l with
 |nil=>cases hm
 | cons z l ih =>
   by_cases e:k z=k x
   ·rw[I0 (by simpa using e)] at hx;injection hx with e1 e2;subst e1;exact⟨[],l,rfl,(fun y hy=>nomatch hy),fun y hy=>hall y (C7.2 (.inr hy))⟩
   ·rw[List.filter_cons_of_neg (by simpa using e)] at hx;have hz:=hall z (by simp);have hm2:x∈l:=by
     rcases C7.1 hm with e2|e2
     ·exact absurd (by rw[e2]) e
     ·exact e2
    obtain⟨a,b,e1,e2,e3⟩:=ih hx (fun y hy=>hall y (by simp[hy])) hm2;refine⟨z::a,b,by rw[e1];rfl,fun y hy=>?_,e3⟩;rcases C7.1 hy with e4|e4
    ·rw[e4];omega
    ·exact e2 y e4
end Vs

namespace Vs
open Go
def GC(c:aq):Prop:=0<=c.N/\c.N<=24/\c.F.F.length<=20
def BV{c:aq}(h:GC c):0<=cst c/\cst c<=480:=by
 obtain⟨h1,h2,h3⟩:=h;unfold cst;refine⟨L0 h1 (by omega),?_⟩;have:=L3 h2 (show(c.F.F.length:Int)<=20 by omega) (by omega) (by omega);omega
def SN{a b:aq}(ha:GC a)(hb:GC b):∃v,xU a b=some v/\decide (v<0)=decide (cst a<cst b):=by
 have h1:=BV ha;have h2:=BV hb;have e1:M_h a=some (cst a):=by unfold M_h;rw[show a.N*(a.F.F.length:Int)=cst a from rfl,aA (by omega) (by omega)]
 have e2:M_h b=some (cst b):=by unfold M_h;rw[show b.N*(b.F.F.length:Int)=cst b from rfl,aA (by omega) (by omega)]
 unfold xU;rw[e1,e2];simp only[A0];unfold lj Jw;rcases Int.lt_trichotomy (cst a) (cst b) with h|h|h
 ·exact⟨-1,by simp[h],by simp[h]⟩
 ·exact⟨0,by simp[h],by simp[h]⟩
 ·exact⟨1,by simp[h,show¬cst a<cst b by omega],by simp[show¬cst a<cst b by omega]⟩
theorem nh(i j:Nat)(h:i+j<1000000):A4 .i64 (L9 (A4 .u64 (A4 .i64 ((i:Int)+(j:Int)))) (2^(min (C4 1) (D4 .u64))))=(((i+j)/2:Nat):Int):=by
 rw[aA (n:=(i:Int)+j) (by omega) (by omega),vI (by omega) (by omega)];have e:(2:Int)^(min (C4 1) (D4 .u64))=2:=by decide
 rw[e,H0 _ (by omega),show((i:Int)+j)/2=(((i+j)/2:Nat):Int) by omega,aA (by omega) (by omega)]
def bsr{f:Int×Int->Option ((Int×Int)⊕Int)}(P:Nat->Bool)(i0 j0:Nat)(h0:i0<=j0)(hb:j0<=1000)
 (h1:∀i j:Nat,i0<=i->i<j->j<=j0->f ((i:Int),(j:Int))=some (.inl (cond (P ((i+j)/2)) ((((i+j)/2+1:Nat):Int),(j:Int)) ((i:Int),(((i+j)/2:Nat):Int)))))
 (h2:∀i:Nat,f ((i:Int),(i:Int))=some (.inr (i:Int))):
 ∃o:Nat,aW f N0 ((i0:Int),(j0:Int))=some (o:Int)/\i0<=o/\o<=j0/\(i0<o->P (o-1)=true)/\(o<j0->P o=false):=by
 obtain⟨b,e,o,rfl,h⟩:=bT (f:=f) (fun s=>∃i j:Nat,s=((i:Int),(j:Int))/\i0<=i/\i<=j/\j<=j0/\(i0<i->P (i-1)=true)/\(j<j0->P j=false)) (fun s=>(s.2-s.1).toNat) (fun b=>∃o:Nat,b=(o:Int)/\i0<=o/\o<=j0/\(i0<o->P (o-1)=true)/\(o<j0->P o=false)) (fun s⟨i,j,e,a1,a2,a3,a4,a5⟩=>by
  subst e;by_cases hij:i<j
  ·left;rw[h1 i j a1 hij a3];have q1:i<=(i+j)/2:=by omega
   have q2:(i+j)/2<j:=by omega
   generalize (i+j)/2=m at q1 q2;cases hp:P m with
   |true=>exact⟨_,rfl,⟨m+1,j,rfl,by omega,by omega,a3,fun _=>by simpa using hp,a5⟩,by simp only[cond_true];omega⟩
   |false=>exact⟨_,rfl,⟨i,m,rfl,a1,by omega,by omega,a4,fun _=>hp⟩,by simp only[cond_false];omega⟩
  ·right;obtain rfl:i=j:=by omega
   exact⟨_,h2 i,i,rfl,a1,a3,a4,a5⟩) N0 ((i0:Int),(j0:Int)) ⟨i0,j0,rfl,C9 _,h0,C9 _,fun h=>by omega,fun h=>by omega⟩ (dm (by show((j0:Int)-(i0:Int)).toNat<_;omega))
 exact⟨o,e,h⟩
def gB{α:Type}(A:List α)(x:α)(B:List α){k:Nat}(h:k=A.length):(A++x::B)[k]?=some x:=by subst h;simp
def kZ{α:Type}(A:List α)(x y:α)(B:List α){k:Nat}(h:k=A.length):(A++x::B).set k y=A++y::B:=by subst h;simp
end Vs

namespace Vs
open Go
theorem eO(k:Nat)(h:k<1000000):A4 .i64 ((k:Int)+1)=((k+1:Nat):Int):=by rw[aA (by omega) (by omega)];omega
def qc(k:Nat)(h:k<1000000)(h1:1<=k):A4 .i64 ((k:Int)-1)=((k-1:Nat):Int):=by rw[aA (by omega) (by omega)];omega
def SW{β:Type}(P:List aq)(x y:aq)(Q:List aq)(N k:Nat)(hk:k=P.length)(hN:k+1<N)(hl:N<=1000)(c:List aq->Option β):
 ((grd (0<=(A4 .i64 ((k:Int)+1))/\(A4 .i64 ((k:Int)+1))<(N:Int))).bind fun _=>((P++x::y::Q)[(0+(C4 (A4 .i64 ((k:Int)+1))))]?).bind fun yZ14=>(grd (0<=(k:Int)/\(k:Int)<(N:Int))).bind fun _=>((P++x::y::Q)[(0+(C4 (k:Int)))]?).bind fun yZ16=>bnd ((P++x::y::Q).set (0+(C4 (k:Int))) yZ14) fun lZ17=>(lZ17[(0+(C4 (A4 .i64 ((k:Int)+1))))]?).bind fun _=>bnd (lZ17.set (0+(C4 (A4 .i64 ((k:Int)+1)))) yZ16) c)=c (P++y::x::Q):=by
 rw[eO k (by omega),bg (by omega),bg (by omega)];simp only[A0,A5,C6,bnd];have e1:(P++x::y::Q)[k+1]?=some y:=by rw[show P++x::y::Q=(P++[x])++y::Q by simp];exact gB _ _ _ (by simp[hk])
 have e2:(P++x::y::Q)[k]?=some x:=gB _ _ _ hk;have e3:(P++y::y::Q)[k+1]?=some y:=by rw[show P++y::y::Q=(P++[y])++y::Q by simp];exact gB _ _ _ (by simp[hk])
 rw[e1,A0,e2,A0,kZ P x y (y::Q) hk,e3,A0,show P++y::y::Q=(P++[y])++y::Q by simp,kZ (P++[y]) y x Q (by simp[hk])];simp
def EE{β:Type}(P:List aq)(x y:aq)(Q:List aq)(N k:Nat)(hk:k=P.length+1)(hN:k<N)(hl:N<=1000)(c:List aq->Option β):
 ((grd (0<=(A4 .i64 ((k:Int)-1))/\(A4 .i64 ((k:Int)-1))<(N:Int))).bind fun _=>((P++x::y::Q)[(0+(C4 (A4 .i64 ((k:Int)-1))))]?).bind fun yZ14=>(grd (0<=(k:Int)/\(k:Int)<(N:Int))).bind fun _=>((P++x::y::Q)[(0+(C4 (k:Int)))]?).bind fun yZ16=>bnd ((P++x::y::Q).set (0+(C4 (k:Int))) yZ14) fun lZ17=>(lZ17[(0+(C4 (A4 .i64 ((k:Int)-1))))]?).bind fun _=>bnd (lZ17.set (0+(C4 (A4 .i64 ((k:Int)-1)))) yZ16) c)=c (P++y::x::Q):=by
 rw[qc k (by omega) (by omega),bg (by omega),bg (by omega)];simp only[A0,A5,C6,bnd];have e1:(P++x::y::Q)[k]?=some y:=by rw[show P++x::y::Q=(P++[x])++y::Q by simp];exact gB _ _ _ (by simp[hk])
 have e2:(P++x::y::Q)[k-1]?=some x:=gB _ _ _ (by omega);have e3:(P++x::x::Q)[k-1]?=some x:=gB _ _ _ (by omega);rw[e2,A0,e1,A0,show P++x::y::Q=(P++[x])++y::Q by simp,kZ (P++[x]) y x Q (by simp[hk]),show(P++[x])++x::Q=P++x::x::Q by simp,e3,A0,kZ P x y (x::Q) (by omega)]
def p_up(A U B:List aq)(x:aq){N:Nat}(hN:N=A.length+U.length+1+B.length)(hl:N<=1000){o:Int}(ho:o=((A.length+U.length+1:Nat):Int)):
 aW (IV 0 N o) N0 ((A.length:Int),A++x::(U++B))=some (A++U++x::B):=by
 obtain⟨b,e,rfl⟩:=bT (f:=IV 0 N o) (fun s=>∃U1 U2,U=U1++U2/\s=(((A.length+U1.length:Nat):Int),A++U1++x::(U2++B))) (fun s=>(o-s.1).toNat) (fun b=>b=A++U++x::B) (fun s⟨U1,U2,e1,e2⟩=>by
  subst e1 e2;rw[A6] at hN ho;unfold IV;dsimp only;have hw:A4 .i64 (o-1)=((A.length+U1.length+U2.length:Nat):Int):=by rw[aA (by omega) (by omega)];omega
  cases U2 with
  | nil =>
    right;rw[hw,decide_eq_false (by simp only[B1];omega),cond_false];exact⟨_,rfl,by simp⟩
  | cons y U2 =>
    left;rw[A8] at hN ho hw;rw[hw,decide_eq_true (by omega),cond_true,K2,SW (A++U1) x y (U2++B) N (A.length+U1.length) (by simp) (by omega) hl,eO _ (by omega)];exact⟨_,rfl,⟨U1++[y],U2,by simp,by simp[Nat.add_assoc]⟩,by simp only;omega⟩) N0 ((A.length:Int),A++x::(U++B)) ⟨[],U,rfl,by simp⟩ (dm (by simp only;omega))
 exact e
def p_dn(A U B:List aq)(x:aq){N:Nat}(hN:N=A.length+U.length+1+B.length)(hl:N<=1000):
 aW (FL 0 N (A.length:Int)) N0 (((A.length+U.length:Nat):Int),A++U++x::B)=some (A++x::(U++B)):=by
 obtain⟨b,e,rfl⟩:=bT (f:=FL 0 N (A.length:Int)) (fun s=>∃U1 U2,U=U1++U2/\s=(((A.length+U1.length:Nat):Int),A++U1++x::(U2++B))) (fun s=>s.1.toNat) (fun b=>b=A++x::(U++B)) (fun s⟨U1,U2,e1,e2⟩=>by
  subst e1 e2;rw[A6] at hN;unfold FL;dsimp only;rcases I7 U1 with e|⟨V,y,e⟩
  ·subst e;right;rw[decide_eq_false (by simp only[B1];omega),cond_false];exact⟨_,rfl,by simp⟩
  ·subst e;left;simp only[I8,A6,A8,B1] at hN⊢;rw[decide_eq_true (by omega),cond_true,show A++(V++[y])++x::(U2++B)=(A++V)++y::x::(U2++B) by simp,EE (A++V) y x (U2++B) N (A.length+(V.length+(0+1))) (by simp;omega) (by omega) hl,qc _ (by omega) (by omega)];refine⟨_,rfl,⟨V,y::U2,by simp,?_⟩,by simp only;omega⟩;rw[show A.length+(V.length+(0+1))-1=A.length+V.length by omega];simp) N0 (((A.length+U.length:Nat):Int),A++U++x::B) ⟨U,[],by simp,by simp⟩ (dm (by simp only;omega))
 exact e
theorem XF:∀(X Y A C B:List aq){N:Nat}(i:Nat){a b n:Int},X.length=Y.length->N=A.length+X.length+C.length+Y.length+B.length->N<=1000->a+i=(A.length:Int)->b+i=((A.length+X.length+C.length:Nat):Int)->n=((i+X.length:Nat):Int)->0<=a->0<=b->∀(f:Nat),X.length<f->
 aW (zO 0 N a b n) f ((i:Int),A++X++C++Y++B)=some (A++Y++C++X++B)
 | [], [], A, C, B, N, i, a, b, n, _, hN, hl, ha, hb, hn, _, _, f, hf => by
   obtain⟨f,rfl⟩:∃g,f=g+1:=⟨f-1,by simp only[B1] at hf;omega⟩;have:zO 0 N a b n ((i:Int),A++[]++C++[]++B)=some (.inr (A++[]++C++[]++B)):=by
    unfold zO;rw[decide_eq_false (by simp only[B1] at hn;dsimp only;omega),cond_false]
   rw[aW,this]
 |[],y::Y,_,_,_,_,_,_,_,_,h,_,_,_,_,_,_,_,_,_=>by simp at h
 |x::X,[],_,_,_,_,_,_,_,_,h,_,_,_,_,_,_,_,_,_=>by simp at h
 | x :: X, y :: Y, A, C, B, N, i, a, b, n, h, hN, hl, ha, hb, hn, h0, h1, f, hf => by
   obtain⟨f,rfl⟩:∃g,f=g+1:=⟨f-1,by simp only[A8] at hf;omega⟩;simp only[A8] at h hN hb hn hf;have ih:=XF X Y (A++[y]) (C++[x]) B (N:=N) (i+1) (a:=a) (b:=b) (n:=n) (by omega) (by simp;omega) hl (by simp;omega) (by simp;omega) (by omega) h0 h1 f (by omega);have wa:A4 .i64 (a+(i:Int))=(A.length:Int):=by rw[aA (by omega) (by omega)];exact ha
   have wb:A4 .i64 (b+(i:Int))=((A.length+(X.length+1)+C.length:Nat):Int):=by rw[aA (by omega) (by omega)];exact hb
   have e1:(A++x::X++C++y::Y++B)[A.length]?=some x:=by rw[show A++x::X++C++y::Y++B=A++x::(X++C++y::Y++B) by simp];exact gB _ _ _ rfl
   have e2:(A++x::X++C++y::Y++B)[A.length+(X.length+1)+C.length]?=some y:=by rw[show A++x::X++C++y::Y++B=(A++x::X++C)++y::(Y++B) by simp];exact gB _ _ _ (by simp;omega)
   have e3:(A++x::X++C++y::Y++B).set A.length y=(A++y::X++C)++y::(Y++B):=by rw[show A++x::X++C++y::Y++B=A++x::(X++C++y::Y++B) by simp,kZ _ _ _ _ rfl];simp
   have hp:A.length+(X.length+1)+C.length=(A++y::X++C).length:=by simp;omega
   have:zO 0 N a b n ((i:Int),A++x::X++C++y::Y++B)=some (.inl (((i+1:Nat):Int),A++[y]++X++(C++[x])++Y++B)):=by
    unfold zO;dsimp only;rw[decide_eq_true (by omega),cond_true,wa,wb,bg (by omega),bg (by omega),eO i (by omega)];simp only[A0,A5,C6,bnd];rw[e2,A0,e1,A0,e3,gB _ _ _ hp,A0,kZ _ _ _ _ hp];simp
   rw[aW,this];simp only;rw[ih];simp
end Vs

namespace Vs
open Go
def Cd(X Y A C B:List aq){N:Nat}{a b n:Int}(h:X.length=Y.length)(hN:N=A.length+X.length+C.length+Y.length+B.length)(hl:N<=1000)(ha:a=(A.length:Int))(hb:b=((A.length+X.length+C.length:Nat):Int))(hn:n=(X.length:Int)):
 BQ 0 N a b n (A++X++C++Y++B)=some (A++Y++C++X++B):=by
 unfold BQ;have:=XF X Y A C B (N:=N) 0 (a:=a) (b:=b) (n:=n) h hN hl (by omega) (by omega) (by omega) (by omega) (by omega) N0 (dm (by omega));rw[show((0:Nat):Int)=0 from rfl] at this;rw[this];rfl
def dL{α:Type}(l:List α)(k:Nat)(h:k<=l.length):∃P Q,l=P++Q/\P.length=k:=⟨l.take k,l.drop k,(I6 k l).symm,by simp;omega⟩
def afe(A U V B:List aq){N:Nat}{a m b:Int}(hU:U≠[])(hV:V≠[])(hN:N=A.length+U.length+V.length+B.length)(hl:N<=1000)(ha:a=(A.length:Int))(hm:m=((A.length+U.length:Nat):Int))(hb:b=((A.length+U.length+V.length:Nat):Int)):
 Bb 0 N a m b (A++U++V++B)=some (A++V++U++B):=by
 unfold Bb;have w1:A4 .i64 (m-a)=(U.length:Int):=by rw[aA (by omega) (by omega)];omega
 have w2:A4 .i64 (b-m)=(V.length:Int):=by rw[aA (by omega) (by omega)];omega
 have pl:∀l:List aq,l≠[]->0<l.length:=fun l h=>B3.2 h;obtain⟨o,e,A',U',V',B',q1,q2,q3,q4,q5⟩:=bT (f:=Lj 0 N m) (fun s=>∃A' U' V' B':List aq,s=((U'.length:Int),(V'.length:Int),A'++U'++V'++B')/\0<U'.length/\0<V'.length/\m=((A'.length+U'.length:Nat):Int)/\N=A'.length+U'.length+V'.length+B'.length/\A'++V'++U'++B'=A++V++U++B) (fun s=>s.1.toNat+s.2.1.toNat) (fun b=>∃A' U' V' B':List aq,b=((U'.length:Int),A'++U'++V'++B')/\U'.length=V'.length/\m=((A'.length+U'.length:Nat):Int)/\N=A'.length+U'.length+V'.length+B'.length/\A'++V'++U'++B'=A++V++U++B) (fun s⟨A',U',V',B',q0,q1,q2,q3,q4,q5⟩=>by
  subst q0;unfold Lj;dsimp only;rcases F7 U'.length V'.length with h|h|h
  ·left;obtain⟨P,Q,e1,e2⟩:=dL V' (V'.length-U'.length) (by omega);subst e1;rw[A6] at e2 h q2 q4;rw[A6,show((U'.length:Int) !=((P.length+Q.length:Nat):Int))=true by simp;omega,cond_true,decide_eq_false (by omega),cond_false,aA (n:=m-_) (by omega) (by omega),aA (n:=m+_) (by omega) (by omega),aA (by omega) (by omega),aA (by omega) (by omega),
    show A'++U'++(P++Q)++B'=A'++U'++P++Q++B' by simp,Cd U' Q A' P B' (by omega) (by omega) hl (by omega) (by omega) rfl,A0]
   exact⟨_,rfl,⟨A',Q,P,U'++B',by simp only[B0,Prod.mk.injEq,and_true];omega,by omega,by omega,by omega,by simp;omega,by rw[<-q5];simp⟩,by simp only;omega⟩
  ·right;rw[show((U'.length:Int) !=(V'.length:Int))=false by simp;omega,cond_false];exact⟨_,rfl,A',U',V',B',rfl,h,q3,q4,q5⟩
  ·left;obtain⟨P,Q,e1,e2⟩:=dL U' V'.length (by omega);subst e1;rw[A6] at h q1 q3 q4;rw[A6,show(((P.length+Q.length:Nat):Int) !=(V'.length:Int))=true by simp;omega,cond_true,decide_eq_true (by omega),cond_true,aA (n:=m-_) (by omega) (by omega),aA (by omega) (by omega),
    show A'++(P++Q)++V'++B'=A'++P++Q++V'++B' by simp,Cd P V' A' Q B' e2 (by omega) hl (by omega) (by omega) (by omega),A0]
   exact⟨_,rfl,⟨A'++V',Q,P,B',by simp only[B0,Prod.mk.injEq,and_true];omega,by omega,by omega,by simp;omega,by simp;omega,by rw[<-q5];simp⟩,by simp only;omega⟩) N0 ((U.length:Int),(V.length:Int),A++U++V++B) ⟨A,U,V,B,rfl,pl U hU,pl V hV,hm,hN,rfl⟩ (dm (by simp only;omega))
 subst q1;rw[w1,w2,e,A0];dsimp only;rw[aA (by omega) (by omega),show A'++U'++V'++B'=A'++U'++[]++V'++B' by simp,Cd U' V' A' [] B' q2 (by simp;omega) hl (by omega) (by simp;omega) rfl,<-q5];simp
end Vs

namespace Vs
open Go
def kd(D:List aq)(h:Nat):Int:=match D[h]? with|some y=>cst y|none=>0
def xR{D:List aq}{h:Nat}{y:aq}(e:D[h]?=some y):kd D h=cst y:=by unfold kd;rw[e]
def uL{D:List aq}(hD:∀x∈D,GC x){i:Nat}(h:i<D.length):∃y,D[i]?=some y/\GC y/\kd D i=cst y:=by
 have e:D[i]?=some D[i]:=A2 h;exact⟨_,e,hD _ (A3 e),xR e⟩
theorem b1{D:List aq}(hD:∀x∈D,GC x){N:Nat}(hN:N=D.length)(hl:N<=1000)(a m b:Nat)(ha:a<N)(hm:m<=b)(hb:b<=N):
 ∃o:Nat,aW (M_t 0 N (a:Int) D) N0 ((m:Int),(b:Int))=some (o:Int)/\m<=o/\o<=b/\(m<o->kd D (o-1)<kd D a)/\(o<b->kd D a<=kd D o):=by
 obtain⟨o,e,h1,h2,h3,h4⟩:=bsr (f:=M_t 0 N (a:Int) D) (fun h=>decide (kd D h<kd D a)) m b hm (by omega) (fun i j q1 q2 q3=>by
  unfold M_t;dsimp only;rw[decide_eq_true (by omega),cond_true,nh i j (by omega)];have r1:(i+j)/2<N:=by omega
  generalize (i+j)/2=h at r1;obtain⟨y,y1,y2,y3⟩:=uL hD (i:=h) (by omega);obtain⟨x,x1,x2,x3⟩:=uL hD (i:=a) (by omega);obtain⟨v,v1,v2⟩:=SN y2 x2;rw[bg (by omega),bg (by omega)];simp only[A0,A5,C6];rw[y1,A0,x1,A0,v1,A0,v2,<-y3,<-x3,eO h (by omega)];cases decide (kd D h<kd D a)<;>rfl) (fun i=>by
  unfold M_t;rw[decide_eq_false (by dsimp only;omega),cond_false])
 exact⟨o,e,h1,h2,fun h=>by simpa using h3 h,fun h=>by simpa using h4 h⟩
def b3{D:List aq}(hD:∀x∈D,GC x){N:Nat}(hN:N=D.length)(hl:N<=1000)(a m:Nat)(ha:a<=m)(hm:m<N):
 ∃o:Nat,aW (M_u 0 N (m:Int) D) N0 ((a:Int),(m:Int))=some (o:Int)/\a<=o/\o<=m/\(a<o->kd D (o-1)<=kd D m)/\(o<m->kd D m<kd D o):=by
 obtain⟨o,e,h1,h2,h3,h4⟩:=bsr (f:=M_u 0 N (m:Int) D) (fun h=>!decide (kd D m<kd D h)) a m ha (by omega) (fun i j q1 q2 q3=>by
  unfold M_u;dsimp only;rw[decide_eq_true (by omega),cond_true,nh i j (by omega)];have r1:(i+j)/2<N:=by omega
  generalize (i+j)/2=h at r1;obtain⟨y,y1,y2,y3⟩:=uL hD (i:=h) (by omega);obtain⟨x,x1,x2,x3⟩:=uL hD (i:=m) (by omega);obtain⟨v,v1,v2⟩:=SN x2 y2;rw[bg (by omega),bg (by omega)];simp only[A0,A5,C6];rw[x1,A0,y1,A0,v1,A0,v2,<-y3,<-x3,eO h (by omega)];cases decide (kd D m<kd D h)<;>rfl) (fun i=>by
  unfold M_u;rw[decide_eq_false (by dsimp only;omega),cond_false])
 exact⟨o,e,h1,h2,fun h=>by simpa using h3 h,fun h=>by simpa using h4 h⟩
def b5{D:List aq}(hD:∀x∈D,GC x){N:Nat}(hN:N=D.length)(hl:N<=1000)(a m b s r p:Nat)(hab:a+b<10000)(hp:p+1=(a+b)/2+m)(hs:s<=r)(hr:r<=N)(hc:∀c,s<=c->c<r->c<=p/\p<N+c):
 ∃o:Nat,aW (M_v 0 N (a:Int) (m:Int) (b:Int) D) N0 ((s:Int),(r:Int))=some (o:Int)/\s<=o/\o<=r/\(s<o->kd D (o-1)<=kd D (p-(o-1)))/\(o<r->kd D (p-o)<kd D o):=by
 obtain⟨o,e,h1,h2,h3,h4⟩:=bsr (f:=M_v 0 N (a:Int) (m:Int) (b:Int) D) (fun h=>!decide (kd D (p-h)<kd D h)) s r hs (by omega) (fun i j q1 q2 q3=>by
  unfold M_v;dsimp only;rw[decide_eq_true (by omega),cond_true,nh i j (by omega),nh a b (by omega)];have r1:s<=(i+j)/2:=by omega
  have r2:(i+j)/2<r:=by omega
  generalize (i+j)/2=h at r1 r2;obtain⟨c1,c2⟩:=hc h r1 r2;have hmm:m<=p+1:=by omega
  have w:A4 .i64 (A4 .i64 (A4 .i64 ((((a+b)/2:Nat):Int)+(m:Int))-1)-(h:Int))=((p-h:Nat):Int):=by
   rw[aA (n:=(((a+b)/2:Nat):Int)+(m:Int)) (by omega) (by omega),aA (n:=(((a+b)/2:Nat):Int)+(m:Int)-1) (by omega) (by omega),aA (by omega) (by omega)];omega
  rw[w];obtain⟨y,y1,y2,y3⟩:=uL hD (i:=h) (by omega);obtain⟨x,x1,x2,x3⟩:=uL hD (i:=p-h) (by omega);obtain⟨v,v1,v2⟩:=SN x2 y2;rw[bg (by omega),bg (by omega)];simp only[A0,A5,C6];rw[x1,A0,y1,A0,v1,A0,v2,<-y3,<-x3,eO h (by omega)];cases decide (kd D (p-h)<kd D h)<;>rfl) (fun i=>by
  unfold M_v;rw[decide_eq_false (by dsimp only;omega),cond_false])
 exact⟨o,e,h1,h2,fun h=>by simpa using h3 h,fun h=>by simpa using h4 h⟩
def Fm{l:List aq}(h:Srt cst l){i j:Nat}(hij:i<=j){x y:aq}(hx:l[i]?=some x)(hy:l[j]?=some y):cst x<=cst y:=by
 rcases Nat.lt_or_eq_of_le hij with h1|h1
 ·obtain⟨a1,a2⟩:=A1.1 hx;obtain⟨b1,b2⟩:=A1.1 hy;have:=C3.1 h i j a1 b1 h1;rw[a2,b2] at this;exact this
 ·subst h1;rw[hx] at hy;cases hy;exact H3 _
def vO{A L1 L2 T:List aq}(h:Srt cst (L1++L2)){x:aq}(hx:x∈L1):cst x<=kd (A++(L1++L2)++T) (A.length+L1.length-1):=by
 obtain⟨i,hi⟩:=B5 hx;have hil:=(A1.1 hi).1;have e1:(L1++L2)[i]?=some x:=by rw[D6 hil];exact hi
 have e2:(L1++L2)[L1.length-1]?=some (L1[L1.length-1]'(by omega)):=by rw[D6 (by omega)];exact A2 _
 have e3:(A++(L1++L2)++T)[A.length+L1.length-1]?=some (L1[L1.length-1]'(by omega)):=by
  rw[B0,show A.length+L1.length-1=A.length+(L1.length-1) by omega,D5 (by omega),show A.length+(L1.length-1)-A.length=L1.length-1 by omega,D6 (by simp;omega)];exact e2
 rw[xR e3];exact Fm h (by omega) e1 e2
def vk{A L1 L2 T:List aq}(h:Srt cst (L1++L2)){x:aq}(hx:x∈L2):kd (A++(L1++L2)++T) (A.length+L1.length)<=cst x:=by
 obtain⟨i,hi⟩:=B5 hx;have hil:=(A1.1 hi).1;have e1:(L1++L2)[L1.length+i]?=some x:=by rw[D5 (by omega),show L1.length+i-L1.length=i by omega];exact hi
 have e2:(L1++L2)[L1.length]?=some (L2[0]'(by omega)):=by rw[D5 (by omega),Nat.sub_self];exact A2 _
 have e3:(A++(L1++L2)++T)[A.length+L1.length]?=some (L2[0]'(by omega)):=by
  rw[B0,D5 (by omega),show A.length+L1.length-A.length=L1.length by omega,D6 (by simp;omega)];exact e2
 rw[xR e3];exact Fm h (by omega) e2 e1
end Vs

namespace Vs
open Go
def eD{α β:Type}{o:Option α}{v:α}{k:α->Option β}{r:Option β}(h:o=some v)(g:k v=r):o.bind k=r:=by rw[h];exact g
def AI{β:Type}(p q:Prop)[Decidable p][Decidable q](X Y:Option β){r:Option β}(h1:p->q->X=r)(h2:¬(p/\q)->Y=r):((cond (decide p) (some (decide q)) (some false):Option Bool).bind fun o=>cond o X Y)=r:=by
 by_cases hp:p
 ·by_cases hq:q
  ·rw[decide_eq_true hp,decide_eq_true hq];exact h1 hp hq
  ·rw[decide_eq_true hp,decide_eq_false hq];exact h2 fun h=>hq h.2
 ·rw[decide_eq_false hp];exact h2 fun h=>hp h.1
def Ar{W fuel N:Nat}(ih:∀A L R B:List aq,L.length+R.length<=W->L≠[]->R≠[]->Srt cst L->Srt cst R->(∀x∈A++L++R++B,GC x)->N=(A++L++R++B).length->
 ∃S,M_k fuel 0 N (A.length:Int) ((A.length+L.length:Nat):Int) ((A.length+L.length+R.length:Nat):Int) (A++L++R++B)=some (A++S++B)/\Srt cst S/\Stb cst (L++R) S/\S.length=L.length+R.length)
 (A L R B:List aq) (h:L.length+R.length<=W) (sL:Srt cst L) (sR:Srt cst R) (hG:∀x∈A++L++R++B,GC x) (hN:N=(A++L++R++B).length):
 ∃S,(L≠[]->R≠[]->M_k fuel 0 N (A.length:Int) ((A.length+L.length:Nat):Int) ((A.length+L.length+R.length:Nat):Int) (A++L++R++B)=some (A++S++B))/\(L=[]\/R=[]->S=L++R)/\Srt cst S/\Stb cst (L++R) S/\S.length=L.length+R.length:=by
 by_cases d1:L=[]
 ·subst d1;exact⟨R,fun h=>absurd rfl h,fun _=>rfl,sR,Stb.refl _ _,by simp⟩
 ·by_cases d2:R=[]
  ·subst d2;exact⟨L,fun _ h=>absurd rfl h,fun _=>by simp,sL,by simpa using Stb.refl cst L,by simp⟩
  ·obtain⟨S,j1,j2,j3,j4⟩:=ih A L R B h d1 d2 sL sR hG hN;exact⟨S,fun _ _=>j1,fun h=>by rcases h with h|h<;>contradiction,j2,j3,j4⟩
def Cs{α:Type}{l r:List α}(h:l.length=0\/r.length=0):l=[]\/r=[]:=h.imp E3.1 E3.1
def PD{N fuel:Nat}{aI oI midI mI eI bI:Int}(A L1 L2 R1 R2 S1 S2 B:List aq)(hl:N<=1000)(hN:N=A.length+L1.length+L2.length+R1.length+R2.length+B.length)
 (ha:aI=(A.length:Int)) (ho:oI=((A.length+L1.length:Nat):Int)) (hm:mI=((A.length+L1.length+L2.length:Nat):Int)) (hd:midI=((A.length+L1.length+R1.length:Nat):Int)) (he:eI=((A.length+L1.length+L2.length+R1.length:Nat):Int)) (hb:bI=((A.length+L1.length+L2.length+R1.length+R2.length:Nat):Int))
 (k1:L1≠[]->R1≠[]->M_k fuel 0 N (A.length:Int) ((A.length+L1.length:Nat):Int) ((A.length+L1.length+R1.length:Nat):Int) (A++L1++R1++(L2++R2++B))=some (A++S1++(L2++R2++B))) (k2:L1=[]\/R1=[]->S1=L1++R1) (k5:S1.length=L1.length+R1.length)
 (l1:L2≠[]->R2≠[]->M_k fuel 0 N ((A++S1).length:Int) (((A++S1).length+L2.length:Nat):Int) (((A++S1).length+L2.length+R2.length:Nat):Int) (A++S1++L2++R2++B)=some (A++S1++S2++B)) (l2:L2=[]\/R2=[]->S2=L2++R2):
 (((cond (decide (oI<mI)) (some (decide (mI<eI))) (some false):Option Bool).bind fun oZ57=>cond oZ57 ((Bb 0 N oI mI eI (A++(L1++L2)++(R1++R2)++B)).bind fun rZ59=>some rZ59) (some (A++(L1++L2)++(R1++R2)++B)):Option (List aq)).bind fun oZ60=>((cond (decide (aI<oI)) (some (decide (oI<midI))) (some false):Option Bool).bind fun oZ62=>cond oZ62 ((M_k fuel 0 N aI oI midI oZ60).bind fun rZ64=>some rZ64) (some oZ60):Option (List aq)).bind fun oZ65=>(cond (decide (midI<eI)) (some (decide (eI<bI))) (some false):Option Bool).bind fun oZ67=>cond oZ67 ((M_k fuel 0 N midI eI bI oZ65).bind fun rZ69=>some rZ69) (some oZ65))=some (A++(S1++S2)++B):=by
 refine eD (v:=A++L1++R1++(L2++R2++B)) (AI _ _ _ _ (fun h1 h2=>?_) fun h=>?_) (eD (v:=A++S1++(L2++R2++B)) (AI _ _ _ _ (fun h1 h2=>?_) fun h=>?_) (AI _ _ _ _ (fun h1 h2=>?_) fun h=>?_))
 ·have p1:L2≠[]:=B3.1 (by omega);have p2:R1≠[]:=B3.1 (by omega);rw[show A++(L1++L2)++(R1++R2)++B=(A++L1)++L2++R1++(R2++B) by simp,afe (A++L1) L2 R1 (R2++B) p1 p2 (by simp;omega) hl (by simp;omega) (by simp;omega) (by simp;omega)];simp
 ·have:L2=[]\/R1=[]:=Cs (by omega);rcases this with h|h<;>subst h<;>simp
 ·subst ha ho hd;rw[k1 (B3.1 (by omega)) (B3.1 (by omega))];rfl
 ·have:L1=[]\/R1=[]:=Cs (by omega);rw[k2 this];simp
 ·have:=l1 (B3.1 (by omega)) (B3.1 (by omega));rw[show((A++S1).length:Int)=midI by simp;omega,show(((A++S1).length+L2.length:Nat):Int)=eI by simp;omega,show(((A++S1).length+L2.length+R2.length:Nat):Int)=bI by simp;omega] at this;rw[show A++S1++(L2++R2++B)=A++S1++L2++R2++B by simp,this];simp
 ·have:L2=[]\/R2=[]:=Cs (by omega);rw[l2 this];simp
def Vg{W fuel N:Nat}{aI oI midI mI eI bI:Int}(ih:∀A L R B:List aq,L.length+R.length<=W->L≠[]->R≠[]->Srt cst L->Srt cst R->(∀x∈A++L++R++B,GC x)->N=(A++L++R++B).length->
 ∃S,M_k fuel 0 N (A.length:Int) ((A.length+L.length:Nat):Int) ((A.length+L.length+R.length:Nat):Int) (A++L++R++B)=some (A++S++B)/\Srt cst S/\Stb cst (L++R) S/\S.length=L.length+R.length)
 (A L1 L2 R1 R2 B:List aq) (hl:N<=1000) (hN:N=A.length+L1.length+L2.length+R1.length+R2.length+B.length) (hW1:L1.length+R1.length<=W) (hW2:L2.length+R2.length<=W) (sL:Srt cst (L1++L2)) (sR:Srt cst (R1++R2)) (hG:∀x∈A++(L1++L2)++(R1++R2)++B,GC x)
 (F1:∀u∈L2,∀w∈R1,cst w<cst u) (F2:∀x∈L1,∀z∈R2,cst x<=cst z)
 (ha:aI=(A.length:Int)) (ho:oI=((A.length+L1.length:Nat):Int)) (hm:mI=((A.length+L1.length+L2.length:Nat):Int)) (hd:midI=((A.length+L1.length+R1.length:Nat):Int)) (he:eI=((A.length+L1.length+L2.length+R1.length:Nat):Int)) (hb:bI=((A.length+L1.length+L2.length+R1.length+R2.length:Nat):Int)):
 ∃S,(((cond (decide (oI<mI)) (some (decide (mI<eI))) (some false):Option Bool).bind fun oZ57=>cond oZ57 ((Bb 0 N oI mI eI (A++(L1++L2)++(R1++R2)++B)).bind fun rZ59=>some rZ59) (some (A++(L1++L2)++(R1++R2)++B)):Option (List aq)).bind fun oZ60=>((cond (decide (aI<oI)) (some (decide (oI<midI))) (some false):Option Bool).bind fun oZ62=>cond oZ62 ((M_k fuel 0 N aI oI midI oZ60).bind fun rZ64=>some rZ64) (some oZ60):Option (List aq)).bind fun oZ65=>(cond (decide (midI<eI)) (some (decide (eI<bI))) (some false):Option Bool).bind fun oZ67=>cond oZ67 ((M_k fuel 0 N midI eI bI oZ65).bind fun rZ69=>some rZ69) (some oZ65))=some (A++S++B)/\Srt cst S/\Stb cst (L1++L2++(R1++R2)) S/\S.length=(L1++L2).length+(R1++R2).length:=by
 obtain⟨sL1,sL2,sLx⟩:=Srt.app3.1 sL;obtain⟨sR1,sR2,sRx⟩:=Srt.app3.1 sR;have hGm:∀x,x∈A\/x∈L1\/x∈L2\/x∈R1\/x∈R2\/x∈B->GC x:=fun x hx=>hG x (by simp only[B7];rcases hx with h|h|h|h|h|h<;>simp[h]);obtain⟨S1,k1,k2,k3,k4,k5⟩:=Ar ih A L1 R1 (L2++R2++B) hW1 sL1 sR1 (fun x hx=>hGm x (by simp only[B7] at hx;rcases hx with((h|h)|h)|((h|h)|h)<;>simp[h])) (by simp;omega);have hS1:∀x∈S1,x∈L1\/x∈R1:=fun x hx=>B7.1 ((k4.mem x).1 hx);have hG2:∀x∈A++S1++L2++R2++B,GC x:=fun x hx=>hGm x (by
  simp only[B7] at hx;rcases hx with(((h|h)|h)|h)|h
  ·simp[h]
  ·rcases hS1 x h with h|h<;>simp[h]
  ·simp[h]
  ·simp[h]
  ·simp[h])
 obtain⟨S2,l1,l2,l3,l4,l5⟩:=Ar ih (A++S1) L2 R2 B hW2 sL2 sR2 hG2 (by simp;omega);have hS2:∀x∈S2,x∈L2\/x∈R2:=fun x hx=>B7.1 ((l4.mem x).1 hx);refine⟨S1++S2,PD A L1 L2 R1 R2 S1 S2 B hl hN ha ho hm hd he hb k1 k2 k5 l1 l2,k3.app l3 (fun x hx z hz=>?_),?_,by simp;omega⟩
 ·rcases hS1 x hx with h1|h1<;>rcases hS2 z hz with h2|h2
  ·exact sLx x h1 z h2
  ·exact F2 x h1 z h2
  ·exact I3 (F1 z h2 x h1)
  ·exact sRx x h1 z h2
 ·have t1:=((Stb.refl cst L1).app (Stb.swap F1)).app (Stb.refl cst R2);have t2:=k4.app l4;have t3:Stb cst (L1++L2++(R1++R2)) (L1++R1++(L2++R2)):=by simpa using t1
  exact t3.trans t2
set_option maxHeartbeats 1600000 in
theorem Mu:∀(W fuel:Nat)(A L R B:List aq)(N:Nat),L.length+R.length<=W->W<fuel->L≠[]->R≠[]->Srt cst L->Srt cst R->(∀x∈A++L++R++B,GC x)->N=(A++L++R++B).length->N<=1000->
 ∃S,M_k fuel 0 N (A.length:Int) ((A.length+L.length:Nat):Int) ((A.length+L.length+R.length:Nat):Int) (A++L++R++B)=some (A++S++B)/\Srt cst S/\Stb cst (L++R) S/\S.length=L.length+R.length
 |0,_,_,L,_,_,_,h,_,hL,_,_,_,_,_,_=>by have:=B3.2 hL;omega
 |W+1,0,_,_,_,_,_,_,h,_,_,_,_,_,_,_=>by omega
 | W + 1, fuel + 1, A, L, R, B, N, hW, hf, hL, hR, sL, sR, hG, hN, hl => by
   have pL:=B3.2 hL;have pR:=B3.2 hR;have hN':N=A.length+L.length+R.length+B.length:=by rw[hN];simp;omega
   unfold M_k VQ;rw[aA (n:=((A.length+L.length:Nat):Int)-(A.length:Int)) (by omega) (by omega),aA (n:=((A.length+L.length+R.length:Nat):Int)-((A.length+L.length:Nat):Int)) (by omega) (by omega)];by_cases c1:L.length=1
   ·obtain⟨x,rfl⟩:=I4.1 c1;obtain⟨o,e,o1,o2,o3,o4⟩:=b1 hG hN hl A.length (A.length+1) (A.length+1+R.length) (by simp at hN';omega) (by omega) (by simp at hN';omega);obtain⟨R1,R2,rfl,r1⟩:=dL R (o-(A.length+1)) (by omega);have hx:kd (A++[x]++(R1++R2)++B) A.length=cst x:=xR (by simp);have f1:∀y∈R1,cst y<cst x:=fun y hy=>by
     have:=vO (A:=A++[x]) (T:=B) sR hy;have p1:=B8 hy;have:=o3 (by omega);rw[hx,show o-1=(A++[x]).length+R1.length-1 by simp;omega] at this;omega
    have f2:∀y∈R2,cst x<=cst y:=fun y hy=>by
     have:=vk (A:=A++[x]) (T:=B) sR hy;have p1:=B8 hy;simp only[A6] at o2;have:=o4 (by rw[A6];omega);rw[hx,show o=(A++[x]).length+R1.length by simp;omega] at this;omega
    rw[B6,show((((A.length+1:Nat):Int)-(A.length:Int))==1)=true by simp;omega,cond_true,e,A0,
     show A++[x]++(R1++R2)++B=A++x::(R1++(R2++B)) by simp,p_up A R1 (R2++B) x (by simp at hN'⊢;omega) hl (by omega)]
    obtain⟨s1,s2,s3⟩:=Srt.app3.1 sR;refine⟨R1++x::R2,by simp,s1.app (F4.2 ⟨f2,s2⟩) (fun y hy z hz=>?_),?_,by simp;omega⟩
    ·rcases C7.1 hz with e|e
     ·subst e;have:=f1 y hy;omega
     ·exact s3 y hy z e
    ·have:=(Stb.swap (u:=[x]) (w:=R1) (k:=cst) (fun a ha y hy=>by rw[C1] at ha;subst ha;exact f1 y hy)).app (Stb.refl cst R2);simpa using this
   ·rw[show((((A.length+L.length:Nat):Int)-(A.length:Int))==1)=false by simp;omega,cond_false];by_cases c2:R.length=1
    ·obtain⟨y,rfl⟩:=I4.1 c2;obtain⟨o,e,o1,o2,o3,o4⟩:=b3 hG hN hl A.length (A.length+L.length) (by omega) (by simp at hN';omega);obtain⟨L1,L2,rfl,r1⟩:=dL L (o-A.length) (by omega);have hx:kd (A++(L1++L2)++[y]++B) (A.length+(L1++L2).length)=cst y:=xR (by
      rw[B0,G3];exact gB _ _ _ (by simp))
     have f1:∀x∈L1,cst x<=cst y:=fun x h=>by
      have:=vO (A:=A) (T:=[y]++B) sL h;rw[<-B0] at this;have p1:=B8 h;have:=o3 (by omega);rw[hx,show o-1=A.length+L1.length-1 by omega] at this;omega
     have f2:∀x∈L2,cst y<cst x:=fun x h=>by
      have:=vk (A:=A) (T:=[y]++B) sL h;rw[<-B0] at this;have p1:=B8 h;rw[A6] at o2;have:=o4 (by rw[A6];omega);rw[hx,show o=A.length+L1.length by omega] at this;omega
     rw[B6,show((((A.length+(L1++L2).length+1:Nat):Int)-((A.length+(L1++L2).length:Nat):Int))==1)=true by simp;omega,cond_true,e,A0,
      show A++(L1++L2)++[y]++B=(A++L1)++L2++y::B by simp,show((A.length+(L1++L2).length:Nat):Int)=(((A++L1).length+L2.length:Nat):Int) by simp;omega,show(o:Int)=((A++L1).length:Int) by simp;omega,p_dn (A++L1) L2 B y (by simp at hN'⊢;omega) hl]
     obtain⟨s1,s2,s3⟩:=Srt.app3.1 sL;refine⟨L1++y::L2,by simp,s1.app (F4.2 ⟨fun z hz=>I3 (f2 z hz),s2⟩) (fun x h z hz=>?_),?_,by simp;omega⟩
     ·rcases C7.1 hz with e|e
      ·subst e;exact f1 x h
      ·exact s3 x h z e
     ·have:=(Stb.refl cst L1).app (Stb.swap (u:=L2) (w:=[y]) (k:=cst) (fun a ha z hz=>by rw[C1] at hz;subst hz;exact f2 a ha));simpa using this
    ·rw[show((((A.length+L.length+R.length:Nat):Int)-((A.length+L.length:Nat):Int))==1)=false by simp;omega,cond_false,nh A.length (A.length+L.length+R.length) (by omega)];obtain⟨mid,hmid⟩:∃q,q=(A.length+(A.length+L.length+R.length))/2:=⟨_,rfl⟩;rw[<-hmid];have m1:A.length<mid:=by omega
     have m2:mid<A.length+L.length+R.length:=by omega
     obtain⟨s0,r0,hsr,hs1,hs2⟩:∃s0 r0:Nat,(cond (decide ((mid:Int)<((A.length+L.length:Nat):Int))) (some (A4 .i64 (A4 .i64 ((mid:Int)+((A.length+L.length:Nat):Int))-((A.length+L.length+R.length:Nat):Int)),(mid:Int))) (some ((A.length:Int),((A.length+L.length:Nat):Int))):Option (Int×Int))=some ((s0:Int),(r0:Int))/\(mid<A.length+L.length->s0+(A.length+L.length+R.length)=mid+(A.length+L.length)/\r0=mid)/\(A.length+L.length<=mid->s0=A.length/\r0=A.length+L.length):=by
      by_cases c:mid<A.length+L.length
      ·refine⟨mid+(A.length+L.length)-(A.length+L.length+R.length),mid,?_,fun _=>⟨by omega,rfl⟩,fun h=>by omega⟩;rw[decide_eq_true (by omega),cond_true,aA (n:=(mid:Int)+_) (by omega) (by omega),aA (by omega) (by omega)];simp only[Option.some.injEq,Prod.mk.injEq,and_true];omega
      ·refine⟨A.length,A.length+L.length,?_,fun h=>by omega,fun _=>⟨rfl,rfl⟩⟩;rw[decide_eq_false (by omega),cond_false]
     have c3:s0<=r0/\r0<=A.length+L.length/\r0<=mid/\A.length<=s0/\mid+(A.length+L.length)<=s0+(A.length+L.length+R.length):=by
      by_cases c:mid<A.length+L.length
      ·have:=hs1 c;omega
      ·have:=hs2 (by omega);omega
     obtain⟨o,e,o1,o2,o3,o4⟩:=b5 hG hN hl A.length (A.length+L.length) (A.length+L.length+R.length) s0 r0 (mid+(A.length+L.length)-1) (by omega) (by omega) c3.1 (by omega) (fun c h1 h2=>by omega);have o5:(A.length<o->mid+(A.length+L.length)-o<A.length+L.length+R.length->s0<o)/\(o<mid->o<A.length+L.length->o<r0):=by
      by_cases c:mid<A.length+L.length
      ·have:=hs1 c;omega
      ·have:=hs2 (by omega);omega
     rw[hsr,A0,e,A0];obtain⟨L1,L2,rfl,r1⟩:=dL L (o-A.length) (by omega);obtain⟨R1,R2,rfl,r2⟩:=dL R (mid-o) (by omega);rw[aA (n:=(mid:Int)+_) (by omega) (by omega),aA (n:=(mid:Int)+_-_) (by omega) (by omega)];obtain⟨sL1,sL2,sLx⟩:=Srt.app3.1 sL;obtain⟨sR1,sR2,sRx⟩:=Srt.app3.1 sR;simp only[A6] at hN' hW c1 c2 m1 m2 c3 o1 o2 o3 o4 o5 hmid pL pR hs1 hs2;have F1:∀u∈L2,∀w∈R1,cst w<cst u:=fun u hu w hw=>by
      have q1:=vk (A:=A) (T:=(R1++R2)++B) sL hu;have q2:=vO (A:=A++(L1++L2)) (T:=B) sR hw;rw[<-B0] at q1;have p1:=B8 hu;have p2:=B8 hw;have q3:=o4 (o5.2 (by omega) (by omega));rw[show mid+(A.length+(L1.length+L2.length))-1-o=(A++(L1++L2)).length+R1.length-1 by simp;omega] at q3;rw[show A.length+L1.length=o by omega] at q1;omega
     have F2:∀x∈L1,∀z∈R2,cst x<=cst z:=fun x hx z hz=>by
      have q1:=vO (A:=A) (T:=(R1++R2)++B) sL hx;have q2:=vk (A:=A++(L1++L2)) (T:=B) sR hz;rw[<-B0] at q1;have p1:=B8 hx;have p2:=B8 hz;have q3:=o3 (o5.1 (by omega) (by omega));rw[show mid+(A.length+(L1.length+L2.length))-1-(o-1)=(A++(L1++L2)).length+R1.length by simp;omega] at q3;rw[show A.length+L1.length-1=o-1 by omega] at q1;omega
     clear o3 o4;have z1:N=A.length+L1.length+L2.length+R1.length+R2.length+B.length:=by omega
     have z2:L1.length+R1.length<=W:=by omega
     have z3:L2.length+R2.length<=W:=by omega
     have z4:o=A.length+L1.length:=by omega
     have z5:mid=A.length+L1.length+R1.length:=by omega
     have z6:(L1++L2).length=L1.length+L2.length:=A6;have z7:(R1++R2).length=R1.length+R2.length:=A6;have ih:=fun A L R B h1 h2 h3 h4 h5 h6 h7=>Mu W fuel A L R B N h1 (by omega) h2 h3 h4 h5 h6 h7 hl;clear hs1 hs2 c1 c2 m1 m2 c3 o1 o2 o5 hmid pL pR hsr e hL hR hN r1 r2;exact Vg ih A L1 L2 R1 R2 B hl z1 z2 z3 sL sR hG F1 F2 rfl (by omega) (by omega) (by omega) (by omega) (by omega)
end Vs

namespace Vs
open Go
def YJ(A S T:List aq)(x:aq){N:Nat}(hN:N=(A++S++x::T).length)(hl:N<=1000)(hG:∀y∈A++S++x::T,GC y)(hS:Srt cst S):
 ∃S',aW (M_s 0 N (A.length:Int)) N0 (((A.length+S.length:Nat):Int),A++S++x::T)=some (A++S'++T)/\Srt cst S'/\Stb cst (S++[x]) S'/\S'.length=S.length+1:=by
 have hN':N=A.length+S.length+1+T.length:=by rw[hN];simp;omega
 have hx:GC x:=hG x (by simp);obtain⟨b,e,S1,S2,q1,q2,q3,q4⟩:=bT (f:=M_s 0 N (A.length:Int)) (fun s=>∃S1 S2,S=S1++S2/\(∀y∈S2,cst x<cst y)/\s=(((A.length+S1.length:Nat):Int),A++S1++x::(S2++T))) (fun s=>s.1.toNat) (fun b=>∃S1 S2,S=S1++S2/\(∀y∈S2,cst x<cst y)/\(∀y∈S1,cst y<=cst x)/\b=A++S1++x::(S2++T)) (fun s⟨S1,S2,q1,q2,q3⟩=>by
  subst q1 q3;rw[A6] at hN';unfold M_s;dsimp only;rcases I7 S1 with c|⟨V,y,c⟩
  ·subst c;right;rw[decide_eq_false (by simp only[B1];omega),cond_false,A0,cond_false];exact⟨_,rfl,[],S2,rfl,q2,(fun y hy=>nomatch hy),rfl⟩
  ·subst c;simp only[I8,A6,A8,B1] at hN' hG hS⊢;have hy:GC y:=hG y (by simp);obtain⟨v,v1,v2⟩:=SN hx hy;have e0:A++(V++[y])++x::(S2++T)=(A++V)++y::x::(S2++T):=by simp
   have a1:((A++V)++y::x::(S2++T))[A.length+(V.length+(0+1))]?=some x:=by rw[show(A++V)++y::x::(S2++T)=(A++V++[y])++x::(S2++T) by simp];exact gB _ _ _ (by simp)
   have a2:((A++V)++y::x::(S2++T))[A.length+(V.length+(0+1))-1]?=some y:=gB _ _ _ (by simp);have g1:grd (0<=((A.length+(V.length+(0+1)):Nat):Int)/\((A.length+(V.length+(0+1)):Nat):Int)<(N:Int))=some ():=bg (by omega);have g2:grd (0<=A4 .i64 (((A.length+(V.length+(0+1)):Nat):Int)-1)/\A4 .i64 (((A.length+(V.length+(0+1)):Nat):Int)-1)<(N:Int))=some ():=bg (by rw[qc _ (by omega) (by omega)];omega);have b1:((A++V)++y::x::(S2++T))[0+C4 ((A.length+(V.length+(0+1)):Nat):Int)]?=some x:=by rw[A5,C6];exact a1
   have b2:((A++V)++y::x::(S2++T))[0+C4 (A4 .i64 (((A.length+(V.length+(0+1)):Nat):Int)-1))]?=some y:=by rw[qc _ (by omega) (by omega),A5,C6];exact a2
   rw[e0,decide_eq_true (by omega),cond_true,g1,A0,b1,A0,g2,A0,b2,A0,v1,A0,A0,v2];by_cases hc:cst x<cst y
   ·left;rw[decide_eq_true hc,cond_true];have cd:=EE (β:=(Int×List aq)⊕List aq) (A++V) y x (S2++T) N (A.length+(V.length+(0+1))) (by simp;omega) (by omega) hl (fun l=>some (.inl (A4 .i64 (((A.length+(V.length+(0+1)):Nat):Int)-1),l)));rw[g2,A0,b2,A0,g1,A0,b1,A0] at cd;simp only[A0];rw[cd,qc _ (by omega) (by omega)];refine⟨_,rfl,⟨V,y::S2,by simp,fun z hz=>?_,by simp⟩,by simp only[A5];omega⟩;rcases C7.1 hz with h|h
    ·rw[h];exact hc
    ·exact q2 z h
   ·right;rw[decide_eq_false hc,cond_false];refine⟨_,rfl,V++[y],S2,rfl,q2,fun z hz=>?_,by simp⟩;rcases B7.1 hz with h|h
    ·have:=(Srt.app3.1 (Srt.app3.1 hS).1).2.2 z h y (by simp);omega
    ·rw[C1] at h;rw[h];omega) N0 (((A.length+S.length:Nat):Int),A++S++x::T) ⟨S,[],by simp,(fun y hy=>nomatch hy),by simp⟩ (dm (by simp only[A5];omega))
 subst q1 q4;obtain⟨s1,s2,s3⟩:=Srt.app3.1 hS;refine⟨S1++x::S2,by rw[e];simp,s1.app (F4.2 ⟨fun z hz=>I3 (q2 z hz),s2⟩) (fun y hy z hz=>?_),?_,by simp;omega⟩
 ·rcases C7.1 hz with h|h
  ·rw[h];exact q3 y hy
  ·exact s3 y hy z h
 ·have:=(Stb.refl cst S1).app (Stb.swap (u:=S2) (w:=[x]) (k:=cst) (fun a ha z hz=>by rw[C1] at hz;subst hz;exact q2 a ha));simpa using this
def XE(A U B:List aq){N:Nat}(hN:N=(A++U++B).length)(hl:N<=1000)(hG:∀y∈A++U++B,GC y):
 ∃S,GM 0 N (A.length:Int) ((A.length+U.length:Nat):Int) (A++U++B)=some (A++S++B)/\Srt cst S/\Stb cst U S/\S.length=U.length:=by
 have hN':N=A.length+U.length+B.length:=by rw[hN];simp;omega
 unfold GM;rw[eO _ (by omega)];cases U with
 | nil =>
   refine⟨[],?_,H5.nil,Stb.refl _ _,rfl⟩;obtain⟨b,e,q⟩:=bT (f:=M_b 0 N (A.length:Int) ((A.length+([]:List aq).length:Nat):Int)) (fun s=>s=(((A.length+1:Nat):Int),A++[]++B)) (fun _=>0) (fun b=>b=A++[]++B) (fun s h=>by
    subst h;right;unfold M_b;rw[decide_eq_false (by simp only[B1];omega),cond_false];exact⟨_,rfl,rfl⟩) N0 (((A.length+1:Nat):Int),A++[]++B) rfl (dm (by decide))
   rw[e,q];rfl
 | cons u U =>
   obtain⟨b,e,S,q1,q2,q3,q4⟩:=bT (f:=M_b 0 N (A.length:Int) ((A.length+(u::U).length:Nat):Int)) (fun s=>∃V S T,u::U=V++T/\s=(((A.length+V.length:Nat):Int),A++S++(T++B))/\Srt cst S/\Stb cst V S/\S.length=V.length) (fun s=>(((A.length+(u::U).length:Nat):Int)-s.1).toNat) (fun b=>∃S,b=A++S++B/\Srt cst S/\Stb cst (u::U) S/\S.length=(u::U).length) (fun s⟨V,S,T,q1,q2,q3,q4,q5⟩=>by
    subst q2;have ql:U.length+1=V.length+T.length:=by have:=congrArg List.length q1;simpa using this
    simp only[A8] at hN'⊢;unfold M_b;dsimp only;cases T with
    | nil =>
      right;rw[C8] at q1;rw[decide_eq_false (by simp only[B1] at ql;omega),cond_false];exact⟨_,rfl,S,by simp,q3,by rw[q1];exact q4,by rw[q5,<-q1];rfl⟩
    | cons x T =>
      left;rw[A8] at ql;have hg2:∀y∈A++S++x::(T++B),GC y:=fun y hy=>hG y (by
       rw[q1];simp only[B7,C7] at hy⊢;rcases hy with(h|h)|h|h|h
       ·exact .inl (.inl h)
       ·exact .inl (.inr (.inl ((q4.mem y).1 h)))
       ·exact .inl (.inr (.inr (.inl h)))
       ·exact .inl (.inr (.inr (.inr h)))
       ·exact .inr h)
      obtain⟨S',i1,i2,i3,i4⟩:=YJ A S (T++B) x (N:=N) (by simp;omega) hl hg2 q3;rw[decide_eq_true (by omega),cond_true,K2,show((A.length+V.length:Nat):Int)=((A.length+S.length:Nat):Int) by omega,i1,A0,A0,eO _ (by omega)];exact⟨_,rfl,⟨V++[x],S',T,by rw[q1];simp,by simp;omega,i2,(q4.app (Stb.refl cst [x])).trans i3,by simp;omega⟩,by simp only;omega⟩) N0 (((A.length+1:Nat):Int),A++u::U++B) ⟨[u],[u],U,rfl,by simp,by simp[Srt],Stb.refl _ _,rfl⟩ (dm (by simp only[A8] at hN'⊢;omega))
   subst q1;exact⟨S,by rw[e];rfl,q2,q3,q4⟩
end Vs

namespace Vs
open Go
inductive Rn(k:Nat):List aq->Prop
 |last (l:List aq):l.length<=k->Srt cst l->Rn k l
 |cons (l r:List aq):l.length=k->Srt cst l->Rn k r->Rn k (l++r)
def Rn.nil(k:Nat):Rn k []:=.last _ (K3 _) H5.nil
def Rn.split{k:Nat}{E:List aq}(h:Rn k E)(hk:k<=E.length):∃l r,E=l++r/\l.length=k/\Srt cst l/\Rn k r:=by
 cases h with
 |last _ h1 h2=>exact⟨E,[],by simp,by omega,h2,.nil k⟩
 |cons l r h1 h2 h3=>exact⟨l,r,rfl,h1,h2,h3⟩
def Rn.small{k:Nat}{E:List aq}(h:Rn k E)(hk:E.length<=k):Srt cst E:=by
 cases h with
 |last _ h1 h2=>exact h2
 | cons l r h1 h2 h3 =>
   rw[A6] at hk;have:r=[]:=E3.1 (by omega);rw[this,C8];exact h2
def RnP(k:Nat)(D:List aq):Prop:=∀E,Rn k E->Rn k (D++E)
def RnP.nil(k:Nat):RnP k []:=fun _ h=>h
def RnP.snoc{k:Nat}{D l:List aq}(h:RnP k D)(hl:l.length=k)(hs:Srt cst l):RnP k (D++l):=fun E hE=>by rw[B0];exact h _ (.cons l E hl hs hE)
def Stb.gc{a b:List aq}(h:Stb cst a b)(g:∀x∈a,GC x):∀x∈b,GC x:=fun x hx=>g x ((h.mem x).1 hx)
def OY(d:List aq)(hl:d.length<=900)(hG:∀x∈d,GC x):
 ∃D E,aW (Im (d.length:Int)) N0 (d.length,0,20,d)=some (d.length,(D.length:Int),D++E)/\RnP 20 D/\E.length<=20/\Stb cst d (D++E)/\D.length+E.length=d.length:=by
 obtain⟨b,e,D,E,q1,q2,q3,q4,q5⟩:=bT (f:=Im (d.length:Int)) (fun s=>∃D E,s=(d.length,(D.length:Int),((D.length+20:Nat):Int),D++E)/\RnP 20 D/\Stb cst d (D++E)/\D.length+E.length=d.length) (fun s=>((d.length:Int)-s.2.1).toNat) (fun b=>∃D E,b=(d.length,(D.length:Int),D++E)/\RnP 20 D/\E.length<=20/\Stb cst d (D++E)/\D.length+E.length=d.length) (fun s⟨D,E,q1,q2,q3,q4⟩=>by
  subst q1;unfold Im;dsimp only;by_cases h:D.length+20<=d.length
  ·left;obtain⟨U,B,e1,e2⟩:=dL E 20 (by omega);subst e1;rw[A6] at q4;obtain⟨S,i1,i2,i3,i4⟩:=XE D U B (N:=d.length) (by simp;omega) (by omega) (by rw[B0];exact q3.gc hG);rw[e2,B0] at i1;rw[decide_eq_true (by omega),cond_true,i1,A0,aA (by omega) (by omega)];refine⟨_,rfl,⟨D++S,B,by simp;omega,q2.snoc (by omega) i2,?_,by simp;omega⟩,by simp only;omega⟩;rw[B0];exact q3.trans ((Stb.refl cst D).app (i3.app (Stb.refl cst B)))
  ·right;rw[decide_eq_false (by omega),cond_false];exact⟨_,rfl,D,E,rfl,q2,by omega,q3,q4⟩) N0 (d.length,0,20,d) ⟨[],d,rfl,.nil 20,Stb.refl _ _,by simp⟩ (dm (by simp only;omega))
 exact⟨D,E,by rw[e,q1],q2,q3,q4,q5⟩
def SQ(d0:List aq)(hl:d0.length<=900)(hG:∀x∈d0,GC x){o:Nat×Int×List aq}(ho:o.1=d0.length){k:Nat}(hk:0<k)(hk2:k<=900){d:List aq}(hR:Rn k d)(hS:Stb cst d0 d)(hlen:d.length=d0.length):
 ∃D E,aW (Iv (d0.length:Int) o ((k:Int),d)) N0 (0,((2*k:Nat):Int),d)=some ((D.length:Int),D++E)/\RnP (2*k) D/\Rn k E/\E.length<2*k/\Stb cst d0 (D++E)/\D.length+E.length=d0.length:=by
 obtain⟨b,e,D,E,q1,q2,q3,q4,q5,q6⟩:=bT (f:=Iv (d0.length:Int) o ((k:Int),d)) (fun s=>∃D E,s=((D.length:Int),((D.length+2*k:Nat):Int),D++E)/\RnP (2*k) D/\Rn k E/\Stb cst d0 (D++E)/\D.length+E.length=d0.length) (fun s=>((d0.length:Int)-s.1).toNat) (fun b=>∃D E,b=((D.length:Int),D++E)/\RnP (2*k) D/\Rn k E/\E.length<2*k/\Stb cst d0 (D++E)/\D.length+E.length=d0.length) (fun s⟨D,E,q1,q2,q3,q4,q5⟩=>by
  subst q1;unfold Iv;dsimp only;by_cases h:D.length+2*k<=d0.length
  ·left;obtain⟨l1,r,rfl,a1,a2,a3⟩:=q3.split (by omega);rw[A6] at q5;obtain⟨l2,r,rfl,b1,b2,b3⟩:=a3.split (by omega);rw[A6] at q5;obtain⟨S,i1,i2,i3,i4⟩:=Mu (2*k) N0 D l1 l2 r d0.length (by omega) (dm (by omega)) (B3.1 (by omega)) (B3.1 (by omega)) a2 b2 (by simpa using q4.gc hG) (by simp;omega) (by omega);rw[show D++(l1++(l2++r))=D++l1++l2++r by simp,decide_eq_true (by omega),cond_true,ho,aA (n:=(D.length:Int)+(k:Int)) (by omega) (by omega),show(D.length:Int)+(k:Int)=((D.length+l1.length:Nat):Int) by omega,show((D.length+2*k:Nat):Int)=((D.length+l1.length+l2.length:Nat):Int) by omega,i1,A0,aA (n:=2*(k:Int)) (by omega) (by omega),aA (by omega) (by omega)];refine⟨_,rfl,⟨D++S,r,by simp only[A6,Prod.mk.injEq];exact⟨by omega,by omega,trivial⟩,q2.snoc (by omega) i2,b3,?_,by simp;omega⟩,by simp only;omega⟩;rw[B0];have:=(Stb.refl cst D).app (i3.app (Stb.refl cst r));rw[B0] at this;exact q4.trans this
  ·right;rw[decide_eq_false (by omega),cond_false];exact⟨_,rfl,D,E,rfl,q2,q3,by omega,q4,q5⟩) N0 (0,((2*k:Nat):Int),d) ⟨[],d,by simp,.nil _,hR,hS,by simp[hlen]⟩ (dm (by simp only;omega))
 exact⟨D,E,by rw[e,q1],q2,q3,q4,q5,q6⟩
def Lc(d:List aq)(hl:d.length<=900)(hG:∀x∈d,GC x):∃S,OT d=some S/\Srt cst S/\Stb cst d S/\S.length=d.length:=by
 obtain⟨D,E,e1,q2,q3,q4,q5⟩:=OY d hl hG;obtain⟨S,i1,i2,i3,i4⟩:=XE D E [] (N:=d.length) (by simp;omega) (by omega) (by simpa using q4.gc hG);rw[C8,C8,q5] at i1;have r1:Rn 20 (D++S):=q2 S (.last S (by omega) i2);have r2:Stb cst d (D++S):=q4.trans ((Stb.refl cst D).app i3);unfold OT Wv;rw[e1,A0];dsimp only;rw[i1,A0];obtain⟨b,e,q,p1,p2⟩:=bT (f:=No (d.length:Int) (d.length,(D.length:Int),D++E)) (fun s=>∃(k:Nat)(c:List aq),s=((k:Int),c)/\0<k/\Rn k c/\Stb cst d c/\c.length=d.length) (fun s=>((d.length:Int)-s.1).toNat) (fun b=>Srt cst b/\Stb cst d b/\b.length=d.length) (fun s⟨k,c,z1,z2,z3,z4,z5⟩=>by
  subst z1;unfold No;dsimp only;by_cases h:k<d.length
  ·left;obtain⟨D',E',l1,l2,l3,l4,l5,l6⟩:=SQ d hl hG (o:=(d.length,(D.length:Int),D++E)) rfl z2 (by omega) z3 z4 z5;rw[decide_eq_true (by omega),cond_true,aA (n:=2*(k:Int)) (by omega) (by omega),show 2*(k:Int)=((2*k:Nat):Int) by omega,l1,A0];dsimp only;rw[aA (n:=(D'.length:Int)+(k:Int)) (by omega) (by omega),aA (n:=(k:Int)*2) (by omega) (by omega),show(k:Int)*2=((2*k:Nat):Int) by omega];by_cases g:k<E'.length
   ·obtain⟨u,r,rfl,a1,a2,a3⟩:=l3.split (by omega);rw[A6] at l4 l6 g;have a4:=a3.small (by omega);obtain⟨S',i1,i2,i3,i4⟩:=Mu (2*k) N0 D' u r [] d.length (by omega) (dm (by omega)) (B3.1 (by omega)) (B3.1 (by omega)) a2 a4 (by simpa using l5.gc hG) (by simp;omega) (by omega);rw[C8,C8] at i1;rw[decide_eq_true (by omega),cond_true,show(D'.length:Int)+(k:Int)=((D'.length+u.length:Nat):Int) by omega,show(d.length:Int)=((D'.length+u.length+r.length:Nat):Int) by omega,<-B0,i1,A0];exact⟨_,rfl,⟨2*k,D'++S',rfl,by omega,l2 S' (.last S' (by omega) i2),l5.trans ((Stb.refl cst D').app i3),by simp;omega⟩,by simp only;omega⟩
   ·rw[decide_eq_false (by omega),cond_false];exact⟨_,rfl,⟨2*k,D'++E',rfl,by omega,l2 E' (.last E' (by omega) (l3.small (by omega))),l5,by simp;omega⟩,by simp only;omega⟩
  ·right;rw[decide_eq_false (by omega),cond_false];exact⟨_,rfl,z3.small (by omega),z4,z5⟩) N0 (20,D++S) ⟨20,D++S,rfl,by omega,r1,r2,by simp;omega⟩ (dm (by simp only;omega))
 exact⟨b,by rw[e];rfl,q,p1,p2⟩
end Vs

namespace Vs
open Go
def wE(cs:List aq)(m:Nat)(r:Int):Prop:=(m=0/\r=-1)\/∃(i:Nat)(c:aq),r=(i:Int)/\i<m/\cs[i]?=some c/\(∀j y,j<m->cs[j]?=some y->cst c<=cst y)/\∀j y,j<i->cs[j]?=some y->cst c<cst y
def Xz{c:aq}(h:GC c):A4 .i64 (c.N*(c.F.F.length:Int))=cst c:=by
 have:=BV h;exact aA (by unfold cst at this;omega) (by unfold cst at this;omega)
def SH{cs:List aq}(hl:cs.length<=900)(hG:∀c∈cs,GC c):∃r,Qu (cs.map (·.F)) (cs.map (·.N))=some r/\wE cs cs.length r:=by
 unfold Qu;obtain⟨b,e,h⟩:=bT (f:=Mc (cs.map (·.F)) (cs.map (·.N))) (fun s=>∃m:Nat,s.2=(m:Int)/\m<=cs.length/\wE cs m s.1) (fun s=>cs.length-s.2.toNat) (fun b=>wE cs cs.length b) (fun s⟨m,e,hm,hI⟩=>by
  obtain⟨r,q⟩:=s;simp only at e hI;subst e;unfold Mc;dsimp only;by_cases hlt:m<cs.length
  ·left;have hx:cs[m]?=some cs[m]:=A2 hlt;generalize cs[m]=x at hx;have gx:=hG x (A3 hx);have m1:bE (cs.map (·.N)) (m:Int)=some x.N:=by rw[aR,B9,hx];rfl
   have m2:bE (cs.map (·.F)) (m:Int)=some x.F:=by rw[aR,B9,hx];rfl
   rw[decide_eq_true (by rw[E7];omega),cond_true,eO m (by omega),m1,m2];rcases hI with⟨h0,rfl⟩|⟨i,c,rfl,hi,hc,h1,h2⟩
   ·subst h0;refine⟨_,rfl,⟨1,rfl,by omega,.inr ⟨0,x,rfl,by omega,hx,fun j y hj hy=>?_,fun j y hj=>by omega⟩⟩,by simp only;omega⟩;obtain rfl:j=0:=by omega
    rw[hx] at hy;cases hy;exact H3 _
   ·have gc:=hG c (A3 hc);have m3:bE (cs.map (·.N)) (i:Int)=some c.N:=by rw[aR,B9,hc];rfl
    have m4:bE (cs.map (·.F)) (i:Int)=some c.F:=by rw[aR,B9,hc];rfl
    rw[decide_eq_false (by omega),cond_false,m3,m4];simp only[A0];rw[Xz gx,Xz gc];by_cases hlt2:cst x<cst c
    ·rw[decide_eq_true hlt2,cond_true];refine⟨_,rfl,⟨m+1,rfl,by omega,.inr ⟨m,x,rfl,by omega,hx,fun j y hj hy=>?_,fun j y hj hy=>?_⟩⟩,by simp only;omega⟩
     ·by_cases hj2:j=m
      ·subst hj2;rw[hx] at hy;cases hy;exact H3 _
      ·have:=h1 j y (by omega) hy;omega
     ·have:=h1 j y hj hy;omega
    ·rw[decide_eq_false hlt2,cond_false];refine⟨_,rfl,⟨m+1,rfl,by omega,.inr ⟨i,c,rfl,by omega,hc,fun j y hj hy=>?_,h2⟩⟩,by simp only;omega⟩;by_cases hj2:j=m
     ·subst hj2;rw[hx] at hy;cases hy;omega
     ·exact h1 j y (by omega) hy
  ·right;rw[decide_eq_false (by rw[E7];omega),cond_false];obtain rfl:m=cs.length:=by omega
   exact⟨_,rfl,hI⟩) N0 (-1,0) ⟨0,rfl,by omega,.inl ⟨rfl,rfl⟩⟩ (dm (by simp only;omega))
 exact⟨b,by rw[e];rfl,h⟩
def Bm(n:ae)(d:aM)(fs:List az)(hz:bd n<=1048576)(hf:fs.length<=1048576):
 ∃c ok,Ky n fs d=some (c,ok)/\JD n d fs=some (c.F,c.N,ok,fs)/\(ok=true->ChO n fs d c):=by
 obtain⟨ok,cs,u1,u2,u3,u4⟩:=AA n d fs hz hf;unfold Ky JD;rw[u1,u2];simp only[A0];cases ok with
 | false =>
   obtain rfl:=u4 rfl;exact⟨⟨⟨0,[]⟩,0⟩,false,rfl,rfl,fun h=>by cases h⟩
 | true =>
   obtain⟨h,hfo,hra,hcn⟩:=u3 rfl;have hl:=h.len;have hG:∀c∈cs,GC c:=fun c hc=>⟨(h.ok c hc).2.1,(h.ok c hc).2.2,(h.ok c hc).1.b.1⟩;obtain⟨r,s1,s2⟩:=SH (by omega) hG;obtain⟨S,t1,t2,t3,t4⟩:=Lc cs (by omega) hG;rw[s1];simp only[A7,cond_false,A0];rcases s2 with⟨h0,rfl⟩|⟨i,c,rfl,hi,hc,h1,h2⟩
   ·rw[show((cs.length:Int)==0)=true by rw[h0];rfl,cond_true,decide_eq_true (by omega),cond_true];exact⟨⟨⟨0,[]⟩,0⟩,false,rfl,rfl,fun h=>by cases h⟩
   ·rw[show((cs.length:Int)==0)=false by rw[beq_eq_false_iff_ne];omega,cond_false,decide_eq_false (by omega),cond_false];unfold Tm;rw[t1];simp only[A0];cases S with
    |nil=>simp at t4;omega
    | cons x t =>
      obtain⟨A,B,e1,e2,e3⟩:=KU t3 t2;have hx:cs[A.length]?=some x:=by rw[e1];simp
      have hAl:A.length<cs.length:=(A1.1 hx).1;have hiA:i=A.length:=by
       rcases F7 i A.length with g|g|g
       ·have q1:=e2 c (by
         have:A[i]?=some c:=by rw[e1,D6 g] at hc;exact hc
         exact A3 this)
        have q2:=h1 _ _ hAl hx;omega
       ·exact g
       ·have q1:=h2 _ _ g hx;have q2:cst x<=cst c:=by
         have:c∈x::B:=by
          rw[e1,D5 (by omega)] at hc;exact A3 hc
         rcases C7.1 this with e|e
         ·rw[e];exact H3 _
         ·exact e3 c e
        omega
      subst hiA;obtain rfl:c=x:=by rw[hx] at hc;exact(Option.some.inj hc).symm
      have o:=h.ok c (A3 hx);rw[bg (by omega),bg (by rw[E7];omega),bg (by rw[E7];omega)];refine⟨c,true,rfl,?_,fun _=>⟨h.net,o.1.b,o.1.v,o.2.1,o.2.2,hfo,hra,hcn c (A3 hx)⟩⟩;simp only[A0,A5,B9,hx,Option.map_some]
end Vs

namespace Vs
open Go
def FB(cnt:Int)(p:Nat->Bool):Option Nat->Prop
 |none=>∀k:Nat,(k:Int)+cnt<=24->p k=false
 |some k=>(k:Int)+cnt<=24/\p k=true/\∀j,j<k->p j=false
theorem FB.uniq{cnt:Int}{p:Nat->Bool}:∀{o o':Option Nat},FB cnt p o->FB cnt p o'->o=o'
 |none,none,_,_=>rfl
 |none,some k,h,g=>by have:=h k g.1;rw[g.2.1] at this;cases this
 |some k,none,h,g=>by have:=g k h.1;rw[h.2.1] at this;cases this
 | some k, some k', h, g => by
   rcases F7 k k' with c|c|c
   ·have:=g.2.2 k c;rw[h.2.1] at this;cases this
   ·rw[c]
   ·have:=h.2.2 k' c;rw[g.2.1] at this;cases this
def agu{S B:Type}{f:S->Option (S⊕B)}(I:Nat->S->Prop)(cnt:Int)(p:Nat->Bool)(h0:0<=cnt)(R:Option Nat->B->Prop)
 (h1:∀k s,I k s->(k:Int)+cnt<=24->p k=true->∃b,f s=some (.inr b)/\R (some k) b)
 (h2:∀k s,I k s->(k:Int)+cnt<=24->p k=false->∃s',f s=some (.inl s')/\I (k+1) s')
 (h3:∀k s,I k s->k<=25->24<(k:Int)+cnt->∃b,f s=some (.inr b)/\R none b):∀(m k:Nat)(s:S)(n:Nat),I k s->(∀j,j<k->p j=false)->k+m=25->m<n->∃o b,aW f n s=some b/\FB cnt p o/\R o b:=by
 intro m;induction m with
 | zero =>
   intro k s n hI hp hk hn;obtain⟨n,rfl⟩:∃q,n=q+1:=⟨n-1,by omega⟩;obtain⟨b,e,r⟩:=h3 k s hI (by omega) (by omega);exact⟨none,b,by rw[aW,e],fun j hj=>hp j (by omega),r⟩
 | succ m ih =>
   intro k s n hI hp hk hn;obtain⟨n,rfl⟩:∃q,n=q+1:=⟨n-1,by omega⟩;by_cases hc:(k:Int)+cnt<=24
   ·cases hpk:p k with
    | true =>
      obtain⟨b,e,r⟩:=h1 k s hI hc hpk;exact⟨some k,b,by rw[aW,e],⟨hc,hpk,hp⟩,r⟩
    | false =>
      obtain⟨s',e,hI'⟩:=h2 k s hI hc hpk;obtain⟨o,b,i1,i2,i3⟩:=ih (k+1) s' n hI' (fun j hj=>by
       by_cases h:j=k
       ·rw[h];exact hpk
       ·exact hp j (by omega)) (by omega) (by omega)
      exact⟨o,b,by rw[aW,e];exact i1,i2,i3⟩
   ·obtain⟨b,e,r⟩:=h3 k s hI (by omega) (by omega);exact⟨none,b,by rw[aW,e],fun j hj=>hp j (by omega),r⟩
def vY{S B:Type}{f:S->Option (S⊕B)}(I:Nat->S->Prop)(cnt:Int)(p:Nat->Bool)(h0:0<=cnt)(R:Option Nat->B->Prop)
 (h1:∀k s,I k s->(k:Int)+cnt<=24->p k=true->∃b,f s=some (.inr b)/\R (some k) b)
 (h2:∀k s,I k s->(k:Int)+cnt<=24->p k=false->∃s',f s=some (.inl s')/\I (k+1) s')
 (h3:∀k s,I k s->k<=25->24<(k:Int)+cnt->∃b,f s=some (.inr b)/\R none b) (s:S) (hI:I 0 s):∃o b,aW f N0 s=some b/\FB cnt p o/\R o b:=
 agu I cnt p h0 R h1 h2 h3 25 0 s N0 hI (fun j hj=>by omega) rfl (dm (by decide))
def wB(s:af)(b:aH):af:=⟨s.Id,s.W,s.N,b,s.F,s.L⟩
def sB(s:af)(b:aH):af:=⟨s.Id,s.W,s.N,s.P,s.F,b⟩
def oY(n:ae)(list:List af)(s:af):Bool:=list.all fun o=>fY n o s
def pA{n:ae}{list:List af}(hn:bK n=true)(hl:list.length<=1048576)(hs:∀x∈list,eA n x){s:af}(h:eA n s):te n list s=some (oY n list s):=by
 unfold te;rw[Oq list _ (fun o=>!fY n o s) (fun x hx=>by unfold Qx;rw[nb n x s hn (hs x hx) h];rfl) hl,A0];unfold oY;rw[I1]
def pz{n:ae}{list:List af}(hn:bK n=true)(hl:list.length<=1048576)(hs:∀x∈list,eA n x){s:af}(h:eA n s):tD n list s=some (oY n list s):=by
 unfold tD;rw[gT (f:=He n list s) list (fun o=>!fY n o s) (.inr false) (.inl ()) (fun i x hx=>by
  have hlt:=(A1.1 hx).1;unfold He;rw[decide_eq_true (by omega),cond_true,aR,hx,A0,jV n x s hn (hs x (A3 hx)) h,A0,aA (by omega) (by omega)];cases fY n x s<;>rfl) (by unfold He;rw[decide_eq_false (by omega),cond_false]) (by omega),A0]
 unfold oY;rw[I1];cases list.any fun o=>!fY n o s<;>rfl
def mz{k:Nat}{cnt:Int}(h0:0<=cnt)(h:(k:Int)+cnt<=24):hM ⟨(k:Int),cnt⟩:=⟨⟨by simp,by show(k:Int)<=24;omega⟩,h0,by show cnt<=24;omega⟩
def eA.wB{n:ae}{s:af}(h:eA n s){b:aH}(hb:hM b):eA n (wB s b):=⟨h.wr,h.sr,hb,h.sb⟩
def eA.sB{n:ae}{s:af}(h:eA n s){b:aH}(hb:hM b):eA n (sB s b):=⟨h.wr,h.sr,h.wb,hb⟩
section
variable{n:ae}{list:List af}(hn:bK n=true)(hl:list.length<=1048576)(hs:∀x∈list,eA n x){s:af}(h:eA n s){cnt:Int}(h0:0<=cnt)(hc:cnt<=24)
include hn hl hs h h0 hc
def aha:∃o,FB cnt (fun k=>oY n list (wB s ⟨(k:Int),cnt⟩)) o/\∃s',BH cnt n list s=some (match o with|some k=>(⟨(k:Int),cnt⟩,true,n,list,wB s ⟨(k:Int),cnt⟩)|none=>(⟨0,0⟩,false,n,list,s')):=by
 unfold BH;obtain⟨o,b,e,q1,q2⟩:=vY (f:=M_l cnt) (fun k t=>∃b0,t=((k:Int),n,list,wB s b0)) cnt (fun k=>oY n list (wB s ⟨(k:Int),cnt⟩)) h0 (fun o b=>match o with|some k=>b=.inr (⟨(k:Int),cnt⟩,true,n,list,wB s ⟨(k:Int),cnt⟩)|none=>∃s',b=.inl (n,list,s')) (fun k t⟨b0,e⟩ hk hp=>by
  subst e;refine⟨_,?_,rfl⟩;unfold M_l;dsimp only;rw[aA (by omega) (by omega),decide_eq_true hk,cond_true];show((te n list (wB s ⟨(k:Int),cnt⟩)).bind fun rZ1=>some (rZ1,wB s ⟨(k:Int),cnt⟩,n,list)).bind _=_;rw[pA hn hl hs (h.wB (mz h0 hk)),A0,A0,hp];rfl) (fun k t⟨b0,e⟩ hk hp=>by
  subst e;refine⟨_,?_,⟨(k:Int),cnt⟩,rfl⟩;unfold M_l;dsimp only;rw[aA (by omega) (by omega),decide_eq_true hk,cond_true];show((te n list (wB s ⟨(k:Int),cnt⟩)).bind fun rZ1=>some (rZ1,wB s ⟨(k:Int),cnt⟩,n,list)).bind _=_;rw[pA hn hl hs (h.wB (mz h0 hk)),A0,A0,hp,eO k (by omega)];rfl) (fun k t⟨b0,e⟩ hk hp=>by
  subst e;refine⟨.inl (n,list,wB s b0),?_,wB s b0,rfl⟩;unfold M_l;dsimp only;rw[aA (by omega) (by omega),decide_eq_false (by omega),cond_false]) (0,n,list,s) ⟨s.P,rfl⟩
 refine⟨o,q1,?_⟩;cases o with
 | none =>
   obtain⟨s',q2⟩:=q2;subst q2;exact⟨s',by rw[e];rfl⟩
 | some k =>
   simp only at q2;subst q2;exact⟨s,by rw[e];rfl⟩
end
end Vs

namespace Vs
open Go
def Ve{l:List Int}(h:∀(i:Nat)(a b:Int),l[i]?=some a->l[i+1]?=some b->a<b):l.Pairwise (·<·):=by
 rw[C3];intro i j hi hj hij;obtain⟨d,rfl⟩:∃d,j=i+1+d:=⟨j-i-1,by omega⟩;induction d with
 |zero=>exact h i _ _ (A2 hi) (A2 hj)
 | succ d ih =>
   have h1:=ih (by omega) (by omega);have h2:=h (i+1+d) _ _ (A2 (by omega)) (A2 (by omega));have h3:l[i+1+(d+1)]'hj=l[i+1+d+1]'(by omega):=rfl;omega
end Vs

namespace Vs
open Go
def Tr{n:ae}{list:List af}(h:jQ n list=true):(list.map (·.Id)).Pairwise (·<·):=by
 unfold jQ at h;simp only[B2,decide_eq_true_eq,E0] at h;refine Ve fun i a b ha hb=>?_;rw[B9,Option.map_eq_some_iff] at ha hb;obtain⟨x,hx,rfl⟩:=ha;obtain⟨y,hy,rfl⟩:=hb;have:=dj.1 h.2 (i+1) y hy;unfold ic at this;simp only[Nat.add_sub_cancel,hx,C2,Bool.and_eq_false_iff,decide_eq_false_iff_not] at this;omega
def Ls{f:Int×List af->Option ((Int×List af)⊕List af)}(xs:List af)(p:af->Bool)(hl:xs.length<=1048576)
 (h1:∀(i:Nat) x(a:List af),xs[i]?=some x->a.length<=i->f ((i:Int),a)=some (.inl (((i+1:Nat):Int),if p x then a++[x] else a))) (h2:∀a,f ((xs.length:Int),a)=some (.inr a)):aW f N0 (0,[])=some (xs.filter p):=by
 have:=dg (f:=f) xs (fun i(a:List af)=>((i:Int),a)) (fun _ x a=>.inl (if p x then a++[x] else a)) (fun a=>a) (fun i a=>a.length<=i) (fun i a x hx hI=>.inl ⟨_,rfl,by split<;>(try simp only[A6,A8,B1])<;>omega,h1 i x a hx hI⟩) (fun a _=>h2 a) [] (C9 0) (by omega);have e0:((0:Nat):Int)=0:=rfl;simp only[e0] at this;rw[this];have gen:∀(ys:List af)(i:Nat)(a:List af),bX (fun(_:Nat)(x:af)(a:List af)=>(.inl (if p x then a++[x] else a):List af⊕List af)) (fun a=>a) i ys a=a++ys.filter p:=by
  intro ys;induction ys with
  |nil=>intro i a;simp[bX]
  |cons y ys ih=>intro i a;simp only[bX];rw[ih];cases h:p y<;>simp[h]
 rw[gen];rfl
def ka(list:List af)(hl:aX list<=1048576):Ac list=some list:=by
 have hll:=Rb hl;unfold Ac;rw[Ls (f:=JA list) list (fun _=>true) hll (fun i x a hx ha=>by
  have hlt:=(A1.1 hx).1;have e1:decide ((i:Int)<list.length)=true:=by simp[hlt]
  obtain⟨w1,w2⟩:=yO hl (A3 hx);simp only[JA,e1,cond_true,aR,hx,A0,OS,bnd];rw[bg (by omega)];simp only[A0];rw[bg (by omega)];simp only[A0];rw[bg (by omega),aA (by omega) (by omega)];rfl) (fun a=>by simp[JA])]
 simp
def wW(s:af)(h1:s.N.F.length<=1048576)(h2:s.F.F.length<=1048576):ze s=some s:=by
 unfold ze KJ pf;rw[bg (by omega)];simp only[A0];rw[bg (by omega)];rfl
end Vs

namespace Vs
open Go
section
variable{n:ae}{list:List af}(hn:bK n=true)(hl:list.length<=1048576)(hs:∀x∈list,eA n x){s:af}(h:eA n s){cnt:Int}(h0:0<=cnt)(hc:cnt<=24)
include hn hl hs h h0 hc
def agf:∃o,FB cnt (fun k=>oY n list (sB s ⟨(k:Int),cnt⟩)) o/\∃s',CY cnt n list s=some (match o with|some k=>(⟨(k:Int),cnt⟩,true,n,list,sB s ⟨(k:Int),cnt⟩)|none=>(⟨0,0⟩,false,n,list,s')):=by
 unfold CY;obtain⟨o,b,e,q1,q2⟩:=vY (f:=Db cnt) (fun k t=>∃b0,t=((k:Int),n,list,sB s b0)) cnt (fun k=>oY n list (sB s ⟨(k:Int),cnt⟩)) h0 (fun o b=>match o with|some k=>b=.inr (⟨(k:Int),cnt⟩,true,n,list,sB s ⟨(k:Int),cnt⟩)|none=>∃s',b=.inl (n,list,s')) (fun k t⟨b0,e⟩ hk hp=>by
  subst e;refine⟨_,?_,rfl⟩;unfold Db;dsimp only;rw[aA (by omega) (by omega),decide_eq_true hk,cond_true];show((te n list (sB s ⟨(k:Int),cnt⟩)).bind fun rZ1=>some (rZ1,sB s ⟨(k:Int),cnt⟩,n,list)).bind _=_;rw[pA hn hl hs (h.sB (mz h0 hk)),A0,A0,hp];rfl) (fun k t⟨b0,e⟩ hk hp=>by
  subst e;refine⟨_,?_,⟨(k:Int),cnt⟩,rfl⟩;unfold Db;dsimp only;rw[aA (by omega) (by omega),decide_eq_true hk,cond_true];show((te n list (sB s ⟨(k:Int),cnt⟩)).bind fun rZ1=>some (rZ1,sB s ⟨(k:Int),cnt⟩,n,list)).bind _=_;rw[pA hn hl hs (h.sB (mz h0 hk)),A0,A0,hp,eO k (by omega)];rfl) (fun k t⟨b0,e⟩ hk hp=>by
  subst e;refine⟨.inl (n,list,sB s b0),?_,sB s b0,rfl⟩;unfold Db;dsimp only;rw[aA (by omega) (by omega),decide_eq_false (by omega),cond_false]) (0,n,list,s) ⟨s.L,rfl⟩
 refine⟨o,q1,?_⟩;cases o with
 | none =>
   obtain⟨s',q2⟩:=q2;subst q2;exact⟨s',by rw[e];rfl⟩
 | some k =>
   simp only at q2;subst q2;exact⟨s,by rw[e];rfl⟩
def agj(s0:af):∃o,FB cnt (fun k=>oY n list (wB s ⟨(k:Int),cnt⟩)) o/\aW (Af n s0 cnt list) N0 (0,s)=some (match o with|some k=>.inl (wB s ⟨(k:Int),cnt⟩)|none=>.inr (s0,false,list)):=by
 obtain⟨o,b,e,q1,q2⟩:=vY (f:=Af n s0 cnt list) (fun k t=>∃b0,t=((k:Int),wB s b0)) cnt (fun k=>oY n list (wB s ⟨(k:Int),cnt⟩)) h0 (fun o b=>b=match o with|some k=>.inl (wB s ⟨(k:Int),cnt⟩)|none=>.inr (s0,false,list)) (fun k t⟨b0,e⟩ hk hp=>by
  subst e;refine⟨_,?_,rfl⟩;unfold Af;dsimp only;rw[aA (by omega) (by omega),decide_eq_false (by omega),cond_false];show(tD n list (wB s ⟨(k:Int),cnt⟩)).bind _=_;rw[pz hn hl hs (h.wB (mz h0 hk)),A0,hp];rfl) (fun k t⟨b0,e⟩ hk hp=>by
  subst e;refine⟨_,?_,⟨(k:Int),cnt⟩,rfl⟩;unfold Af;dsimp only;rw[aA (by omega) (by omega),decide_eq_false (by omega),cond_false];show(tD n list (wB s ⟨(k:Int),cnt⟩)).bind _=_;rw[pz hn hl hs (h.wB (mz h0 hk)),A0,hp,eO k (by omega)];rfl) (fun k t⟨b0,e⟩ hk hp=>by
  subst e;refine⟨_,?_,rfl⟩;unfold Af;dsimp only;rw[aA (by omega) (by omega),decide_eq_true (by omega),cond_true]) (0,s) ⟨s.P,rfl⟩
 exact⟨o,q1,by rw[e,q2]⟩
def afv:∃o,FB cnt (fun k=>oY n list (sB s ⟨(k:Int),cnt⟩)) o/\∃s',aW (wX n cnt list) N0 (0,s)=some (match o with|some k=>.inr (sB s ⟨(k:Int),cnt⟩,true,list)|none=>.inl s'):=by
 obtain⟨o,b,e,q1,q2⟩:=vY (f:=wX n cnt list) (fun k t=>∃b0,t=((k:Int),sB s b0)) cnt (fun k=>oY n list (sB s ⟨(k:Int),cnt⟩)) h0 (fun o b=>∃s',b=match o with|some k=>.inr (sB s ⟨(k:Int),cnt⟩,true,list)|none=>.inl s') (fun k t⟨b0,e⟩ hk hp=>by
  subst e;refine⟨_,?_,s,rfl⟩;unfold wX;dsimp only;rw[aA (by omega) (by omega),decide_eq_true hk,cond_true];show(tD n list (sB s ⟨(k:Int),cnt⟩)).bind _=_;rw[pz hn hl hs (h.sB (mz h0 hk)),A0,hp];rfl) (fun k t⟨b0,e⟩ hk hp=>by
  subst e;refine⟨_,?_,⟨(k:Int),cnt⟩,rfl⟩;unfold wX;dsimp only;rw[aA (by omega) (by omega),decide_eq_true hk,cond_true];show(tD n list (sB s ⟨(k:Int),cnt⟩)).bind _=_;rw[pz hn hl hs (h.sB (mz h0 hk)),A0,hp,eO k (by omega)];rfl) (fun k t⟨b0,e⟩ hk hp=>by
  subst e;refine⟨.inl (sB s b0),?_,sB s b0,rfl⟩;unfold wX;dsimp only;rw[aA (by omega) (by omega),decide_eq_false (by omega),cond_false]) (0,s) ⟨s.L,rfl⟩
 obtain⟨s',q2⟩:=q2;exact⟨o,q1,s',by rw[e,q2]⟩
end
def WW{n:ae}{list:List af}(h:jQ n list=true):∃i:Nat,i<=list.length/\(∀j y,j<i->list[j]?=some y->y.Id=(j:Int)+1)/\∀j y,i<=j->list[j]?=some y->(i:Int)+1<y.Id:=by
 have ha:=Tr h;have h1:∀y∈list,1<=y.Id:=fun y hy=>by
  have:=(CG h).ok y hy;unfold jT at this;simp only[B2,cD] at this;omega
 clear h
 -- the first place whose number is not its own
 have key:∀m,m<=list.length->(∃i,i<m/\(∀j y,j<i->list[j]?=some y->y.Id=(j:Int)+1)/\∀y,list[i]?=some y->(i:Int)+1<y.Id)\/∀j y,j<m->list[j]?=some y->y.Id=(j:Int)+1:=by
  intro m;induction m with
  |zero=>exact fun _=>.inr fun j y hj=>by omega
  | succ m ih =>
    intro hm;rcases ih (by omega) with⟨i,i1,i2,i3⟩|h
    ·exact .inl ⟨i,by omega,i2,i3⟩
    ·have hx:list[m]?=some list[m]:=A2 (by omega);generalize list[m]=x at hx;have lo:(m:Int)+1<=x.Id:=by
      by_cases h0:m=0
      ·subst h0;have:=h1 x (A3 hx);omega
      ·have hy:list[m-1]?=some list[m-1]:=A2 (by omega);have e:=h (m-1) _ (by omega) hy;have:=C3.1 ha (m-1) m (by simp;omega) (by simp;omega) (by omega);rw[G5,G5] at this;have e2:list[m]=x:=by have:=A2 (l:=list) (i:=m) (by omega);rw[hx] at this;exact(Option.some.inj this).symm
       rw[e2] at this;omega
     by_cases hc:x.Id=(m:Int)+1
     ·right;intro j y hj hy;by_cases hjm:j=m
      ·subst hjm;rw[hx] at hy;cases hy;exact hc
      ·exact h j y (by omega) hy
     ·exact .inl ⟨m,by omega,h,fun y hy=>by rw[hx] at hy;cases hy;omega⟩
 rcases key list.length (C9 _) with⟨i,i1,i2,i3⟩|h
 ·refine⟨i,by omega,i2,fun j y hj hy=>?_⟩;have hx:list[i]?=some list[i]:=A2 i1;have:=i3 _ hx;by_cases hij:j=i
  ·subst hij;exact i3 y hy
  ·obtain⟨b1,b2⟩:=A1.1 hy;have q:=C3.1 ha i j (by simp;omega) (by simp;omega) (by omega);rw[G5,G5,b2] at q;omega
 ·exact⟨list.length,C9 _,h,fun j y hj hy=>by have:=(A1.1 hy).1;omega⟩
end Vs

namespace Vs
open Go
def Fh{n:ae}{fs:List az}{d:aM}{c:aq}(h:ChO n fs d c):sM n c.F:=by
 obtain⟨l,hl⟩:=D9.1 h.vi;exact(jt h.net hl).1
def abn(n:ae):sM n ⟨0,[]⟩:=⟨by simp,fun x hx=>(nomatch hx),K9⟩
def KM:hM ⟨0,0⟩:=⟨⟨by decide,by decide⟩,by decide,by decide⟩
def CT{n:ae}{list:List af}(hn:bK n=true)(hl:list.length<=1048576)(hs:∀x∈list,eA n x){fs:List az}{d:aM}{w sp:aq}(hw:ChO n fs d w)(cls id q:Int)(hsp:sM n sp.F)(hq:cls≠0->ChO n fs d sp/\q=sp.N)(hz:cls=0->sp.F=⟨0,[]⟩):
 ∃ (r : Option af) (s1 s2 : af), ((BH w.N n list ⟨id, 0, w.F, ⟨0, 0⟩, ⟨0, []⟩, ⟨0, 0⟩⟩).bind fun r => (cond (!r.2.1) (some true) (some (cls == 0)) : Option Bool).bind fun o => cond o (some ((⟨r.2.2.2.2.Id, cls, r.2.2.2.2.N, r.1, r.2.2.2.2.F, r.2.2.2.2.L⟩ : af), r.2.1)) ((CY sp.N r.2.2.1 r.2.2.2.1 ⟨r.2.2.2.2.Id, cls, r.2.2.2.2.N, r.1, sp.F, r.2.2.2.2.L⟩).bind fun q => some ((⟨q.2.2.2.2.Id, q.2.2.2.2.W, q.2.2.2.2.N, q.2.2.2.2.P, q.2.2.2.2.F, q.1⟩ : af), q.2.1))) = some (match r with | some s => (s, true) | none => (s1, false)) ∧
   Gd n ⟨id,cls,w.F,⟨0,0⟩,sp.F,⟨0,0⟩⟩ w.N q list=some (match r with|some s=>(s,true,list)|none=>(s2,false,list))/\
   ∀s,r=some s->s.Id=id/\s.N.F.length<=12/\s.F.F.length<=12:=by
 have rw':=Fh hw;have hI:eA n ⟨id,0,w.F,⟨0,0⟩,⟨0,[]⟩,⟨0,0⟩⟩:=⟨rw',abn n,KM,KM⟩;have hS:eA n ⟨0,0,w.F,⟨0,0⟩,⟨0,[]⟩,⟨0,0⟩⟩:=⟨rw',abn n,KM,KM⟩;obtain⟨o,a1,s',a2⟩:=aha hn hl hs hI hw.c0 hw.c1;obtain⟨o',b1,b2⟩:=agj hn hl hs hS hw.c0 hw.c1 ⟨id,cls,w.F,⟨0,0⟩,sp.F,⟨0,0⟩⟩;obtain rfl:o=o':=FB.uniq a1 b1;rw[a2,A0];unfold Gd;cases o with
 | none =>
   refine⟨none,_,_,rfl,eD b2 rfl,fun s h=>by cases h⟩
 | some k =>
   have hb:=mz hw.c0 a1.1;by_cases hc:cls=0
   ·refine⟨some ⟨id,cls,w.F,⟨(k:Int),w.N⟩,sp.F,⟨0,0⟩⟩,⟨0,0,⟨0,[]⟩,⟨0,0⟩,⟨0,[]⟩,⟨0,0⟩⟩,⟨0,0,⟨0,[]⟩,⟨0,0⟩,⟨0,[]⟩,⟨0,0⟩⟩,?_,eD b2 ?_,fun s h=>?_⟩
    ·rw[hz hc,hc];rfl
    ·dsimp only;rw[show(cls==0)=true by simpa using hc,cond_true];rfl
    ·cases h;exact⟨rfl,rw'.len,hsp.len⟩
   ·obtain⟨hsp2,rfl⟩:=hq hc;have hc2:(cls==0)=false:=by simpa using hc
    have hI2:eA n ⟨id,cls,w.F,⟨(k:Int),w.N⟩,sp.F,⟨0,0⟩⟩:=⟨rw',hsp,hb,KM⟩;obtain⟨p,c1,t1,c2⟩:=agf hn hl hs hI2 hsp2.c0 hsp2.c1;obtain⟨p',d1,t2,d2⟩:=afv hn hl hs hI2 hsp2.c0 hsp2.c1;obtain rfl:p=p':=FB.uniq c1 d1;cases p with
    | none =>
      refine⟨none,_,t2,eD (v:=false) (by rw[hc2];rfl) (eD c2 rfl),eD b2 ?_,fun s h=>by cases h⟩;dsimp only;rw[hc2,cond_false];exact eD d2 rfl
    | some j =>
      refine⟨some (sB ⟨id,cls,w.F,⟨(k:Int),w.N⟩,sp.F,⟨0,0⟩⟩ ⟨(j:Int),sp.N⟩),⟨0,0,⟨0,[]⟩,⟨0,0⟩,⟨0,[]⟩,⟨0,0⟩⟩,⟨0,0,⟨0,[]⟩,⟨0,0⟩,⟨0,[]⟩,⟨0,0⟩⟩,eD (v:=false) (by rw[hc2];rfl) (eD c2 rfl),eD b2 ?_,fun s h=>?_⟩
      ·dsimp only;rw[hc2,cond_false];exact eD d2 rfl
      ·cases h;exact⟨rfl,rw'.len,hsp.len⟩
def wId(i:Int)(cls:Int):af:=⟨i,cls,⟨0,[]⟩,⟨0,0⟩,⟨0,[]⟩,⟨0,0⟩⟩
section
variable{list:List af}(hl:list.length<=8){i:Nat}(hi:i<=list.length)(h1:∀j y,j<i->list[j]?=some y->y.Id=(j:Int)+1)(h2:∀j y,i<=j->list[j]?=some y->(i:Int)+1<y.Id)
include hl hi h1 h2
def aex:aW (M_n list) N0 (wId 1 0)=some (wId ((i:Int)+1) 0):=by
 have hc:∀k:Nat,td list (fun x0=>LU x0 (wId ((k:Int)+1) 0))=some (list.any fun y=>y.Id==((k:Int)+1)):=fun k=>Oq list _ (fun y=>y.Id==((k:Int)+1)) (fun x _=>rfl) (by omega)
 suffices key:aW (M_n list) N0 (wId (((0:Nat):Int)+1) 0)=some (wId ((i:Int)+1) 0) by
  rw[show(((0:Nat):Int)+1)=1 from rfl] at key;exact key
 refine hZ (f:=M_n list) (fun j=>wId ((j:Int)+1) 0) i _ (fun j hj=>?_) ?_ (by omega)
 ·unfold M_n;rw[hc j];have hx:list[j]?=some list[j]:=A2 (by omega);have:(list.any fun y=>y.Id==((j:Int)+1))=true:=D7.2 ⟨_,A3 hx,by simpa using h1 j _ hj hx⟩;rw[this,A0,cond_true];show some (Sum.inl (wId (A4 .i64 ((j:Int)+1+1)) 0))=_;rw[aA (by omega) (by omega)];rfl
 ·unfold M_n;rw[hc i];have:(list.any fun y=>y.Id==((i:Int)+1))=false:=by
   rw[H1];intro y hy e;obtain⟨j,hj⟩:=B5 hy;simp only[beq_iff_eq] at e;rcases Nat.lt_or_ge j i with c|c
   ·have:=h1 j y c hj;omega
   ·have:=h2 j y c hj;omega
  rw[this];rfl
def aek(cls:Int):aW (M_j list) N0 (0,wId 1 cls)=some (wId ((i:Int)+1) cls):=by
 suffices key:aW (M_j list) N0 (((0:Nat):Int),wId (((0:Nat):Int)+1) cls)=some (wId ((i:Int)+1) cls) by
  rw[show(((0:Nat):Int)+1)=1 from rfl,show((0:Nat):Int)=0 from rfl] at key;exact key
 refine hZ (f:=M_j list) (fun j=>((j:Int),wId ((j:Int)+1) cls)) i _ (fun j hj=>?_) ?_ (by omega)
 ·unfold M_j;dsimp only;have hx:list[j]?=some list[j]:=A2 (by omega);rw[decide_eq_true (by omega),cond_true,bg (by omega)];simp only[A0,A5];rw[hx,A0,h1 j _ hj hx,A0,show((j:Int)+1==(wId ((j:Int)+1) cls).Id)=true by simp[wId],cond_true,eO j (by omega)];show some (Sum.inl (((j+1:Nat):Int),wId (A4 .i64 ((j:Int)+1+1)) cls))=_;rw[aA (by omega) (by omega)];rfl
 ·unfold M_j;dsimp only;by_cases c:i<list.length
  ·have hx:list[i]?=some list[i]:=A2 c;have:=h2 i _ (C9 _) hx;rw[decide_eq_true (by omega),cond_true,bg (by omega)];simp only[A0,A5];rw[hx,A0,A0,show((list[i]).Id==(wId ((i:Int)+1) cls).Id)=false by rw[beq_eq_false_iff_ne];unfold wId;dsimp only;omega,cond_false]
  ·rw[decide_eq_false (by omega),cond_false];rfl
def p_at(s:af)(hs:s.Id=(i:Int)+1)(b:Bool):aW (M_y list (s,b)) N0 0=some (i:Int):=by
 suffices key:aW (M_y list (s,b)) N0 ((0:Nat):Int)=some (i:Int) by
  rw[show((0:Nat):Int)=0 from rfl] at key;exact key
 refine hZ (f:=M_y list (s,b)) (fun j=>(j:Int)) i _ (fun j hj=>?_) ?_ (by omega)
 ·unfold M_y;dsimp only;have hx:list[j]?=some list[j]:=A2 (by omega);have:=h1 j _ hj hx;rw[decide_eq_true (by omega),cond_true,aR,hx,A0,hs,decide_eq_true (by omega),cond_true,eO j (by omega)]
 ·unfold M_y;dsimp only;by_cases c:i<list.length
  ·have hx:list[i]?=some list[i]:=A2 c;have:=h2 i _ (C9 _) hx;rw[decide_eq_true (by omega),cond_true,aR,hx,A0,hs,decide_eq_false (by omega),cond_false]
  ·rw[decide_eq_false (by omega),cond_false]
def aem(hz:aX list<=1048576)(s:af)(hs:s.Id=(i:Int)+1)(hw:s.N.F.length<=1048576)(hp:s.F.F.length<=1048576):Hu list s=some (list.take i++[s]++list.drop i):=by
 have own:∀y∈list,ze y=some y:=fun y hy=>wW y (yO hz hy).1 (yO hz hy).2;unfold Hu;have l1:aW (yt list s) N0 (0,[])=some ((i:Int),list.take i):=by
  suffices key:aW (yt list s) N0 (((0:Nat):Int),list.take 0)=some ((i:Int),list.take i) by
   rw[List.take_zero,show((0:Nat):Int)=0 from rfl] at key;exact key
  refine hZ (f:=yt list s) (fun j=>((j:Int),list.take j)) i _ (fun j hj=>?_) ?_ (by omega)
  ·unfold yt;dsimp only;have hx:list[j]?=some list[j]:=A2 (by omega);have:=h1 j _ hj hx;rw[decide_eq_true (by omega),cond_true,aR,hx,A0,hs,decide_eq_true (by omega),A0,cond_true,A0,own _ (A3 hx),A0];simp only[bnd];rw[bg (by rw[D8];omega),A0,eO j (by omega),E8,hx];rfl
  ·unfold yt;dsimp only;by_cases c:i<list.length
   ·have hx:list[i]?=some list[i]:=A2 c;have:=h2 i _ (C9 _) hx;rw[decide_eq_true (by omega),cond_true,aR,hx,A0,hs,decide_eq_false (by omega),A0,cond_false]
   ·rw[decide_eq_false (by omega),cond_false];rfl
 rw[l1,A0,wW s hw hp,A0];simp only[bnd];rw[bg (by rw[D8];omega),A0];have l2:aW (Cw list) N0 (((i+0:Nat):Int),list.take i++[s]++(list.drop i).take 0)=some (list.take i++[s]++list.drop i):=by
  refine hZ (f:=Cw list) (fun j=>(((i+j:Nat):Int),list.take i++[s]++(list.drop i).take j)) (list.length-i) _ (fun j hj=>?_) ?_ (by omega)
  ·unfold Cw;dsimp only;have hx:list[i+j]?=some list[i+j]:=A2 (by omega);have hd:(list.drop i)[j]?=some list[i+j]:=by rw[List.getElem?_drop];exact hx
   rw[decide_eq_true (by omega),cond_true,aR,hx,A0,own _ (A3 hx),A0];simp only[bnd];rw[bg (by simp only[A6,D8,I2,B6];omega),A0,eO _ (by omega),E8,hd,show i+j+1=i+(j+1) by omega];simp
  ·unfold Cw;dsimp only;rw[decide_eq_false (by omega),cond_false,G1 (l:=list.drop i) (by rw[I2];omega)]
 have e0:list.take i++[s]++(list.drop i).take 0=list.take i++[s]:=by simp
 rw[e0] at l2;exact eD l2 rfl
end
end Vs

namespace Vs
open Go
def VR{n:ae}{list:List af}(hz:bd n<=1048576)(hl:aX list<=1048576):HK (⟨n.N,n.F⟩:ae) list=some (jQ n list):=Gg n list hz hl
theorem yA{n:ae}{list:List af}(hz:bd n<=1048576)(hl:aX list<=1048576)(ho:jQ n list=true)(h8:list.length<=8){fs:List az}{d:aM}{w sp:aq}(hw:ChO n fs d w)(hsp:sM n sp.F)(q:Int)(hq:d.W≠0->ChO n fs d sp/\q=sp.N)(hc:d.W=0->sp.F=⟨0,[]⟩){i:Nat}(hi:i<=list.length)(h1:∀j y,j<i->list[j]?=some y->y.Id=(j:Int)+1)(h2:∀j y,i<=j->list[j]?=some y->(i:Int)+1<y.Id):
 ∃ (R : Option af) (L : List af) (id : Int) (ok : Bool) (s1 s2 : af), ((BH w.N n list ⟨(i : Int) + 1, 0, w.F, ⟨0, 0⟩, ⟨0, []⟩, ⟨0, 0⟩⟩).bind fun r => (cond (!r.2.1) (some true) (some (d.W == 0)) : Option Bool).bind fun o => cond o (some ((⟨r.2.2.2.2.Id, d.W, r.2.2.2.2.N, r.1, r.2.2.2.2.F, r.2.2.2.2.L⟩ : af), r.2.1)) ((CY sp.N r.2.2.1 r.2.2.2.1 ⟨r.2.2.2.2.Id, d.W, r.2.2.2.2.N, r.1, sp.F, r.2.2.2.2.L⟩).bind fun q => some ((⟨q.2.2.2.2.Id, q.2.2.2.2.W, q.2.2.2.2.N, q.2.2.2.2.P, q.2.2.2.2.F, q.1⟩ : af), q.2.1))) = some (match R with | some s => (s, true) | none => (s1, false)) ∧
   Gd n ⟨(i:Int)+1,d.W,w.F,⟨0,0⟩,sp.F,⟨0,0⟩⟩ w.N q list=some (match R with|some s=>(s,true,list)|none=>(s2,false,list))/\
   (match R with
    |some s=>id=s.Id/\ok=true/\(∀b,((Ac list).bind fun rZ7=>(aW (M_y list (s,b)) N0 0).bind fun oZ12=>bnd ([s]) fun lZ13=>(Ac lZ13).bind fun rZ17=>(yn 112 rZ7 oZ12 rZ17).bind fun lZ18=>some (lZ18,s.Id,true))=some (L,id,ok))/\Hu list s=some L/\L.length<=9/\∀x∈L,x.N.F.length<=12/\x.F.F.length<=12
    |none=>L=[]/\id=0/\ok=false):=by
 have hs:=CG ho;obtain⟨R,s1,s2,e1,e2,e3⟩:=CT hs.net (by omega) hs.svc hw d.W ((i:Int)+1) q hsp hq hc;cases R with
 |none=>exact⟨none,[],0,false,s1,s2,e1,e2,rfl,rfl,rfl⟩
 | some s =>
   obtain⟨i1,i2,i3⟩:=e3 s rfl;refine⟨some s,list.take i++[s]++list.drop i,s.Id,true,s1,s2,e1,e2,rfl,rfl,fun b=>?_,aem h8 hi h1 h2 hl s i1 (by omega) (by omega),?_,fun x hx=>?_⟩
   ·have zs:aX [s]<=1048576:=by
     have a1:cG s.N=s.N.F.length:=rfl;have a2:cG s.F=s.F.F.length:=rfl;unfold aX bz;simp only[B6,E9,List.map_nil,F6,List.sum_nil];omega
    refine eD (ka list hl) (eD (p_at h8 hi h1 h2 s i1 b) ?_);simp only[bnd];refine eD (ka [s] zs) ?_;unfold yn;rw[if_pos ⟨by omega,by simpa using hi,by simp,by simp only[B6];omega⟩];simp
   ·simp only[A6,D8,I2,B6];omega
   ·simp only[B7,C1] at hx;have old:x∈list->x.N.F.length<=12/\x.F.F.length<=12:=fun h=>⟨(hs.svc x h).wr.len,(hs.svc x h).sr.len⟩;rcases hx with(h|h)|h
    ·exact old (J2 h)
    ·rw[h];exact⟨i2,i3⟩
    ·exact old (List.mem_of_mem_drop h)
def rR(n:ae)(fs:List az)(list:List af)(d:aM)(hz:bd n<=1048576)(hf:ch fs<=1048576)(hl:aX list<=1048576):
 ∃L id ok,zP n fs list d=some (L,id,ok)/\IX d n.N n.F fs list=some (id,ok,L,fs,list)/\L.length<=9/\∀x∈L,x.N.F.length<=12/\x.F.F.length<=12:=by
 have hfl:fs.length<=1048576:=by unfold ch at hf;omega
 unfold zP IX;rw[nA n list hz hl,VR hz hl];simp only[A0];cases ho:jQ n list with
 |false=>exact⟨[],0,false,rfl,rfl,by simp,fun x hx=>(nomatch hx)⟩
 | true =>
   have hs:=CG ho;have h8:=hs.len;by_cases hc8:list.length=8
   ·rw[show((list.length:Int)==8)=true by rw[hc8];rfl];exact⟨[],0,false,rfl,rfl,by simp,fun x hx=>(nomatch hx)⟩
   ·rw[show((list.length:Int)==8)=false by rw[beq_eq_false_iff_ne];omega];simp only[A7,cond_false,A0];obtain⟨i,hi,h1,h2⟩:=WW ho;obtain⟨c,ok1,r1,r2,r3⟩:=Bm n d fs hz hfl;have id1:=aex h8 hi h1 h2;have id2:=aek h8 hi h1 h2 d.W;unfold VJ;rw[show aW (M_n list) N0 (⟨1,0,(⟨0,[]⟩:ai),(⟨0,0⟩:aH),(⟨0,[]⟩:ai),(⟨0,0⟩:aH)⟩:af)=some (wId ((i:Int)+1) 0) from id1,show aW (M_j list) N0 (0,(⟨1,d.W,(⟨0,[]⟩:ai),(⟨0,0⟩:aH),(⟨0,[]⟩:ai),(⟨0,0⟩:aH)⟩:af))=some (wId ((i:Int)+1) d.W) from id2,r1,show JD (⟨n.N,n.F⟩:ae) d fs=_ from r2];simp only[A0];by_cases hcl:d.W=0
    ·rw[show(d.W !=0)=false by simp[hcl]];simp only[cond_false,A0];cases ok1 with
     |false=>exact⟨[],0,false,rfl,rfl,by simp,fun x hx=>(nomatch hx)⟩
     | true =>
       have hw:=r3 rfl;simp only[A7,cond_false];obtain⟨R,L,id,ok,s1,s2,t1,t2,t3⟩:=yA hz hl ho h8 hw (sp:=⟨⟨0,[]⟩,0⟩) (abn n) 0 (fun h=>absurd hcl h) (fun _=>rfl) hi h1 h2;have q1:(oi (⟨n.N,n.F⟩:ae) c.F)=some (dC n c.F):=eQ hw.rt;rw[q1,A0];simp only[bnd,dE];rw[pD fs _ _ hw.fo hw.ra,<-hw.cn,A0];cases R with
       | none =>
         obtain⟨rfl,rfl,rfl⟩:=t3;exact⟨[],0,false,eD t1 rfl,eD t2 rfl,by simp,fun x hx=>(nomatch hx)⟩
       | some s =>
         obtain⟨u1,u2,u3,u4,u5,u6⟩:=t3;refine⟨L,id,ok,eD t1 (u3 true),eD t2 ?_,u5,u6⟩;simp only[A7,cond_false,dE];rw[u4,u1,u2];rfl
    ·rw[show(d.W !=0)=true by simp[hcl]];obtain⟨x,y,ok2,p1,p2,_,_,p5⟩:=JC n d fs hz hfl;simp only[cond_true];rw[p1,show FT (⟨n.N,n.F⟩:ae) 0 fs.length d fs=_ from p2];simp only[A0];cases ok2 with
     |false=>exact⟨[],0,false,rfl,rfl,by simp,fun x hx=>(nomatch hx)⟩
     | true =>
       obtain⟨hw,hy⟩:=p5 rfl;simp only[A7,cond_false];obtain⟨R,L,id,ok,s1,s2,t1,t2,t3⟩:=yA hz hl ho h8 hw (sp:=y) (Fh hy) y.N (fun _=>⟨hy,rfl⟩) (fun h=>absurd h hcl) hi h1 h2;have q1:(oi (⟨n.N,n.F⟩:ae) x.F)=some (dC n x.F):=eQ hw.rt;have q2:(oi (⟨n.N,n.F⟩:ae) (⟨y.F.N,y.F.F⟩:ai))=some (dC n y.F):=eQ hy.rt;rw[q2,q1,A0];simp only[bnd,dE,A0];rw[pD fs _ _ hw.fo hw.ra,pD fs _ _ hy.fo hy.ra,<-hw.cn,<-hy.cn];simp only[A0];cases R with
       | none =>
         obtain⟨rfl,rfl,rfl⟩:=t3;exact⟨[],0,false,eD t1 rfl,eD t2 rfl,by simp,fun x hx=>(nomatch hx)⟩
       | some s =>
         obtain⟨u1,u2,u3,u4,u5,u6⟩:=t3;refine⟨L,id,ok,eD t1 (u3 true),eD t2 ?_,u5,u6⟩;simp only[A7,cond_false,dE];rw[u4,u1,u2];rfl
def asP(n:ae)(fs:List az)(list:List af)(d:aM):List af×Int×Bool:=(zP n fs list d).getD ([],0,false)
theorem nF(n:ae)(fs:List az)(list:List af)(d:aM)(hz:bd n<=1048576)(hf:ch fs<=1048576)(hl:aX list<=1048576):zP n fs list d=some (asP n fs list d):=by
 obtain⟨L,id,ok,h1,_⟩:=rR n fs list d hz hf hl;unfold asP;rw[h1];rfl
theorem mC(n:ae)(fs:List az)(list:List af)(d:aM)(hz:bd n<=1048576)(hf:ch fs<=1048576)(hl:aX list<=1048576):IX d n.N n.F fs list=some ((asP n fs list d).2.1,(asP n fs list d).2.2,(asP n fs list d).1,fs,list):=by
 obtain⟨L,id,ok,h1,h2,_⟩:=rR n fs list d hz hf hl;unfold asP;rw[h1,h2];rfl
def tE(n:ae)(fs:List az)(list:List af)(d:aM)(hz:bd n<=1048576)(hf:ch fs<=1048576)(hl:aX list<=1048576):aX (asP n fs list d).1<=1048576:=by
 obtain⟨L,id,ok,h1,h2,h3,h4⟩:=rR n fs list d hz hf hl;unfold asP;rw[h1];show aX L<=1048576;have:(L.map fun x=>bz x).sum<=L.length*24:=by
  clear h1 h2 h3;induction L with
  |nil=>simp
  | cons a L ih =>
    have a1:cG a.N=a.N.F.length:=rfl;have a2:cG a.F=a.F.F.length:=rfl;have:=h4 a (by simp);have:=ih fun x hx=>h4 x (by simp[hx]);simp only[E9,F6,A8];unfold bz at this⊢;omega
 unfold aX;omega
end Vs

namespace Vs
open Go
theorem LW{α:Type}{xs:List α}{n:Nat}(h:xs.length=n):gw xs 0 n=xs:=by subst h;exact dE xs
def lq(x1:ae)(x2:List az)(x3:List af)(x4:aM)(o1:ma x1)(o2:gS x2)(o3:kc x3):Vl x1 x2 x3 x4=some true:=by
 unfold Vl;rw[yY x1 _ (by omega) (by omega) o1];simp only[A0];by_cases hc1:(1048576:Int)-bd x1<0
 ·simp[hc1]
 simp only[hc1,if_false,decide_false,cond_false];rw[xD x2 _ (by omega) (by omega) o2];simp only[A0];by_cases hc2:(1048576:Int)-bd x1-ch x2<0
 ·simp[hc2]
 simp only[hc2,if_false,decide_false,cond_false];rw[vM x3 _ (by omega) (by omega) o3];simp only[A0];by_cases hc3:(1048576:Int)-bd x1-ch x2-aX x3<0
 ·simp[hc3]
 simp only[hc3,if_false,decide_false,cond_false];have z1:bd x1<=1048576:=by omega
 have z2:ch x2<=1048576:=by omega
 have z3:aX x3<=1048576:=by omega
 have zr:=tE x1 x2 x3 x4 z1 z2 z3;have zr1:=zr;have w1:=w_jm x1;have f1:=pp 1 x1;have m1:=tI x1 1 (by omega) (by omega) z1;have n1:decide ((dt 1 x1).1<0)=false:=decide_eq_false (by omega);have w2:=w_jn x2;have f2:=cS eh mS qj x2 ((dt 1 x1).1);have m2:=tM x2 ((dt 1 x1).1) (by omega) (by omega) z2;have n2:decide ((bl eh ((dt 1 x1).1) x2).1<0)=false:=decide_eq_false (by omega);have w3:=w_jj x3;have f3:=cS cm nI ix x3 ((bl eh ((dt 1 x1).1) x2).1);have m3:=jZ x3 ((bl eh ((dt 1 x1).1) x2).1) (by omega) (by omega) z3;have n3:decide ((bl cm ((bl eh ((dt 1 x1).1) x2).1) x3).1<0)=false:=decide_eq_false (by omega);have w4:=w_jj (asP x1 x2 x3 x4).1;have f4:=cS cm nI ix (asP x1 x2 x3 x4).1 1;have m4:=jZ (asP x1 x2 x3 x4).1 1 (by omega) (by omega) zr1;have n4:decide ((bl cm 1 (asP x1 x2 x3 x4).1).1<0)=false:=decide_eq_false (by omega);have grZ43:=ky (asP x1 x2 x3 x4).1 1 (by omega) (by omega) zr1;have grZ56:=ky (asP x1 x2 x3 x4).1 1 (by omega) (by omega) zr1;simp only[mC x1 x2 x3 x4 z1 z2 z3,nF x1 x2 x3 x4 z1 z2 z3,Ah x1 z1,Ae x2 z2,uY x3 z3,Ba x4,no ((asP x1 x2 x3 x4).1) zr1,yl x1 z1,xz x2 z2,no x3 z3,m1,n1,m2,n2,m3,n3,m4,n4,LW (dw cm (asP x1 x2 x3 x4).1 1),grZ43,grZ56,dE,A0,A7,beq_self_eq_true,bnd,bne_self_eq_false,cond_false,cond_true]
end Vs

