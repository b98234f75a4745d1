/-
  Part of the proof that FnExactRestoreAll returns true at every input.
-/
import Derived.Test.YtgpbibgbfklikaaGreatSe
import Derived.Test.YtgpbibgbfklikaaGreatCa
set_option linter.defProp false
set_option linter.unusedSimpArgs false
set_option linter.unusedVariables false
namespace Vs
open Go
theorem Bq:∀(ns:List Int)(r:ByteArray),(ns.foldl (fun r n=>r.push (UInt8.ofNat n.toNat)) r).size=r.size+ns.length
 |[],r=>by simp
 | n :: ns, r => by
   simp only[List.foldl_cons,Bq ns,List.length_cons,ByteArray.size_push];omega
theorem pN(ns:List Int):(b2s ns).size=ns.length:=by
 unfold b2s;rw[Bq];simp
def txt(k:Int):ByteArray:=(wx k).getD ⟨#[]⟩
theorem pC(k:Int)(h0:0<=k)(h1:k<=1000000000000):wx k=some (txt k):=by
 have:∃r,wx k=some r:=by
  unfold wx;by_cases h:k<=0
  ·exact⟨_,by rw[decide_eq_true h,cond_true]⟩
  ·rw[decide_eq_false h,cond_false];obtain⟨b,hb,hq⟩:=eh (f:=Ea) (fun s=>0<=s.1/\s.2.size<=13/\s.1*10^s.2.size<=1000000000000) (fun s=>s.1.toNat) (fun b=>b.size<=13) (fun s hI=>by
    obtain⟨a,z⟩:=s;obtain⟨i1,i2,i3⟩:=hI;simp only at i1 i2 i3;by_cases hp:0<a
    ·left;have hz:z.size<=12:=by
      apply Decidable.byContradiction;intro hc;have e:z.size=13:=by omega
      rw[e] at i3;omega
     have hd:10*(a.tdiv 10)<=a:=by rw[Int.tdiv_eq_ediv_of_nonneg i1];omega
     have hd2:a.tdiv 10<a:=by rw[Int.tdiv_eq_ediv_of_nonneg i1];omega
     have hd3:0<=a.tdiv 10:=by rw[Int.tdiv_eq_ediv_of_nonneg i1];omega
     have hpow:(0:Int)<=10^z.size:=Int.le_of_lt (Int.pow_pos (by omega));have ha:a<=1000000000000:=by
      have h1:(1:Int)<=10^z.size:=Int.pow_pos (by omega);have:=Int.mul_le_mul_of_nonneg_left h1 i1;omega
     refine⟨(a.tdiv 10,b2s [IntKind.wrap .u8 (IntKind.wrap .i64 (48+(Int.tmod a 10)))]++z),?_,⟨hd3,?_,?_⟩,by simp only;omega⟩
     ·simp only[Ea,decide_eq_true hp,cond_true,bnd];rw[bq (by omega),bq (by rw[pN];simp;omega)];simp only[Option.bind_some];rw[aG (n:=Int.tdiv a 10) (by omega) (by omega)]
     ·simp only[ByteArray.size_append,pN,List.length_cons,List.length_nil];omega
     ·simp only[ByteArray.size_append,pN,List.length_cons,List.length_nil];rw[show 0+1+z.size=z.size+1 by omega,Int.pow_succ,Int.mul_comm (10^z.size) 10,<-Int.mul_assoc,Int.mul_comm (a.tdiv 10) 10];exact Int.le_trans (Int.mul_le_mul_of_nonneg_right hd hpow) i3
    ·right;exact⟨z,by simp only[Ea,decide_eq_false hp,cond_false],i2⟩) N0 (k,⟨#[]⟩) ⟨h0,by show(0:Nat)<=13;omega,by show k*10^0<=1000000000000;simpa using h1⟩ (gH (by simp;omega))
   rw[hb];simp only[Option.bind_some];rw[bq (by have:(⟨#[109]⟩:ByteArray).size=1:=rfl;omega)];exact⟨_,rfl⟩
 obtain⟨r,hr⟩:=this;unfold txt;rw[hr];rfl
def bC(xs:(List ByteArray)):Nat:=xs.length+(xs.map fun x=>x.size).sum
def md(xs:(List ByteArray)):Prop:=xs.length<=9223372036854775807/\∀x∈xs,x.size<=9223372036854775807
theorem vD(xs:(List ByteArray))(l:Int)(h1:0<=l)(h2:l<=1048576)(hs:md xs):GW xs l=some (if l-bC xs<0 then(-1:Int) else l-bC xs):=by
 unfold GW;have hs1:=hs.1;rw[aG (by omega) (by omega)];simp only[iA,decide_eq_true_eq];by_cases h:l-(xs.length:Int)<0
 ·rw[if_pos h,if_pos (by unfold bC;omega)]
 ·rw[if_neg h,Ay (f:=M_b xs) xs (fun x=>x.size) (fun i x l' hx h3 h4=>by
   have hlt:=(List.getElem?_eq_some_iff.1 hx).1;have h1:decide ((i:Int)<xs.length)=true:=by simp[hlt]
   have hx2:=hs.2 x (List.mem_of_getElem? hx);simp only[M_b,h1,cond_true,aU,hx,Option.bind_some,iA,decide_eq_true_eq];rw[aG (by omega) (by omega),aG (by omega) (by omega)];by_cases h5:l'-(x.size:Int)<0
   ·simp only[if_pos h5,if_true]
   ·simp only[if_neg h5,if_true];rfl) (fun l=>by simp[M_b]) _ (by omega) (by omega) (by omega)]
  have e:l-(xs.length:Int)-((xs.map fun x=>x.size).sum:Nat)=l-(bC xs:Int):=by unfold bC;omega
  rw[e];by_cases h5:l-(bC xs:Int)<0
  ·simp only[if_pos h5,Option.bind_some]
  ·simp only[if_neg h5,Option.bind_some]
theorem wE(xs:(List ByteArray))(hl:bC xs<=1048576):Ll xs=some xs:=by
 unfold Ll;have hlen:xs.length<=1048576:=by unfold bC at hl;omega
 have key:=fun l0(h0:l0.length=xs.length)=>lf (f:=CG xs) xs id l0 h0 (fun i l x y hx hy hll=>by
  have hlt:=(List.getElem?_eq_some_iff.1 hx).1;have h1:decide ((i:Int)<xs.length)=true:=by simp[hlt]
  have h2:(0<=(i:Int)/\(i:Int)<(l.length:Int)):=by omega
  simp only[CG,h1,cond_true,aU,hx,Option.bind_some,bq h2,Int.toNat_natCast,hy,bnd,id];rw[aG (by omega) (by omega)];rfl) (fun l=>by simp[CG]) (by omega)
 rw[bq (by omega)];simp only[Option.bind_some,bnd];rw[key _ (by simp)];simp
theorem xn(xs:(List ByteArray))(hl:bC xs<=1048576):Gm xs xs=some true:=by
 unfold Gm;have hlen:xs.length<=1048576:=by unfold bC at hl;omega
 rw[oT (f:=FM xs xs) xs (fun i x hx=>by
  have hlt:=(List.getElem?_eq_some_iff.1 hx).1;have h1:decide ((i:Int)<xs.length)=true:=by simp[hlt]
  simp only[FM,h1,cond_true,aU,hx,Option.bind_some,beq_self_eq_true,Bool.not_true,cond_false];rw[aG (by omega) (by omega)];rfl) (by simp[FM]) (by omega)]
 simp
theorem Di(x:ay):Cy x=some x:=by unfold Cy;rfl
theorem Dc(x:ay):Cg x x=some true:=by unfold Cg;simp
def bR(xs:(List ay)):Nat:=xs.length
def iP(xs:(List ay)):Prop:=xs.length<=9223372036854775807
theorem yW(xs:(List ay))(l:Int)(h1:0<=l)(h2:l<=1048576)(hs:iP xs):KQ xs l=some (if l-bR xs<0 then(-1:Int) else l-bR xs):=by
 unfold KQ;unfold iP at hs;rw[aG (by omega) (by omega)];simp only[iA,decide_eq_true_eq];by_cases h:l-(xs.length:Int)<0
 ·rw[if_pos h,if_pos (show l-(bR xs:Int)<0 from h)]
 ·rw[if_neg h,if_neg (show¬l-(bR xs:Int)<0 from h)];rfl
theorem yM(xs:(List ay))(hl:bR xs<=1048576):Lh xs=some xs:=by
 unfold Lh;have hlen:xs.length<=1048576:=by unfold bR at hl;omega
 have key:=fun l0(h0:l0.length=xs.length)=>lf (f:=FH xs) xs id l0 h0 (fun i l x y hx hy hll=>by
  have hlt:=(List.getElem?_eq_some_iff.1 hx).1;have h1:decide ((i:Int)<xs.length)=true:=by simp[hlt]
  have h2:(0<=(i:Int)/\(i:Int)<(l.length:Int)):=by omega
  have hto:Cy x=some x:=Di x;simp only[FH,h1,cond_true,aU,hx,Option.bind_some,bq h2,Int.toNat_natCast,hy,hto,bnd,id];rw[aG (by omega) (by omega)];rfl) (fun l=>by simp[FH]) (by omega)
 rw[bq (by omega)];simp only[Option.bind_some,bnd];rw[key _ (by simp)];simp
theorem zZ(xs:(List ay))(hl:bR xs<=1048576):NB xs xs=some true:=by
 unfold NB;have hlen:xs.length<=1048576:=by unfold bR at hl;omega
 rw[oT (f:=Ev xs xs) xs (fun i x hx=>by
  have hlt:=(List.getElem?_eq_some_iff.1 hx).1;have h1:decide ((i:Int)<xs.length)=true:=by simp[hlt]
  have he:Cg x x=some true:=Dc x;simp only[Ev,h1,cond_true,aU,hx,Option.bind_some,he,Bool.not_true,cond_false];rw[aG (by omega) (by omega)];rfl) (by simp[Ev]) (by omega)]
 simp
def aX(x:af):Nat:=bC x.N+bR x.F
def qi(x:af):Prop:=md x.N/\iP x.F
theorem we(x:af)(l:Int)(h1:0<=l)(h2:l<=1048576)(hs:qi x):NC x l=some (if l-aX x<0 then(-1:Int) else l-aX x):=by
 unfold NC;obtain⟨hs0,hs1⟩:=hs;rw[vD _ _ (by omega) (by omega) hs0];simp only[Option.bind_some];by_cases h10:l-(bC x.N:Int)<0
 ·rw[if_pos h10,if_pos (show l-(aX x:Int)<0 by unfold aX;omega)];simp
 ·simp only[if_neg h10];simp only[h10,decide_false,cond_false];rw[yW _ _ (by omega) (by omega) hs1];simp only[Option.bind_some];by_cases h11:l-(bC x.N:Int)-(bR x.F:Int)<0
  ·rw[if_pos h11,if_pos (show l-(aX x:Int)<0 by unfold aX;omega)];simp
  ·simp only[if_neg h11];simp only[h11,decide_false,cond_false];have e:l-(bC x.N:Int)-(bR x.F:Int)=l-(aX x:Int):=by unfold aX;omega
   rw[e,if_neg (by omega)]
theorem vG(x:af)(hl:aX x<=1048576):Lv x=some x:=by
 unfold Lv;simp only[wE x.N (by unfold aX at hl;omega),yM x.F (by unfold aX at hl;omega),Option.bind_some]
theorem vd(x:af)(hl:aX x<=1048576):KB x x=some true:=by
 unfold KB;simp[xn x.N (by unfold aX at hl;omega),zZ x.F (by unfold aX at hl;omega)]
def ck(xs:(List Int)):Nat:=xs.length
def jE(xs:(List Int)):Prop:=xs.length<=9223372036854775807
theorem uV(xs:(List Int))(l:Int)(h1:0<=l)(h2:l<=1048576)(hs:jE xs):Df xs l=some (if l-ck xs<0 then(-1:Int) else l-ck xs):=by
 unfold Df;unfold jE at hs;rw[aG (by omega) (by omega)];simp only[iA,decide_eq_true_eq];by_cases h:l-(xs.length:Int)<0
 ·rw[if_pos h,if_pos (show l-(ck xs:Int)<0 from h)]
 ·rw[if_neg h,if_neg (show¬l-(ck xs:Int)<0 from h)];rfl
theorem wG(xs:(List Int))(hl:ck xs<=1048576):Eu xs=some xs:=by
 unfold Eu;have hlen:xs.length<=1048576:=by unfold ck at hl;omega
 have key:=fun l0(h0:l0.length=xs.length)=>lf (f:=M_f xs) xs id l0 h0 (fun i l x y hx hy hll=>by
  have hlt:=(List.getElem?_eq_some_iff.1 hx).1;have h1:decide ((i:Int)<xs.length)=true:=by simp[hlt]
  have h2:(0<=(i:Int)/\(i:Int)<(l.length:Int)):=by omega
  simp only[M_f,h1,cond_true,aU,hx,Option.bind_some,bq h2,Int.toNat_natCast,hy,bnd,id];rw[aG (by omega) (by omega)];rfl) (fun l=>by simp[M_f]) (by omega)
 rw[bq (by omega)];simp only[Option.bind_some,bnd];rw[key _ (by simp)];simp
theorem rA(xs:(List Int))(hl:ck xs<=1048576):ux xs xs=some true:=by
 unfold ux;have hlen:xs.length<=1048576:=by unfold ck at hl;omega
 rw[oT (f:=Cn xs xs) xs (fun i x hx=>by
  have hlt:=(List.getElem?_eq_some_iff.1 hx).1;have h1:decide ((i:Int)<xs.length)=true:=by simp[hlt]
  simp only[Cn,h1,cond_true,aU,hx,Option.bind_some,bne_self_eq_false,cond_false];rw[aG (by omega) (by omega)];rfl) (by simp[Cn]) (by omega)]
 simp
def dJ(x:ar):Nat:=ck x.F
def pi(x:ar):Prop:=jE x.F
theorem FG(x:ar)(l:Int)(h1:0<=l)(h2:l<=1048576)(hs:pi x):NM x l=some (if l-dJ x<0 then(-1:Int) else l-dJ x):=by
 unfold NM;have hs0:jE x.F:=hs;rw[uV _ _ (by omega) (by omega) hs0];simp only[Option.bind_some];by_cases h10:l-(ck x.F:Int)<0
 ·rw[if_pos h10,if_pos (show l-(dJ x:Int)<0 by unfold dJ;omega)];simp
 ·simp only[if_neg h10];simp only[h10,decide_false,cond_false];have e:l-(ck x.F:Int)=l-(dJ x:Int):=by unfold dJ;omega
  rw[e,if_neg (by omega)]
theorem Fe(x:ar)(hl:dJ x<=1048576):LD x=some x:=by
 unfold LD;simp only[wG x.F (by unfold dJ at hl;omega),Option.bind_some]
theorem Cc(x:ar)(hl:dJ x<=1048576):KD x x=some true:=by
 unfold KD;simp[rA x.F (by unfold dJ at hl;omega)]
theorem Ff(x:bd):MP x=some x:=by unfold MP;rfl
theorem DM(x:bd):JT x x=some true:=by unfold JT;simp
def cn(x:aj):Nat:=dJ x.F
def qN(x:aj):Prop:=pi x.F
theorem ES(x:aj)(l:Int)(h1:0<=l)(h2:l<=1048576)(hs:qN x):KH x l=some (if l-cn x<0 then(-1:Int) else l-cn x):=by
 unfold KH;have hs0:pi x.F:=hs;rw[FG _ _ (by omega) (by omega) hs0];simp only[Option.bind_some];by_cases h10:l-(dJ x.F:Int)<0
 ·rw[if_pos h10,if_pos (show l-(cn x:Int)<0 by unfold cn;omega)];simp
 ·simp only[if_neg h10];simp only[h10,decide_false,cond_false];have e:l-(dJ x.F:Int)=l-(cn x:Int):=by unfold cn;omega
  rw[e,if_neg (by omega)]
theorem FS(x:aj)(hl:cn x<=1048576):Cm x=some x:=by
 unfold Cm;simp only[Fe x.F (by unfold cn at hl;omega),Ff x.N,Option.bind_some]
theorem Dw(x:aj)(hl:cn x<=1048576):Fw x x=some true:=by
 unfold Fw;simp[Cc x.F (by unfold cn at hl;omega),DM x.N]
def bc(xs:(List aj)):Nat:=xs.length+(xs.map fun x=>cn x).sum
def lm(xs:(List aj)):Prop:=xs.length<=9223372036854775807/\∀x∈xs,qN x
theorem rh(xs:(List aj))(l:Int)(h1:0<=l)(h2:l<=1048576)(hs:lm xs):CQ xs l=some (if l-bc xs<0 then(-1:Int) else l-bc xs):=by
 unfold CQ;have hs1:=hs.1;rw[aG (by omega) (by omega)];simp only[iA,decide_eq_true_eq];by_cases h:l-(xs.length:Int)<0
 ·rw[if_pos h,if_pos (by unfold bc;omega)]
 ·rw[if_neg h,Ay (f:=M_w xs) xs (fun x=>cn x) (fun i x l' hx h3 h4=>by
   have hlt:=(List.getElem?_eq_some_iff.1 hx).1;have h1:decide ((i:Int)<xs.length)=true:=by simp[hlt]
   simp only[M_w,h1,cond_true,aU,hx,Option.bind_some,ES x l' h3 h4 (hs.2 x (List.mem_of_getElem? hx)),iA,decide_eq_true_eq];rw[aG (by omega) (by omega)];by_cases h5:l'-(cn x:Int)<0
   ·simp only[if_pos h5,if_true,Int.reduceNeg,Int.reduceLT]
   ·simp only[if_neg h5,if_true];rfl) (fun l=>by simp[M_w]) _ (by omega) (by omega) (by omega)]
  have e:l-(xs.length:Int)-((xs.map fun x=>cn x).sum:Nat)=l-(bc xs:Int):=by unfold bc;omega
  rw[e];by_cases h5:l-(bc xs:Int)<0
  ·simp only[if_pos h5,Option.bind_some]
  ·simp only[if_neg h5,Option.bind_some]
theorem pT(xs:(List aj))(hl:bc xs<=1048576):CB xs=some xs:=by
 unfold CB;have hlen:xs.length<=1048576:=by unfold bc at hl;omega
 have key:=fun l0(h0:l0.length=xs.length)=>lf (f:=M_l xs) xs id l0 h0 (fun i l x y hx hy hll=>by
  have hlt:=(List.getElem?_eq_some_iff.1 hx).1;have h1:decide ((i:Int)<xs.length)=true:=by simp[hlt]
  have h2:(0<=(i:Int)/\(i:Int)<(l.length:Int)):=by omega
  have hto:Cm x=some x:=FS x (by have:=lY (fun x=>cn x) hx;unfold bc at hl;omega);simp only[M_l,h1,cond_true,aU,hx,Option.bind_some,bq h2,Int.toNat_natCast,hy,hto,bnd,id];rw[aG (by omega) (by omega)];rfl) (fun l=>by simp[M_l]) (by omega)
 rw[bq (by omega)];simp only[Option.bind_some,bnd];rw[key _ (by simp)];simp
theorem pA(xs:(List aj))(hl:bc xs<=1048576):Ez xs xs=some true:=by
 unfold Ez;have hlen:xs.length<=1048576:=by unfold bc at hl;omega
 rw[oT (f:=DI xs xs) xs (fun i x hx=>by
  have hlt:=(List.getElem?_eq_some_iff.1 hx).1;have h1:decide ((i:Int)<xs.length)=true:=by simp[hlt]
  have he:Fw x x=some true:=Dw x (by have:=lY (fun x=>cn x) hx;unfold bc at hl;omega);simp only[DI,h1,cond_true,aU,hx,Option.bind_some,he,Bool.not_true,cond_false];rw[aG (by omega) (by omega)];rfl) (by simp[DI]) (by omega)]
 simp
def cq(x:aK):Nat:=aX x.F+bc x.N
def Au(x:aK):Prop:=qi x.F/\lm x.N
theorem JN(x:aK)(l:Int)(h1:0<=l)(h2:l<=1048576)(hs:Au x):MC x l=some (if l-cq x<0 then(-1:Int) else l-cq x):=by
 unfold MC;obtain⟨hs0,hs1⟩:=hs;rw[we _ _ (by omega) (by omega) hs0];simp only[Option.bind_some];by_cases h10:l-(aX x.F:Int)<0
 ·rw[if_pos h10,if_pos (show l-(cq x:Int)<0 by unfold cq;omega)];simp
 ·simp only[if_neg h10];simp only[h10,decide_false,cond_false];rw[rh _ _ (by omega) (by omega) hs1];simp only[Option.bind_some];by_cases h11:l-(aX x.F:Int)-(bc x.N:Int)<0
  ·rw[if_pos h11,if_pos (show l-(cq x:Int)<0 by unfold cq;omega)];simp
  ·simp only[if_neg h11];simp only[h11,decide_false,cond_false];have e:l-(aX x.F:Int)-(bc x.N:Int)=l-(cq x:Int):=by unfold cq;omega
   rw[e,if_neg (by omega)]
theorem NL(x:aK)(hl:cq x<=1048576):Oc x=some x:=by
 unfold Oc;simp only[vG x.F (by unfold cq at hl;omega),pT x.N (by unfold cq at hl;omega),Option.bind_some]
theorem Gz(x:aK)(hl:cq x<=1048576):Hv x x=some true:=by
 unfold Hv;simp[vd x.F (by unfold cq at hl;omega),pA x.N (by unfold cq at hl;omega)]
def aP(x:aq):Nat:=cq x.F+bc x.N+ck x.L
def gY(x:aq):Prop:=Au x.F/\lm x.N/\jE x.L
theorem oO(x:aq)(l:Int)(h1:0<=l)(h2:l<=1048576)(hs:gY x):NK x l=some (if l-aP x<0 then(-1:Int) else l-aP x):=by
 unfold NK;obtain⟨hs0,hs1,hs2⟩:=hs;rw[JN _ _ (by omega) (by omega) hs0];simp only[Option.bind_some];by_cases h10:l-(cq x.F:Int)<0
 ·rw[if_pos h10,if_pos (show l-(aP x:Int)<0 by unfold aP;omega)];simp
 ·simp only[if_neg h10];simp only[h10,decide_false,cond_false];rw[rh _ _ (by omega) (by omega) hs1];simp only[Option.bind_some];by_cases h11:l-(cq x.F:Int)-(bc x.N:Int)<0
  ·rw[if_pos h11,if_pos (show l-(aP x:Int)<0 by unfold aP;omega)];simp
  ·simp only[if_neg h11];simp only[h11,decide_false,cond_false];rw[uV _ _ (by omega) (by omega) hs2];simp only[Option.bind_some];by_cases h12:l-(cq x.F:Int)-(bc x.N:Int)-(ck x.L:Int)<0
   ·rw[if_pos h12,if_pos (show l-(aP x:Int)<0 by unfold aP;omega)];simp
   ·simp only[if_neg h12];simp only[h12,decide_false,cond_false];have e:l-(cq x.F:Int)-(bc x.N:Int)-(ck x.L:Int)=l-(aP x:Int):=by unfold aP;omega
    rw[e,if_neg (by omega)]
theorem oQ(x:aq)(hl:aP x<=1048576):wF x=some x:=by
 unfold wF;simp only[NL x.F (by unfold aP at hl;omega),pT x.N (by unfold aP at hl;omega),wG x.L (by unfold aP at hl;omega),Option.bind_some]
theorem jJ(x:aq)(hl:aP x<=1048576):wV x x=some true:=by
 unfold wV;simp[Gz x.F (by unfold aP at hl;omega),pA x.N (by unfold aP at hl;omega),rA x.L (by unfold aP at hl;omega)]
def aC(k:Int)(_:ByteArray):Int×ByteArray:=(k+1,txt k)
def w_j(_:ByteArray):Nat:=1
theorem dZ(k:Int)(x:ByteArray):(aC k x).1=k+(w_j x:Int):=rfl
theorem w_io(xs:(List ByteArray)):(xs.map w_j).sum<=16*bC xs:=by
 unfold bC;induction xs with
 |nil=>simp
 |cons x xs ih=>simp only[List.map_cons,List.sum_cons,List.length_cons,w_j] at ih⊢;omega
theorem rI(xs:(List ByteArray))(k0:Int)(hk:0<=k0)(hK:k0+((xs.map w_j).sum:Nat)<=1000000000000)(hl:bC xs<=1048576):Io k0 xs=some (aD aC k0 xs):=by
 unfold Io;have hlen:xs.length<=1048576:=by unfold bC at hl;omega
 rw[lq (f:=DQ) xs aC w_j dZ 1000000000000 (fun i x k l hll hi hx hli h0 hK2=>by
  have hw1:w_j x=w_j x:=rfl;have h1:decide ((i:Int)<(l.length:Int))=true:=decide_eq_true (by omega);have h2:0<=(i:Int)/\(i:Int)<(l.length:Int):=by omega
  simp only[DQ,h1,cond_true,bq h2,Option.bind_some,Int.toNat_natCast,hli,bnd,pC k h0 (by omega)];rw[aG (n:=k+1) (by unfold w_j at hK2;omega) (by unfold w_j at hK2;omega),aG (n:=(i:Int)+1) (by unfold w_j at hK2;omega) (by unfold w_j at hK2;omega)];rfl) (fun k l hll=>by simp[DQ,hll]) k0 hk hK (by omega)]
 rfl
theorem sa(xs:(List ByteArray))(k0:Int)(hk:0<=k0)(hK:k0+((xs.map w_j).sum:Nat)<=1000000000000)(hl:bC xs<=1048576):Ej (aD aC k0 xs).2 k0=some (aD aC k0 xs).1:=by
 unfold Ej;have hlen:xs.length<=1048576:=by unfold bC at hl;omega
 rw[lh (f:=Fc (aD aC k0 xs).2) xs aC w_j dZ 1000000000000 k0 (fun i x k hx hm h0 hK2=>by
  have hi:=(List.getElem?_eq_some_iff.1 hx).1;have h1:decide ((i:Int)<((aD aC k0 xs).2.length:Int))=true:=decide_eq_true (by rw[bS];omega);simp only[Fc,h1,cond_true,aU,hm,Option.bind_some,aC,pC k h0 (by omega),beq_self_eq_true,Bool.not_true,cond_false];rw[aG (n:=k+1) (by unfold w_j at hK2;omega) (by unfold w_j at hK2;omega),aG (n:=(i:Int)+1) (by unfold w_j at hK2;omega) (by unfold w_j at hK2;omega)];rfl) (fun k=>by simp[Fc,bS]) hk hK (by omega)]
 rfl
def aN(k:Int)(_:ay):Int×ay:=(k+4,⟨k,k+1,k+2,k+3⟩)
def w_c(_:ay):Nat:=4
theorem eL(k:Int)(x:ay):(aN k x).1=k+(w_c x:Int):=rfl
theorem w_ip(xs:(List ay)):(xs.map w_c).sum<=16*bR xs:=by
 unfold bR;induction xs with
 |nil=>simp
 |cons x xs ih=>simp only[List.map_cons,List.sum_cons,List.length_cons,w_c] at ih⊢;omega
theorem ui(xs:(List ay))(k0:Int)(hk:0<=k0)(hK:k0+((xs.map w_c).sum:Nat)<=1000000000000)(hl:bR xs<=1048576):HY k0 xs=some (aD aN k0 xs):=by
 unfold HY;have hlen:xs.length<=1048576:=by unfold bR at hl;omega
 rw[lq (f:=CY) xs aN w_c eL 1000000000000 (fun i x k l hll hi hx hli h0 hK2=>by
  have hw1:w_c x=w_c x:=rfl;have h1:decide ((i:Int)<(l.length:Int))=true:=decide_eq_true (by omega);have h2:0<=(i:Int)/\(i:Int)<(l.length:Int):=by omega
  simp only[CY,h1,cond_true,bq h2,Option.bind_some,Int.toNat_natCast,hli,bnd,List.getElem?_set_self (show i<l.length by omega),List.set_set];rw[aG (n:=k+1) (by unfold w_c at hK2;omega) (by unfold w_c at hK2;omega),aG (n:=k+1+1) (by unfold w_c at hK2;omega) (by unfold w_c at hK2;omega),aG (n:=k+1+1+1) (by unfold w_c at hK2;omega) (by unfold w_c at hK2;omega),aG (n:=k+1+1+1+1) (by unfold w_c at hK2;omega) (by unfold w_c at hK2;omega),aG (n:=(i:Int)+1) (by unfold w_c at hK2;omega) (by unfold w_c at hK2;omega)];simp only[Int.add_assoc,Int.reduceAdd,aN];rfl) (fun k l hll=>by simp[CY,hll]) k0 hk hK (by omega)]
 rfl
theorem tP(xs:(List ay))(k0:Int)(hk:0<=k0)(hK:k0+((xs.map w_c).sum:Nat)<=1000000000000)(hl:bR xs<=1048576):Eg (aD aN k0 xs).2 k0=some (aD aN k0 xs).1:=by
 unfold Eg;have hlen:xs.length<=1048576:=by unfold bR at hl;omega
 rw[lh (f:=El (aD aN k0 xs).2) xs aN w_c eL 1000000000000 k0 (fun i x k hx hm h0 hK2=>by
  have hi:=(List.getElem?_eq_some_iff.1 hx).1;have h1:decide ((i:Int)<((aD aN k0 xs).2.length:Int))=true:=decide_eq_true (by rw[bS];omega);simp only[El,h1,cond_true,aU,hm,Option.bind_some,aN];rw[aG (n:=k+1) (by unfold w_c at hK2;omega) (by unfold w_c at hK2;omega),aG (n:=k+1+1) (by unfold w_c at hK2;omega) (by unfold w_c at hK2;omega),aG (n:=k+1+1+1) (by unfold w_c at hK2;omega) (by unfold w_c at hK2;omega),aG (n:=k+1+1+1+1) (by unfold w_c at hK2;omega) (by unfold w_c at hK2;omega),aG (n:=(i:Int)+1) (by unfold w_c at hK2;omega) (by unfold w_c at hK2;omega)];simp only[Int.add_assoc,Int.reduceAdd,bne_self_eq_false,cond_false];rfl) (fun k=>by simp[El,bS]) hk hK (by omega)]
 rfl
def kM(k:Int)(x:af):Int×List ByteArray×List ay:=((aD aN (aD aC k x.N).1 x.F).1,(aD aC k x.N).2,(aD aN (aD aC k x.N).1 x.F).2)
def fR(x:af):Nat:=(x.N.map w_j).sum+(x.F.map w_c).sum
def jT(k:Int)(x:af):af:=⟨(aD aC k x.N).2,(aD aN (aD aC k x.N).1 x.F).2⟩
theorem rJ(x:af)(k0:Int)(hk:0<=k0)(hK:k0+(fR x:Int)<=1000000000000)(hl:aX x<=1048576):Kt k0 x.N x.F=some (kM k0 x):=by
 unfold Kt;unfold fR at hK;have hz:aX x=bC x.N+bR x.F:=by unfold aX;omega
 have f0:=bA aC w_j dZ x.N k0;have f1:=bA aN w_c eL x.F ((aD aC k0 x.N).1);rw[rI x.N k0 (by omega) (by omega) (by omega)];simp only[Option.bind_some];rw[ui x.F ((aD aC k0 x.N).1) (by omega) (by omega) (by omega)];simp only[Option.bind_some];rfl
theorem rR(x:af)(k0:Int)(hk:0<=k0)(hK:k0+(fR x:Int)<=1000000000000)(hl:aX x<=1048576):Dg (jT k0 x) k0=some (kM k0 x).1:=by
 unfold fR at hK;have hz:aX x=bC x.N+bR x.F:=by unfold aX;omega
 have f0:=bA aC w_j dZ x.N k0;have f1:=bA aN w_c eL x.F ((aD aC k0 x.N).1);have h0:Ej (jT k0 x).N k0=some (aD aC k0 x.N).1:=sa x.N k0 (by omega) (by omega) (by omega);have n0:decide ((aD aC k0 x.N).1<0)=false:=decide_eq_false (by omega);have h1:Eg (jT k0 x).F ((aD aC k0 x.N).1)=some (aD aN (aD aC k0 x.N).1 x.F).1:=tP x.F ((aD aC k0 x.N).1) (by omega) (by omega) (by omega);have n1:decide ((aD aN (aD aC k0 x.N).1 x.F).1<0)=false:=decide_eq_false (by omega);unfold Dg;simp only[h0,n0,h1,n1,Option.bind_some,cond_false];rfl
def bK(k:Int)(_:Int):Int×Int:=(k+1,k)
def cO(_:Int):Nat:=1
theorem gm(k:Int)(x:Int):(bK k x).1=k+(cO x:Int):=rfl
theorem GZ(xs:(List Int)):(xs.map cO).sum<=16*ck xs:=by
 unfold ck;induction xs with
 |nil=>simp
 |cons x xs ih=>simp only[List.map_cons,List.sum_cons,List.length_cons,cO] at ih⊢;omega
theorem mf(xs:(List Int))(k0:Int)(hk:0<=k0)(hK:k0+((xs.map cO).sum:Nat)<=1000000000000)(hl:ck xs<=1048576):xW k0 xs=some (aD bK k0 xs):=by
 unfold xW;have hlen:xs.length<=1048576:=by unfold ck at hl;omega
 rw[lq (f:=FK) xs bK cO gm 1000000000000 (fun i x k l hll hi hx hli h0 hK2=>by
  have hw1:cO x=cO x:=rfl;have h1:decide ((i:Int)<(l.length:Int))=true:=decide_eq_true (by omega);have h2:0<=(i:Int)/\(i:Int)<(l.length:Int):=by omega
  simp only[FK,h1,cond_true,bq h2,Option.bind_some,Int.toNat_natCast,hli,bnd];rw[aG (n:=k+1) (by unfold cO at hK2;omega) (by unfold cO at hK2;omega),aG (n:=(i:Int)+1) (by unfold cO at hK2;omega) (by unfold cO at hK2;omega)];rfl) (fun k l hll=>by simp[FK,hll]) k0 hk hK (by omega)]
 rfl
theorem jy(xs:(List Int))(k0:Int)(hk:0<=k0)(hK:k0+((xs.map cO).sum:Nat)<=1000000000000)(hl:ck xs<=1048576):si (aD bK k0 xs).2 k0=some (aD bK k0 xs).1:=by
 unfold si;have hlen:xs.length<=1048576:=by unfold ck at hl;omega
 rw[lh (f:=Co (aD bK k0 xs).2) xs bK cO gm 1000000000000 k0 (fun i x k hx hm h0 hK2=>by
  have hi:=(List.getElem?_eq_some_iff.1 hx).1;have h1:decide ((i:Int)<((aD bK k0 xs).2.length:Int))=true:=decide_eq_true (by rw[bS];omega);simp only[Co,h1,cond_true,aU,hm,Option.bind_some,bK,bne_self_eq_false,cond_false];rw[aG (n:=k+1) (by unfold cO at hK2;omega) (by unfold cO at hK2;omega),aG (n:=(i:Int)+1) (by unfold cO at hK2;omega) (by unfold cO at hK2;omega)];rfl) (fun k=>by simp[Co,bS]) hk hK (by omega)]
 rfl
def aQ(k:Int)(x:aj):Int×aj:=((aD bK (k+1+1) x.F.F).1+1+1,⟨k,⟨k+1,(aD bK (k+1+1) x.F.F).2⟩,⟨(aD bK (k+1+1) x.F.F).1,(aD bK (k+1+1) x.F.F).1+1⟩⟩)
def w_q(x:aj):Nat:=4+(x.F.F.map cO).sum
theorem eM(k:Int)(x:aj):(aQ k x).1=k+(w_q x:Int):=by
 unfold aQ w_q;simp only[bA bK cO gm];omega
theorem w_in(xs:(List aj)):(xs.map w_q).sum<=16*bc xs:=by
 unfold bc;induction xs with
 |nil=>simp
 | cons x xs ih =>
   have t0:=GZ x.F.F;simp only[ck] at t0;simp only[List.map_cons,List.sum_cons,List.length_cons,w_q,cn,dJ,ck] at ih⊢;omega
theorem np(xs:(List aj))(k0:Int)(hk:0<=k0)(hK:k0+((xs.map w_q).sum:Nat)<=1000000000000)(hl:bc xs<=1048576):DX k0 xs=some (aD aQ k0 xs):=by
 unfold DX;have hlen:xs.length<=1048576:=by unfold bc at hl;omega
 rw[lq (f:=Db) xs aQ w_q eM 1000000000000 (fun i x k l hll hi hx hli h0 hK2=>by
  have hw1:w_q x=w_q x:=rfl;have h1:decide ((i:Int)<(l.length:Int))=true:=decide_eq_true (by omega);have h2:0<=(i:Int)/\(i:Int)<(l.length:Int):=by omega
  have hb:cn x<=1048576:=by have:=lY (fun x=>cn x) hx;unfold bc at hl;omega
  unfold cn dJ ck at hb;unfold w_q at hK2;simp only[Db,h1,cond_true,bq h2,Option.bind_some,Int.toNat_natCast,hli,bnd,List.getElem?_set_self (show i<l.length by omega),List.set_set];rw[aG (n:=k+1) (by omega) (by omega),aG (n:=k+1+1) (by omega) (by omega)];have f0:=bA bK cO gm x.F.F (k+1+1);have g0:=GZ x.F.F;unfold ck at g0;rw[mf x.F.F (k+1+1) (by omega) (by omega) (by unfold ck;omega)];simp only[Option.bind_some,List.getElem?_set_self (show i<l.length by omega),List.set_set];rw[aG (n:=(aD bK (k+1+1) x.F.F).1+1) (by omega) (by omega),aG (n:=(aD bK (k+1+1) x.F.F).1+1+1) (by omega) (by omega)];rw[aG (n:=(i:Int)+1) (by omega) (by omega)];rfl) (fun k l hll=>by simp[Db,hll]) k0 hk hK (by omega)]
 rfl
theorem mF(xs:(List aj))(k0:Int)(hk:0<=k0)(hK:k0+((xs.map w_q).sum:Nat)<=1000000000000)(hl:bc xs<=1048576):wk (aD aQ k0 xs).2 k0=some (aD aQ k0 xs).1:=by
 unfold wk;have hlen:xs.length<=1048576:=by unfold bc at hl;omega
 rw[lh (f:=Dr (aD aQ k0 xs).2) xs aQ w_q eM 1000000000000 k0 (fun i x k hx hm h0 hK2=>by
  have hi:=(List.getElem?_eq_some_iff.1 hx).1;have h1:decide ((i:Int)<((aD aQ k0 xs).2.length:Int))=true:=decide_eq_true (by rw[bS];omega);have hb:cn x<=1048576:=by have:=lY (fun x=>cn x) hx;unfold bc at hl;omega
  unfold cn dJ ck at hb;unfold w_q at hK2;simp only[Dr,h1,cond_true,aU,hm,Option.bind_some,aQ];rw[aG (n:=k+1) (by omega) (by omega),aG (n:=k+1+1) (by omega) (by omega)];have f0:=bA bK cO gm x.F.F (k+1+1);have g0:=GZ x.F.F;unfold ck at g0;have hh0:si (aD bK (k+1+1) x.F.F).2 (k+1+1)=some (aD bK (k+1+1) x.F.F).1:=jy x.F.F (k+1+1) (by omega) (by omega) (by unfold ck;omega);have hn0:decide ((aD bK (k+1+1) x.F.F).1<0)=false:=decide_eq_false (by omega);simp only[bne_self_eq_false,cond_false,hh0,Option.bind_some,hn0];rw[aG (n:=(aD bK (k+1+1) x.F.F).1+1) (by omega) (by omega),aG (n:=(aD bK (k+1+1) x.F.F).1+1+1) (by omega) (by omega)];rw[aG (n:=(i:Int)+1) (by omega) (by omega)];try simp only[bne_self_eq_false,cond_false]
  rfl) (fun k=>by simp[Dr,bS]) hk hK (by omega)]
 rfl
def qw(k:Int)(x:aK):Int×List ByteArray×List ay×List aj:=((aD aQ (aD aN (aD aC k x.F.N).1 x.F.F).1 x.N).1,(aD aC k x.F.N).2,(aD aN (aD aC k x.F.N).1 x.F.F).2,(aD aQ (aD aN (aD aC k x.F.N).1 x.F.F).1 x.N).2)
def lk(x:aK):Nat:=(x.F.N.map w_j).sum+(x.F.F.map w_c).sum+(x.N.map w_q).sum
def mT(k:Int)(x:aK):aK:=⟨⟨(aD aC k x.F.N).2,(aD aN (aD aC k x.F.N).1 x.F.F).2⟩,(aD aQ (aD aN (aD aC k x.F.N).1 x.F.F).1 x.N).2⟩
theorem xL(x:aK)(k0:Int)(hk:0<=k0)(hK:k0+(lk x:Int)<=1000000000000)(hl:cq x<=1048576):Gu k0 x.F.N x.F.F x.N=some (qw k0 x):=by
 unfold Gu;unfold lk at hK;have hz:cq x=bC x.F.N+bR x.F.F+bc x.N:=by unfold cq aX;omega
 have f0:=bA aC w_j dZ x.F.N k0;have f1:=bA aN w_c eL x.F.F ((aD aC k0 x.F.N).1);have f2:=bA aQ w_q eM x.N ((aD aN (aD aC k0 x.F.N).1 x.F.F).1);rw[rJ x.F k0 (by omega) (by unfold fR;omega) (by unfold aX;omega)];simp only[Option.bind_some,kM];rw[np x.N ((aD aN (aD aC k0 x.F.N).1 x.F.F).1) (by omega) (by omega) (by omega)];simp only[Option.bind_some];rfl
theorem Ag(x:aK)(k0:Int)(hk:0<=k0)(hK:k0+(lk x:Int)<=1000000000000)(hl:cq x<=1048576):Dh (mT k0 x) k0=some (qw k0 x).1:=by
 unfold lk at hK;have hz:cq x=bC x.F.N+bR x.F.F+bc x.N:=by unfold cq aX;omega
 have f0:=bA aC w_j dZ x.F.N k0;have f1:=bA aN w_c eL x.F.F ((aD aC k0 x.F.N).1);have f2:=bA aQ w_q eM x.N ((aD aN (aD aC k0 x.F.N).1 x.F.F).1);have h0:Dg (⟨(mT k0 x).F.N,(mT k0 x).F.F⟩:af) k0=some (aD aN (aD aC k0 x.F.N).1 x.F.F).1:=rR x.F k0 (by omega) (by unfold fR;omega) (by unfold aX;omega);have n0:decide ((aD aN (aD aC k0 x.F.N).1 x.F.F).1<0)=false:=decide_eq_false (by omega);have h1:wk (mT k0 x).N ((aD aN (aD aC k0 x.F.N).1 x.F.F).1)=some (aD aQ (aD aN (aD aC k0 x.F.N).1 x.F.F).1 x.N).1:=mF x.N ((aD aN (aD aC k0 x.F.N).1 x.F.F).1) (by omega) (by omega) (by omega);have n1:decide ((aD aQ (aD aN (aD aC k0 x.F.N).1 x.F.F).1 x.N).1<0)=false:=decide_eq_false (by omega);unfold Dh;simp only[h0,n0,h1,n1,Option.bind_some,cond_false];rfl
def aV(k:Int)(x:aq):Int×List ByteArray×List ay×List aj×List aj×List Int:=((aD bK (aD aQ (aD aQ (aD aN (aD aC k x.F.F.N).1 x.F.F.F).1 x.F.N).1 x.N).1 x.L).1,(aD aC k x.F.F.N).2,(aD aN (aD aC k x.F.F.N).1 x.F.F.F).2,(aD aQ (aD aN (aD aC k x.F.F.N).1 x.F.F.F).1 x.F.N).2,(aD aQ (aD aQ (aD aN (aD aC k x.F.F.N).1 x.F.F.F).1 x.F.N).1 x.N).2,(aD bK (aD aQ (aD aQ (aD aN (aD aC k x.F.F.N).1 x.F.F.F).1 x.F.N).1 x.N).1 x.L).2)
theorem kl(k:Int)(x:aq):(aV k x).2.1.length=x.F.F.N.length:=bS aC _ _
theorem jX(k:Int)(x:aq):(aV k x).2.2.1.length=x.F.F.F.length:=bS aN _ _
theorem ky(k:Int)(x:aq):(aV k x).2.2.2.1.length=x.F.N.length:=bS aQ _ _
theorem ku(k:Int)(x:aq):(aV k x).2.2.2.2.1.length=x.N.length:=bS aQ _ _
theorem jV(k:Int)(x:aq):(aV k x).2.2.2.2.2.length=x.L.length:=bS bK _ _
def cN(x:aq):Nat:=(x.F.F.N.map w_j).sum+(x.F.F.F.map w_c).sum+(x.F.N.map w_q).sum+(x.N.map w_q).sum+(x.L.map cO).sum
def dx(k:Int)(x:aq):aq:=⟨⟨⟨(aD aC k x.F.F.N).2,(aD aN (aD aC k x.F.F.N).1 x.F.F.F).2⟩,(aD aQ (aD aN (aD aC k x.F.F.N).1 x.F.F.F).1 x.F.N).2⟩,(aD aQ (aD aQ (aD aN (aD aC k x.F.F.N).1 x.F.F.F).1 x.F.N).1 x.N).2,(aD bK (aD aQ (aD aQ (aD aN (aD aC k x.F.F.N).1 x.F.F.F).1 x.F.N).1 x.N).1 x.L).2⟩
theorem gh(k:Int)(x:aq):(aV k x).1=k+(cN x:Int):=by
 unfold aV cN;simp only[bA aC w_j dZ,bA aN w_c eL,bA aQ w_q eM,bA bK cO gm];try omega
theorem w_im(x:aq):cN x<=16*aP x:=by
 unfold cN;have hz:aP x=bC x.F.F.N+bR x.F.F.F+bc x.F.N+bc x.N+ck x.L:=by unfold aP cq aX;omega
 have:=w_io x.F.F.N;have:=w_ip x.F.F.F;have:=w_in x.F.N;have:=w_in x.N;have:=GZ x.L;omega
theorem ig(x:aq)(k0:Int)(hk:0<=k0)(hK:k0+(cN x:Int)<=1000000000000)(hl:aP x<=1048576):Em k0 x.F.F.N x.F.F.F x.F.N x.N x.L=some (aV k0 x):=by
 unfold Em;unfold cN at hK;have hz:aP x=bC x.F.F.N+bR x.F.F.F+bc x.F.N+bc x.N+ck x.L:=by unfold aP cq aX;omega
 have f0:=bA aC w_j dZ x.F.F.N k0;have f1:=bA aN w_c eL x.F.F.F ((aD aC k0 x.F.F.N).1);have f2:=bA aQ w_q eM x.F.N ((aD aN (aD aC k0 x.F.F.N).1 x.F.F.F).1);have f3:=bA aQ w_q eM x.N ((aD aQ (aD aN (aD aC k0 x.F.F.N).1 x.F.F.F).1 x.F.N).1);have f4:=bA bK cO gm x.L ((aD aQ (aD aQ (aD aN (aD aC k0 x.F.F.N).1 x.F.F.F).1 x.F.N).1 x.N).1);rw[xL x.F k0 (by omega) (by unfold lk;omega) (by unfold cq aX;omega)];simp only[Option.bind_some,qw];rw[np x.N ((aD aQ (aD aN (aD aC k0 x.F.F.N).1 x.F.F.F).1 x.F.N).1) (by omega) (by omega) (by omega)];simp only[Option.bind_some];rw[mf x.L ((aD aQ (aD aQ (aD aN (aD aC k0 x.F.F.N).1 x.F.F.F).1 x.F.N).1 x.N).1) (by omega) (by omega) (by omega)];simp only[Option.bind_some];rfl
theorem hU(x:aq)(k0:Int)(hk:0<=k0)(hK:k0+(cN x:Int)<=1000000000000)(hl:aP x<=1048576):wD (dx k0 x) k0=some (aV k0 x).1:=by
 unfold cN at hK;have hz:aP x=bC x.F.F.N+bR x.F.F.F+bc x.F.N+bc x.N+ck x.L:=by unfold aP cq aX;omega
 have f0:=bA aC w_j dZ x.F.F.N k0;have f1:=bA aN w_c eL x.F.F.F ((aD aC k0 x.F.F.N).1);have f2:=bA aQ w_q eM x.F.N ((aD aN (aD aC k0 x.F.F.N).1 x.F.F.F).1);have f3:=bA aQ w_q eM x.N ((aD aQ (aD aN (aD aC k0 x.F.F.N).1 x.F.F.F).1 x.F.N).1);have f4:=bA bK cO gm x.L ((aD aQ (aD aQ (aD aN (aD aC k0 x.F.F.N).1 x.F.F.F).1 x.F.N).1 x.N).1);have h0:Dh (⟨(⟨(dx k0 x).F.F.N,(dx k0 x).F.F.F⟩:af),(dx k0 x).F.N⟩:aK) k0=some (aD aQ (aD aN (aD aC k0 x.F.F.N).1 x.F.F.F).1 x.F.N).1:=Ag x.F k0 (by omega) (by unfold lk;omega) (by unfold cq aX;omega);have n0:decide ((aD aQ (aD aN (aD aC k0 x.F.F.N).1 x.F.F.F).1 x.F.N).1<0)=false:=decide_eq_false (by omega);have h1:wk (dx k0 x).N ((aD aQ (aD aN (aD aC k0 x.F.F.N).1 x.F.F.F).1 x.F.N).1)=some (aD aQ (aD aQ (aD aN (aD aC k0 x.F.F.N).1 x.F.F.F).1 x.F.N).1 x.N).1:=mF x.N ((aD aQ (aD aN (aD aC k0 x.F.F.N).1 x.F.F.F).1 x.F.N).1) (by omega) (by omega) (by omega);have n1:decide ((aD aQ (aD aQ (aD aN (aD aC k0 x.F.F.N).1 x.F.F.F).1 x.F.N).1 x.N).1<0)=false:=decide_eq_false (by omega);have h2:si (dx k0 x).L ((aD aQ (aD aQ (aD aN (aD aC k0 x.F.F.N).1 x.F.F.F).1 x.F.N).1 x.N).1)=some (aD bK (aD aQ (aD aQ (aD aN (aD aC k0 x.F.F.N).1 x.F.F.F).1 x.F.N).1 x.N).1 x.L).1:=jy x.L ((aD aQ (aD aQ (aD aN (aD aC k0 x.F.F.N).1 x.F.F.F).1 x.F.N).1 x.N).1) (by omega) (by omega) (by omega);have n2:decide ((aD bK (aD aQ (aD aQ (aD aN (aD aC k0 x.F.F.N).1 x.F.F.F).1 x.F.N).1 x.N).1 x.L).1<0)=false:=decide_eq_false (by omega);unfold wD;simp only[h0,n0,h1,n1,h2,n2,Option.bind_some,cond_false];rfl
end Vs

namespace Vs
open Go
def wi(x a b:Int):Bool:=decide (a<=x)&&decide (x<=b)
theorem cw{x a b:Int}:wi x a b=true↔a<=x/\x<=b:=by simp[wi]
theorem pX{x a b:Int}:wi x a b=false↔¬(a<=x/\x<=b):=by rw[<-cw];simp
theorem eF(x a b:Int):M_i x a b=some (wi x a b):=by
 unfold M_i wi;by_cases h:a<=x<;>simp[h]
theorem iv(x a b:Int):M_d x a b=some (wi x a b):=by
 unfold M_d wi;by_cases h:a<=x<;>simp[h]
def rS(c:UInt8):Bool:=decide (97<=c.toNat)&&decide (c.toNat<=122)
def uW(c:UInt8):Bool:=decide (48<=c.toNat)&&decide (c.toNat<=57)
def gn(i:Nat)(c:UInt8):Bool:=!rS c&&(!uW c||i==0)
def nZ(s:ByteArray):Bool:=!eX gn s.data.toList&&wi s.size 1 8
theorem pW(s:ByteArray)(i:Nat):uM s (i:Int)=s.data.toList[i]?:=by
 unfold uM;rw[if_pos (by omega),Int.toNat_natCast];by_cases h:i<s.size
 ·have h2:i<s.data.toList.length:=by simpa using h
  rw[getElem?_pos s i h,List.getElem?_eq_getElem h2];rfl
 ·have h2:¬i<s.data.toList.length:=by simpa using h
  rw[getElem?_neg s i h,List.getElem?_eq_none (Nat.le_of_not_lt h2)]
theorem fM(s:ByteArray):s.size=s.data.toList.length:=by show s.data.size=s.data.toList.length;rw[Array.length_toList]
theorem zM(c:UInt8):rS c=(decide (97<=(c.toNat:Int))&&decide ((c.toNat:Int)<=122)):=by
 unfold rS;congr 1<;>exact decide_eq_decide.2 (by omega)
theorem IV(c:UInt8):uW c=(decide (48<=(c.toNat:Int))&&decide ((c.toNat:Int)<=57)):=by
 unfold uW;congr 1<;>exact decide_eq_decide.2 (by omega)
theorem My(s:ByteArray)(hl:s.size<=1048576):LM s=some (nZ s):=by
 unfold LM nZ;rw[fM] at*
 rw[en (f:=EG s) s.data.toList gn (.inr false) (.inl ()) (fun i c hc _=>by
  have hlt:=(List.getElem?_eq_some_iff.1 hc).1;have h1:decide ((i:Int)<s.size)=true:=decide_eq_true (by rw[fM];omega);simp only[EG,h1,cond_true,pW,hc,Option.bind_some,gn,zM,IV];rw[aG (by omega) (by omega)];have hi:((i:Int)==0)=(i==0):=by rw[Bool.eq_iff_iff];simp
  rw[hi];cases decide (97<=(c.toNat:Int))<;>cases decide ((c.toNat:Int)<=122)<;>cases decide (48<=(c.toNat:Int))<;>cases decide ((c.toNat:Int)<=57)<;>cases(i==0)<;>rfl) (by simp[EG]) (by omega)]
 rw[<-fM];cases eX gn s.data.toList<;>simp[eF]
theorem HB(c:UInt8):Kk (c.toNat:Int)=some (rS c||uW c):=by
 unfold Kk;simp only[zM,IV];cases decide (97<=(c.toNat:Int))<;>cases decide ((c.toNat:Int)<=122)<;>cases decide (48<=(c.toNat:Int))<;>rfl
theorem fstc(c:UInt8):(cond (decide ((c.toNat:Int)<97)) (some true) (some (decide (122<(c.toNat:Int)))):Option Bool)=some (!rS c):=by
 rw[zM];by_cases h1:(c.toNat:Int)<97
 ·have h2:¬97<=(c.toNat:Int):=by omega
  simp[h1,h2]
 ·have h2:97<=(c.toNat:Int):=by omega
  simp only[h1,decide_false,cond_false,h2,decide_true,Bool.true_and];by_cases h3:122<(c.toNat:Int)
  ·have h4:¬(c.toNat:Int)<=122:=by omega
   simp[h3,h4]
  ·have h4:(c.toNat:Int)<=122:=by omega
   simp[h3,h4]
theorem KL(s:ByteArray)(hl:s.size<=1048576):NZ s=some (nZ s):=by
 unfold NZ nZ;simp only[iv,Option.bind_some];rcases bt (wi s.size 1 8) with hw|hw
 ·simp only[hw,Bool.not_true,cond_false,Bool.and_true];have hs:0<s.data.toList.length:=by rw[<-fM];have:=(cw.1 hw).1;omega
  have h0:s.data.toList[0]?=some s.data.toList[0]:=List.getElem?_eq_getElem hs;have g0:uM s 0=some s.data.toList[0]:=by rw[<-h0];exact pW s 0
  simp only[g0,Option.bind_some];have key:=en (f:=M_a s) s.data.toList (fun _ c=>!(rS c||uW c)) (.inr false) (.inl ()) (fun i c hc _=>by
   have hlt:=(List.getElem?_eq_some_iff.1 hc).1;have h1:decide ((i:Int)<s.size)=true:=decide_eq_true (by rw[fM];omega);rw[fM] at hl;simp only[M_a,h1,cond_true,pW,hc,Option.bind_some,HB];rw[aG (by omega) (by omega)];cases rS c<;>cases uW c<;>rfl) (by simp[M_a]) (by rw[fM] at hl;omega)
  rw[fstc];simp only[Option.bind_some,key];rcases bt (rS s.data.toList[0]) with hL|hL
  ·simp only[hL,Bool.not_true,cond_false];have e:eX (fun _ c=>!(rS c||uW c)) s.data.toList=eX gn s.data.toList:=by
    refine zx fun i c hc _=>?_;unfold gn;by_cases hi:i=0
    ·subst hi;rw[h0] at hc;cases hc;rw[hL];rfl
    ·have:(i==0)=false:=by simpa using hi
     rw[this];cases rS c<;>cases uW c<;>rfl
   rw[e];cases eX gn s.data.toList<;>rfl
  ·have:eX gn s.data.toList=true:=gG.2 ⟨0,_,h0,by unfold gn;rw[hL];simp⟩;simp only[hL,this,Bool.not_false,cond_true,Bool.not_true]
 ·simp[hw]
def WT(v:ByteArray)(xs:List ByteArray):Option (Nat×ByteArray):=cL (fun _ x=>x.toList==v.toList) xs
def OQ(v:ByteArray)(xs:List ByteArray):Int:=match WT v xs with|some q=>(q.1:Int)|none=>-1
theorem LZ(xs:List ByteArray)(v:ByteArray)(hl:xs.length<=1048576):GI xs v=some (OQ v xs):=by
 unfold GI OQ;rw[cy (f:=ET xs v) xs (fun _ x=>x.toList==v.toList) (fun i _=>(i:Int)) () (fun i x hx _=>by
  have hlt:=(List.getElem?_eq_some_iff.1 hx).1;have h1:decide ((i:Int)<xs.length)=true:=by simp[hlt]
  simp only[ET,h1,cond_true,aU,hx,Option.bind_some];rw[aG (by omega) (by omega)];cases x.toList==v.toList<;>rfl) (by simp[ET]) (by omega)]
 unfold WT;cases cL (fun _ x=>x.toList==v.toList) xs<;>rfl
theorem uD(xs:List ByteArray)(v:ByteArray)(hl:xs.length<=1048576):Iz xs v=some (xs.any fun x=>x.toList==v.toList):=by
 unfold Iz Pz;rw[cy (f:=Dv xs v) xs (fun _ x=>x.toList==v.toList) (fun i _=>(i:Int)) () (fun i x hx _=>by
  have hlt:=(List.getElem?_eq_some_iff.1 hx).1;have h1:decide ((i:Int)<xs.length)=true:=by simp[hlt]
  simp only[Dv,h1,cond_true,aU,hx,Option.bind_some];rw[aG (by omega) (by omega),show(v.toList==x.toList)=(x.toList==v.toList) from Bool.beq_comm ..];cases x.toList==v.toList<;>rfl) (by simp[Dv]) (by omega)]
 cases e:cL (fun _ x=>x.toList==v.toList) xs with
 | none =>
   have:=eW.1 e;have h:(xs.any fun x=>x.toList==v.toList)=false:=by
    rw[<-qH (fun x:ByteArray=>x.toList==v.toList),df];exact this
   rw[h];rfl
 | some q =>
   obtain⟨i,x⟩:=q;obtain⟨h1,h2,_⟩:=cV.1 e;have h:(xs.any fun x=>x.toList==v.toList)=true:=List.any_eq_true.2 ⟨x,List.mem_of_getElem? h1,h2⟩;rw[h];simp
def dD(x y:Int):Int:=if x<y then -1 else if y<x then 1 else 0
theorem LQ(x y:Int):M_s x y=some (dD x y):=by
 unfold M_s wS dD;by_cases h:x<y
 ·simp[h]
 ·by_cases h2:y<x<;>simp[h,h2]
def yl(f g:ay):Int:=if f.A≠g.A then dD f.A g.A else if f.B≠g.B then dD f.B g.B else if f.F≠g.F then dD f.F g.F else dD f.N g.N
theorem cB{x y:Int}:dD x y=0↔x=y:=by
 unfold dD;split
 ·simp;omega
 ·split
  ·simp;omega
  ·simp;omega
theorem oJ(f g:ay):Lg f g=some (yl f g):=by
 unfold Lg;simp only[LQ,Option.bind_some,bnd];unfold yk;have key:=cy (f:=M_o [dD f.A g.A,dD f.B g.B,dD f.F g.F,dD f.N g.N]) [dD f.A g.A,dD f.B g.B,dD f.F g.F,dD f.N g.N] (fun _ x=>x !=0) (fun _ x=>x) () (fun i x hx _=>by
  have hlt:=(List.getElem?_eq_some_iff.1 hx).1;have h1:decide ((i:Int)<([dD f.A g.A,dD f.B g.B,dD f.F g.F,dD f.N g.N].length:Nat))=true:=decide_eq_true (by omega);simp only[List.length_cons,List.length_nil] at hlt;simp only[M_o,h1,cond_true,aU,hx,Option.bind_some];rw[aG (by omega) (by omega)];cases x !=0<;>rfl) (by simp[M_o]) (by simp)
 rw[key];unfold yl cL;simp only[List.zipIdx_cons,List.zipIdx_nil,List.find?_cons,List.find?_nil];by_cases h1:f.A=g.A
 ·rw[cB.2 h1];by_cases h2:f.B=g.B
  ·rw[cB.2 h2];by_cases h3:f.F=g.F
   ·rw[cB.2 h3];by_cases h4:f.N=g.N
    ·simp[h1,h2,h3,h4,cB.2]
    ·have:(dD f.N g.N !=0)=true:=bne_iff_ne.2 fun e=>h4 (cB.1 e);simp[h1,h2,h3,this]
   ·have:(dD f.F g.F !=0)=true:=bne_iff_ne.2 fun e=>h3 (cB.1 e);simp[h1,h2,h3,this]
  ·have:(dD f.B g.B !=0)=true:=bne_iff_ne.2 fun e=>h2 (cB.1 e);simp[h1,h2,this]
 ·have:(dD f.A g.A !=0)=true:=bne_iff_ne.2 fun e=>h1 (cB.1 e);simp[h1,this]
end Vs

namespace Vs
open Go
theorem Bs{α:Type}(xs:List α)(i:Nat)(h:i<=xs.length):slT xs (i:Int)=some (xs.take i):=by
 unfold slT;rw[if_pos ⟨by omega,by simpa using h⟩];simp
theorem rr{n:af}(h:aX n<=1048576):n.N.length<=1048576/\n.F.length<=1048576/\∀x∈n.N,x.size<=1048576:=by
 unfold aX bC bR at h;refine⟨by omega,by omega,fun x hx=>?_⟩;obtain⟨i,hi,rfl⟩:=List.getElem_of_mem hx;have:n.N[i].size<=(n.N.map fun x:ByteArray=>x.size).sum:=lY (fun x:ByteArray=>x.size) (xs:=n.N) (i:=i) (x:=n.N[i]) (by simp[hi]);omega
def ip(n:af)(i:Nat)(x:ByteArray):Bool:=!nZ x||(n.N.take i).any fun y=>y.toList==x.toList
def zH(m:Nat)(f:ay):Bool:=decide (f.A<0)||decide (f.B<=f.A)||decide ((m:Int)<=f.B)||!wi f.F 1 5000||!wi f.N 0 9
def ji(n:af)(i:Nat)(f:ay):Bool:=zH n.N.length f||(decide (0<i)&&match n.F[i-1]? with|some g=>decide (0<yl g f)|none=>false)
def bU(n:af):Bool:=!eX (ip n) n.N&&!eX (ji n) n.F&&wi n.N.length 2 8&&decide (n.F.length<=14)
theorem iR(n:af)(hz:aX n<=1048576):EC n=some (bU n):=by
 obtain⟨h1,h2,h3⟩:=rr hz;unfold EC bU;rw[en (f:=FL n) n.N (ip n) (.inr false) (.inl ()) (fun i x hx _=>by
  have hlt:=(List.getElem?_eq_some_iff.1 hx).1;have e1:decide ((i:Int)<n.N.length)=true:=by simp[hlt]
  simp only[FL,e1,cond_true,aU,hx,Option.bind_some,My x (h3 x (List.mem_of_getElem? hx)),Bs n.N i (Nat.le_of_lt hlt),uD (n.N.take i) x (by simp;omega),ip];rw[aG (by omega) (by omega)];rcases bt (nZ x) with e|e<;>rcases bt ((n.N.take i).any (fun y=>y.toList==x.toList)) with e'|e'<;>simp only[e,e']<;>rfl) (by simp[FL]) (by omega)]
 rcases bt (eX (ip n) n.N) with hN|hN
 ·simp[hN]
 ·simp only[hN,Bool.false_eq_true,if_false,Option.bind_some,Bool.not_false,Bool.true_and];rw[en (f:=Cq n) n.F (ji n) (.inr false) (.inl ()) (fun i x hx _=>by
   have hlt:=(List.getElem?_eq_some_iff.1 hx).1;have e1:decide ((i:Int)<n.F.length)=true:=by simp[hlt]
   simp only[Cq,e1,cond_true,aU,hx,Option.bind_some,eF];rw[aG (n:=(i:Int)+1) (by omega) (by omega)];unfold ji zH;cases decide (x.A<0)
   ·cases decide (x.B<=x.A)
    ·cases decide ((n.N.length:Int)<=x.B)
     ·cases wi x.F 1 5000
      ·rfl
      ·cases wi x.N 0 9
       ·rfl
       ·by_cases hi:0<i
        ·have hi':decide ((0:Int)<(i:Int))=true:=by simp[hi]
         have hp:n.F[i-1]?=some n.F[i-1]:=List.getElem?_eq_getElem (by omega);have hw:IntKind.wrap .i64 ((i:Int)-1)=((i-1:Nat):Int):=by rw[aG (by omega) (by omega)];omega
         simp only[hi',cond_true,cond_false,Bool.not_true,hw,aU,hp,Option.bind_some,oJ,hi,decide_true,Bool.true_and,Bool.false_or];cases decide (0<yl n.F[i-1] x)<;>rfl
        ·have hi':decide ((0:Int)<(i:Int))=false:=by simp;omega
         simp[hi',hi]
     ·rfl
    ·rfl
   ·rfl) (by simp[Cq]) (by omega)]
  rcases bt (eX (ji n) n.F) with hF|hF
  ·simp[hF]
  ·simp only[hF,Bool.false_eq_true,if_false,Option.bind_some,Bool.not_false,Bool.true_and,eF];have e:decide ((n.F.length:Int)<=14)=decide (n.F.length<=14):=decide_eq_decide.2 (by omega);rw[e];cases wi n.N.length 2 8<;>rfl
theorem IM(n:af)(i:Nat)(x:ByteArray)(hx:n.N[i]?=some x):
 (OQ x n.N !=(i:Int))=(n.N.take i).any fun y=>y.toList==x.toList:=by
 unfold OQ;cases e:WT x n.N with
 | none =>
   have:=eW.1 e i x hx;simp at this
 | some q =>
   obtain⟨j,y⟩:=q;obtain⟨h1,h2,h3⟩:=cV.1 e;simp only;by_cases hj:j=i
   ·subst hj;have:((n.N.take j).any fun y=>y.toList==x.toList)=false:=by
     rw[List.any_eq_false];intro z hz;obtain⟨k,hk,rfl⟩:=List.getElem_of_mem hz;simp only[List.length_take] at hk;have:=h3 k (n.N.take j)[k] (by omega) (by rw[List.getElem_take];exact List.getElem?_eq_getElem (by omega));rw[this];simp
    rw[this];simp
   ·have hji:j<i:=by
     rcases Nat.lt_trichotomy j i with h|h|h
     ·exact h
     ·exact(hj h).elim
     ·have:=h3 i x h hx;simp at this
    have:((n.N.take i).any fun y=>y.toList==x.toList)=true:=List.any_eq_true.2 ⟨y,by
     have:(n.N.take i)[j]?=some y:=by rw[List.getElem?_take,if_pos hji];exact h1
     exact List.mem_of_getElem? this,h2⟩
    rw[this];simp;omega
theorem CN(f:ay)(m:Nat)(hm:m<=8)(hm2:2<=m):Jp f (m:Int)=some (!zH m f):=by
 unfold Jp zH;simp only[iv,Option.bind_some];rw[aG (n:=(m:Int)-1) (by omega) (by omega)];rcases bt (wi f.A 0 ((m:Int)-1)) with h1|h1
 ·have h2:=cw.1 h1;rw[aG (n:=f.A+1) (by omega) (by omega)];rcases bt (wi f.B (f.A+1) ((m:Int)-1)) with h3|h3
  ·have h4:=cw.1 h3;have a1:decide (f.A<0)=false:=by simp;omega
   have a2:decide (f.B<=f.A)=false:=by simp;omega
   have a3:decide ((m:Int)<=f.B)=false:=by simp;omega
   simp only[h1,h3,a1,a2,a3,cond_true,Bool.false_or];cases wi f.F 1 5000<;>cases wi f.N 0 9<;>rfl
  ·have h4:=pX.1 h3;simp only[h1,h3,cond_true,cond_false];by_cases a2:f.B<=f.A
   ·simp[a2]
   ·have a3:(m:Int)<=f.B:=by omega
    simp[a3]
 ·have h2:=pX.1 h1;simp only[h1,cond_false];by_cases a1:f.A<0
  ·simp[a1]
  ·by_cases a2:f.B<=f.A
   ·simp[a2]
   ·have a3:(m:Int)<=f.B:=by omega
    simp[a3]
structure AX(m:Int)(f:ay):Prop where
 a0:0<=f.A
 ab:f.A<f.B
 bm:f.B<m
 l1:1<=f.F
 l2:f.F<=5000
 r0:0<=f.N
 r9:f.N<=9
theorem uA{m:Nat}{f:ay}(h:zH m f=false):AX m f:=by
 unfold zH at h;simp only[Bool.or_eq_false_iff,decide_eq_false_iff_not,Bool.not_eq_false',cw] at h;obtain⟨⟨⟨⟨h1,h2⟩,h3⟩,h4,h5⟩,h6,h7⟩:=h;exact⟨by omega,by omega,by omega,h4,h5,h6,h7⟩
theorem Kp(f g:ay)(m:Nat)(hm:m<=8)(hf:AX m f)(hg:AX m g):∃r,NX f g=some r/\decide (0<r)=decide (0<yl f g):=by
 obtain⟨a1,a2,a3,a4,a5,a6,a7⟩:=hf;obtain⟨b1,b2,b3,b4,b5,b6,b7⟩:=hg;have sgn:∀x y:Int,decide (0<x-y)=decide (0<dD x y):=by
  intro x y;unfold dD;by_cases h:x<y
  ·rw[if_pos h];exact decide_eq_decide.2 (by omega)
  ·rw[if_neg h];by_cases h2:y<x
   ·rw[if_pos h2];exact decide_eq_decide.2 (by omega)
   ·rw[if_neg h2];exact decide_eq_decide.2 (by omega)
 unfold NX yl;rw[aG (n:=f.A-g.A) (by omega) (by omega),aG (n:=f.B-g.B) (by omega) (by omega),aG (n:=f.F-g.F) (by omega) (by omega),aG (n:=f.N-g.N) (by omega) (by omega)];by_cases h1:f.A=g.A
 ·have e1:(f.A !=g.A)=false:=by rw[h1];simp
  by_cases h2:f.B=g.B
  ·have e2:(f.B !=g.B)=false:=by rw[h2];simp
   by_cases h3:f.F=g.F
   ·have e3:(f.F !=g.F)=false:=by rw[h3];simp
    exact⟨f.N-g.N,by simp only[e1,e2,e3,cond_false],by simp only[h1,h2,h3,ne_eq,not_true,if_false];exact sgn _ _⟩
   ·have e3:(f.F !=g.F)=true:=bne_iff_ne.2 h3;exact⟨f.F-g.F,by simp only[e1,e2,e3,cond_false,cond_true],by simp only[h1,h2,h3,ne_eq,not_true,not_false_eq_true,if_false,if_true];exact sgn _ _⟩
  ·have e2:(f.B !=g.B)=true:=bne_iff_ne.2 h2;exact⟨f.B-g.B,by simp only[e1,e2,cond_false,cond_true],by simp only[h1,h2,ne_eq,not_true,not_false_eq_true,if_false,if_true];exact sgn _ _⟩
 ·have e1:(f.A !=g.A)=true:=bne_iff_ne.2 h1;exact⟨f.A-g.A,by simp only[e1,cond_true],by simp only[h1,ne_eq,not_false_eq_true,if_true];exact sgn _ _⟩
theorem qz(n:af)(hz:aX n<=1048576):yn n=some (bU n):=by
 obtain⟨z1,z2,z3⟩:=rr hz;unfold yn bU;simp only[iv,Option.bind_some];rcases bt (wi n.N.length 2 8) with hw|hw
 ·have hw2:=cw.1 hw;have e:decide (14<(n.F.length:Int))=!decide (n.F.length<=14):=by
   rw[<-decide_not];exact decide_eq_decide.2 (by omega)
  simp only[hw,e,Bool.not_true,cond_false,Option.bind_some,Bool.and_true];rcases bt (decide (n.F.length<=14)) with h14|h14
  ·simp only[h14,Bool.not_true,cond_false,Bool.and_true];rw[en (f:=M_h n) n.N (ip n) (.inr false) (.inl ()) (fun i x hx _=>by
    have hlt:=(List.getElem?_eq_some_iff.1 hx).1;have e1:decide ((i:Int)<n.N.length)=true:=by simp[hlt]
    simp only[M_h,e1,cond_true,aU,hx,Option.bind_some,KL x (z3 x (List.mem_of_getElem? hx)),LZ n.N x z1,IM n i x hx,ip];rw[aG (by omega) (by omega)];rcases bt (nZ x) with e|e<;>rcases bt ((n.N.take i).any (fun y=>y.toList==x.toList)) with e'|e'<;>simp only[e,e']<;>rfl) (by simp[M_h]) (by omega)]
   rcases bt (eX (ip n) n.N) with hN|hN
   ·simp[hN]
   ·simp only[hN,Bool.false_eq_true,if_false,Option.bind_some,Bool.not_false,Bool.true_and];rw[en (f:=EH n) n.F (ji n) (.inr false) (.inl ()) (fun i x hx hprev=>by
     have hlt:=(List.getElem?_eq_some_iff.1 hx).1;have e1:decide ((i:Int)<n.F.length)=true:=by simp[hlt]
     simp only[EH,e1,cond_true,aU,hx,Option.bind_some,CN x n.N.length (by omega) (by omega),Bool.not_not];rw[aG (n:=(i:Int)+1) (by omega) (by omega)];unfold ji;rcases bt (zH n.N.length x) with h1|h1
     ·simp[h1]
     ·simp only[h1,cond_false,Bool.false_or];by_cases hi:0<i
      ·have hi':decide ((0:Int)<(i:Int))=true:=by simp[hi]
       have hp:n.F[i-1]?=some n.F[i-1]:=List.getElem?_eq_getElem (by omega);have hw:IntKind.wrap .i64 ((i:Int)-1)=((i-1:Nat):Int):=by rw[aG (by omega) (by omega)];omega
       have hb:=hprev (i-1) n.F[i-1] (by omega) hp;unfold ji at hb;simp only[Bool.or_eq_false_iff] at hb;obtain⟨r,r1,r2⟩:=Kp n.F[i-1] x n.N.length (by omega) (uA hb.1) (uA h1);simp only[hi',cond_true,hw,aU,hp,Option.bind_some,r1,r2,hi,decide_true,Bool.true_and];cases decide (0<yl n.F[i-1] x)<;>rfl
      ·have hi':decide ((0:Int)<(i:Int))=false:=by simp;omega
       simp[hi',hi]) (by simp[EH]) (by omega)]
    cases eX (ji n) n.F<;>rfl
  ·simp[h14]
 ·simp[hw]
end Vs

namespace Vs
open Go
theorem cY{n:af}(h:bU n=true):2<=n.N.length/\n.N.length<=8/\n.F.length<=14:=by
 unfold bU at h;simp only[Bool.and_eq_true,decide_eq_true_eq,cw] at h;omega
theorem nK{n:af}(h:bU n=true){i:Nat}{f:ay}(hf:n.F[i]?=some f):AX n.N.length f:=by
 unfold bU at h;simp only[Bool.and_eq_true,Bool.not_eq_true'] at h;have:=df.1 h.1.1.2 i f hf;unfold ji at this;simp only[Bool.or_eq_false_iff] at this;exact uA this.1
end Vs

namespace Vs
open Go
theorem wa{n:af}(h:bU n=true):∀f∈n.F,f.A<n.N.length/\f.B<n.N.length:=by
 intro f hf;obtain⟨i,hi⟩:=List.getElem?_of_mem hf;obtain⟨h1,h2,h3⟩:=nK h hi;omega
def fibI(n:af)(e:Int):Prop:=0<=e/\e<(n.F.length:Int)
end Vs

namespace Vs
open Go
def jC(f:ay)(v:Int):Int:=if v=f.A then f.B else if v=f.B then f.A else -1
def cD(n:af)(e v:Int):Int:=match n.F[e.toNat]? with|some f=>jC f v|none=>-1
end Vs

namespace Vs
open Go
theorem oV(l:List Int)(x:Int)(hl:l.length<=1048576):uF l x=some (l.any fun y=>y==x):=by
 unfold uF;rw[kx (f:=Fy l x) l (fun y=>y==x) (.inr true) (.inl ()) (fun i y hy=>by
  have hlt:=(List.getElem?_eq_some_iff.1 hy).1;have h1:decide ((i:Int)<l.length)=true:=by simp[hlt]
  simp only[Fy,h1,cond_true,aU,hy,Option.bind_some];rw[aG (by omega) (by omega)];cases y==x<;>rfl) (by simp[Fy]) (by omega)]
 cases l.any fun y=>y==x<;>rfl
theorem pV{n:af}{e:Int}(h:wi e 0 ((n.F.length:Int)-1)=true):∃f,bQ n.F e=some f/\n.F[e.toNat]?=some f:=by
 rw[cw] at h;have hlt:e.toNat<n.F.length:=by omega
 refine⟨n.F[e.toNat],?_,List.getElem?_eq_getElem hlt⟩;have h3:=aU n.F e.toNat;rw[Int.toNat_of_nonneg h.1] at h3;rw[h3];exact List.getElem?_eq_getElem hlt
theorem tm(n:af)(e v:Int)(h:wi e 0 ((n.F.length:Int)-1)=true):Ac n e v=some (cD n e v):=by
 obtain⟨f,h1,h2⟩:=pV h;unfold Ac cD jC;rw[h1,h2];simp only[Option.bind_some];by_cases a:v=f.A
 ·rw[show(v==f.A)=true from by simpa using a,cond_true,if_pos a]
 ·rw[show(v==f.A)=false from by simpa using a,cond_false,if_neg a];by_cases b:v=f.B
  ·rw[show(v==f.B)=true from by simpa using b,cond_true,if_pos b]
  ·rw[show(v==f.B)=false from by simpa using b,cond_false,if_neg b]
end Vs

namespace Vs
open Go
theorem Bk(xs:List Int)(v:Int)(hl:xs.length<=1048576):Dk xs v=some (decide (v∈xs)):=by
 unfold Dk Sq;rw[cy (f:=Dq xs v) xs (fun _ x=>v==x) (fun i _=>(i:Int)) () (fun i x hx _=>by
  have hlt:=(List.getElem?_eq_some_iff.1 hx).1;have h1:decide ((i:Int)<xs.length)=true:=by simp[hlt]
  simp only[Dq,h1,cond_true,aU,hx,Option.bind_some];rw[aG (by omega) (by omega)];cases v==x<;>rfl) (by simp[Dq]) (by omega)]
 cases e:cL (fun _ x=>v==x) xs with
 | none =>
   have:=eW.1 e;have h:¬v∈xs:=fun hm=>by
    obtain⟨i,hi⟩:=List.getElem?_of_mem hm;have:=this i v hi;simp at this
   rw[decide_eq_false h];rfl
 | some q =>
   obtain⟨i,x⟩:=q;obtain⟨h1,h2,_⟩:=cV.1 e;have h:v∈xs:=by
    have:=eq_of_beq h2;rw[this];exact List.mem_of_getElem? h1
   rw[decide_eq_true h];simp
theorem pD(f:ay)(v:Int):xZ f v=some (jC f v):=by
 unfold xZ jC;by_cases a:v=f.A
 ·rw[show(v==f.A)=true from by simpa using a,cond_true,if_pos a]
 ·rw[show(v==f.A)=false from by simpa using a,cond_false,if_neg a];by_cases b:v=f.B
  ·rw[show(v==f.B)=true from by simpa using b,cond_true,if_pos b]
  ·rw[show(v==f.B)=false from by simpa using b,cond_false,if_neg b]
theorem uN(l:List Int)(e:Int):decide (e∈l)=l.any fun x=>x==e:=by
 rw[Bool.eq_iff_iff,decide_eq_true_iff,List.any_eq_true];constructor
 ·intro h;exact⟨e,h,by simp⟩
 ·rintro⟨x,hx,he⟩;rw[<-eq_of_beq he];exact hx
end Vs

namespace Vs
open Go
theorem nP{α A B C:Type}(s1:Nat->α->A->A⊕B)(s2:Nat->α->A->A⊕C)(f1:A->B)(f2:A->C)(R:B->C->Prop)(h:∀i x a,(∃a',s1 i x a=.inl a'/\s2 i x a=.inl a')\/∃b c,s1 i x a=.inr b/\s2 i x a=.inr c/\R b c)(hf:∀a,R (f1 a) (f2 a)):
 ∀(xs:List α)(i:Nat)(a:A),R (bX s1 f1 i xs a) (bX s2 f2 i xs a)
 |[],_,a=>hf a
 | x :: xs, i, a => by
   simp only[bX];rcases h i x a with⟨a',h1,h2⟩|⟨b,c,h1,h2,h3⟩
   ·rw[h1,h2];exact nP s1 s2 f1 f2 R h hf xs (i+1) a'
   ·rw[h1,h2];exact h3
def ri(n:af)(e:Int)(a:Int×List Int):Bool:=!wi e 0 ((n.F.length:Int)-1)||decide (cD n e a.1<0)||decide (cD n e a.1∈a.2)
def mR(n:af)(_:Nat)(e:Int)(a:Int×List Int):(Int×List Int)⊕Option (List Int):=if ri n e a then .inr none else .inl (cD n e a.1,a.2++[cD n e a.1])
def iy(n:af)(r:ar):Option (List Int):=if !wi r.N 0 ((n.N.length:Int)-1)||decide (r.F.length=0) then none else bX (mR n) (fun a=>some a.2) 0 r.F (r.N,[r.N])
def Ht(n:af)(_:Nat)(e:Int)(a:Int×List Int):(Int×List Int)⊕((List Int)⊕(List Int×Bool)):=if ri n e a then .inr (.inr ([],false)) else .inl (cD n e a.1,a.2++[cD n e a.1])
def OG(n:af)(_:Nat)(e:Int)(a:Int×List Int):(Int×List Int)⊕((List Int)⊕(List Int×Bool)):=if ri n e a then .inr (.inr (a.2,false)) else .inl (cD n e a.1,a.2++[cD n e a.1])
theorem len0(l:List Int):((l.length:Int)==0)=decide (l.length=0):=by
 rw[Bool.eq_iff_iff];simp
theorem sX(n:af)(r:ar)(hN:n.N.length<=1048576)(hF:n.F.length<=1048576)(hr:r.F.length<=1048576):Ch n r=some (match iy n r with|some l=>(l,true)|none=>([],false)):=by
 unfold Ch iy;simp only[eF,Option.bind_some,len0];rw[aG (n:=(n.N.length:Int)-1) (by omega) (by omega)];have hc:(cond (!wi r.N 0 ((n.N.length:Int)-1)) (some true) (some (decide (r.F.length=0))):Option Bool)=some (!wi r.N 0 ((n.N.length:Int)-1)||decide (r.F.length=0)):=by
  cases wi r.N 0 ((n.N.length:Int)-1)<;>rfl
 rw[hc];simp only[Option.bind_some];rcases bt (!wi r.N 0 ((n.N.length:Int)-1)||decide (r.F.length=0)) with e|e
 ·rw[e];rfl
 rw[e];simp only[cond_false,bnd,Bool.false_eq_true,if_false];have key:=dL (f:=FX n r) r.F (fun i(a:Int×List Int)=>(a.1,(i:Int),a.2)) (Ht n) (fun a=>.inl a.2) (fun i a=>a.2.length=i+1) (fun i a x hx hI=>by
  have hlt:=(List.getElem?_eq_some_iff.1 hx).1;have h1:decide ((i:Int)<r.F.length)=true:=by simp[hlt]
  simp only[FX,h1,cond_true,aU,hx,Option.bind_some,eF];rw[aG (n:=(n.F.length:Int)-1) (by omega) (by omega),aG (n:=(i:Int)+1) (by omega) (by omega)];unfold Ht ri;rcases bt (wi x 0 ((n.F.length:Int)-1)) with e1|e1
  ·obtain⟨f,f1,f2⟩:=pV e1;have ho:cD n x a.1=jC f a.1:=by unfold cD;rw[f2]
   simp only[e1,Bool.not_true,cond_false,f1,Option.bind_some,pD,<-ho,Bk a.2 (cD n x a.1) (by omega),Bool.false_or];by_cases h3:cD n x a.1<0
   ·exact .inr ⟨_,by simp[h3];rfl,by simp[h3]⟩
   ·by_cases h4:cD n x a.1∈a.2
    ·exact .inr ⟨_,by simp[h4];rfl,by simp[h3,h4]⟩
    ·refine .inl ⟨(cD n x a.1,a.2++[cD n x a.1]),by simp[h3,h4],by simp[hI],?_⟩;simp only[decide_eq_false h3,decide_eq_false h4,cond_false,Option.bind_some,bnd];rw[bq (by omega)];rfl
  ·exact .inr ⟨_,by simp[e1];rfl,by simp[e1]⟩) (fun a _=>by simp[FX]) (r.N,[r.N]) rfl (by omega)
 have e0:((0:Nat):Int)=0:=rfl;simp only[e0] at key;rw[key];have:=nP (mR n) (Ht n) (fun a=>some a.2) (fun a=>(.inl a.2:(List Int)⊕(List Int×Bool))) (fun b c=>match b with|some l=>c=.inl l|none=>c=.inr ([],false)) (fun i x a=>by
  unfold mR Ht;cases ri n x a
  ·exact .inl ⟨_,rfl,rfl⟩
  ·exact .inr ⟨_,_,rfl,rfl,rfl⟩) (fun a=>rfl) r.F 0 (r.N,[r.N])
 revert this
 generalize bX (Ht n) (fun a=>(.inl a.2:(List Int)⊕(List Int×Bool))) 0 r.F (r.N,[r.N])=c;cases bX (mR n) (fun a=>some a.2) 0 r.F (r.N,[r.N]) with
 |none=>intro h;rw[h];rfl
 |some l=>intro h;rw[h];rfl
theorem xh(n:af)(r:ar)(hN:n.N.length<=1048576)(hF:n.F.length<=1048576)(hr:r.F.length<=1048576):∃o,Ee n r=some (o,(iy n r).isSome)/\∀l,iy n r=some l->o=l:=by
 unfold Ee iy;simp only[iv,Option.bind_some,len0,bnd];rw[aG (n:=(n.N.length:Int)-1) (by omega) (by omega)];have hc:(cond (!wi r.N 0 ((n.N.length:Int)-1)) (some true) (some (decide (r.F.length=0))):Option Bool)=some (!wi r.N 0 ((n.N.length:Int)-1)||decide (r.F.length=0)):=by
  cases wi r.N 0 ((n.N.length:Int)-1)<;>rfl
 rw[hc];simp only[Option.bind_some];rcases bt (!wi r.N 0 ((n.N.length:Int)-1)||decide (r.F.length=0)) with e|e
 ·rw[e];exact⟨[r.N],rfl,fun l h=>by simp at h⟩
 rw[e];simp only[cond_false,Bool.false_eq_true,if_false];have key:=dL (f:=M_k n r) r.F (fun i(a:Int×List Int)=>((i:Int),a.2)) (OG n) (fun a=>.inl a.2) (fun i a=>a.2.length=i+1/\a.2[i]?=some a.1) (fun i a x hx hI=>by
  have hlt:=(List.getElem?_eq_some_iff.1 hx).1;have h1:decide ((i:Int)<r.F.length)=true:=by simp[hlt]
  simp only[M_k,h1,cond_true,aU,hx,Option.bind_some,iv];have hl1:IntKind.wrap .i64 ((a.2.length:Int)-1)=(i:Int):=by rw[aG (by omega) (by omega)];omega
  rw[aG (n:=(n.F.length:Int)-1) (by omega) (by omega),aG (n:=(i:Int)+1) (by omega) (by omega),hl1];unfold OG ri;rcases bt (wi x 0 ((n.F.length:Int)-1)) with e1|e1
  ·simp only[e1,Bool.not_true,cond_false,Option.bind_some,Bool.false_or,Int.toNat_natCast,hI.2];rw[bq (by omega)];simp only[Option.bind_some,tm n x a.1 e1,oV a.2 (cD n x a.1) (by omega)];have hm:(a.2.any fun y=>y==cD n x a.1)=decide (cD n x a.1∈a.2):=by
    rw[Bool.eq_iff_iff];simp
   rw[hm];by_cases h3:cD n x a.1<0
   ·exact .inr ⟨_,by simp[h3];rfl,by simp[h3]⟩
   ·by_cases h4:cD n x a.1∈a.2
    ·exact .inr ⟨_,by simp[h4];rfl,by simp[h3,h4]⟩
    ·refine .inl ⟨(cD n x a.1,a.2++[cD n x a.1]),by simp[h3,h4],⟨by simp[hI.1],by rw[<-hI.1];simp⟩,?_⟩;simp only[decide_eq_false h3,decide_eq_false h4,cond_false,Option.bind_some];rw[bq (by omega)];rfl
  ·exact .inr ⟨_,by simp[e1];rfl,by simp[e1]⟩) (fun a _=>by simp[M_k]) (r.N,[r.N]) ⟨rfl,rfl⟩ (by omega)
 have e0:((0:Nat):Int)=0:=rfl;simp only[e0] at key;rw[key];have:=nP (mR n) (OG n) (fun a=>some a.2) (fun a=>(.inl a.2:(List Int)⊕(List Int×Bool))) (fun b c=>match b with|some l=>c=.inl l|none=>∃o,c=.inr (o,false)) (fun i x a=>by
  unfold mR OG;cases ri n x a
  ·exact .inl ⟨_,rfl,rfl⟩
  ·exact .inr ⟨_,_,rfl,rfl,_,rfl⟩) (fun a=>rfl) r.F 0 (r.N,[r.N])
 revert this
 generalize bX (OG n) (fun a=>(.inl a.2:(List Int)⊕(List Int×Bool))) 0 r.F (r.N,[r.N])=c;cases bX (mR n) (fun a=>some a.2) 0 r.F (r.N,[r.N]) with
 |none=>rintro⟨o,h⟩;rw[h];exact⟨o,rfl,fun l h=>by cases h⟩
 |some l=>intro h;rw[h];exact⟨l,rfl,fun l' h=>by cases h;rfl⟩
def Ma(n:af)(r:ar):Bool:=bU n&&(iy n r).isSome
theorem JY(n:af)(r:ar)(hz:aX n<=1048576)(hr:r.F.length<=1048576):DS n r=some (Ma n r):=by
 obtain⟨h1,h2,_⟩:=rr hz;unfold DS Ma;rw[qz n hz];simp only[Option.bind_some];rcases bt (bU n) with e|e
 ·obtain⟨o,o1,_⟩:=xh n r (by omega) (by omega) hr;rw[e];simp only[Bool.not_true,cond_false,o1,Option.bind_some,Bool.true_and]
 ·rw[e];rfl
theorem tq{n:af}(hE:∀f∈n.F,f.A<n.N.length/\f.B<n.N.length):∀(xs:List Int)(i:Nat)(a:Int×List Int)(l:List Int),bX (mR n) (fun a=>some a.2) i xs a=some l->a.2.Nodup->(∀v∈a.2,0<=v/\v<(n.N.length:Int))->a.1∈a.2->
 l.Nodup/\(∀v∈l,0<=v/\v<(n.N.length:Int))/\l.length=a.2.length+xs.length/\(∀e∈xs,0<=e/\e<(n.F.length:Int))/\xs.Nodup/\∀e∈xs,∀f,n.F[e.toNat]?=some f->¬(f.A∈a.2/\f.B∈a.2)
 |[],_,a,l,h,hd,hv,_=>by simp only[bX,Option.some.injEq] at h;subst h;exact⟨hd,hv,by simp,by simp,by simp,by simp⟩
 | x :: xs, i, a, l, h, hd, hv, ha => by
   simp only[bX,mR] at h;rcases bt (ri n x a) with e|e
   ·rw[e] at h;cases h
   ·rw[e] at h;simp only[Bool.false_eq_true,if_false] at h;simp only[ri,Bool.or_eq_false_iff,Bool.not_eq_false',decide_eq_false_iff_not,cw] at e;obtain⟨⟨e1,e2⟩,e3⟩:=e;have hi:x.toNat<n.F.length:=by omega
    have hf:=hE _ (List.getElem_mem hi);have hg:=List.getElem?_eq_getElem hi;generalize n.F[x.toNat]=f at hf hg;have ho:cD n x a.1=jC f a.1:=by unfold cD;rw[hg]
    have hend:(f.A=a.1/\f.B=cD n x a.1)\/(f.B=a.1/\f.A=cD n x a.1):=by
     rw[ho] at e2⊢;unfold jC at e2⊢;split
     ·rename_i h1;exact .inl ⟨h1.symm,rfl⟩
     ·split
      ·rename_i h1;exact .inr ⟨h1.symm,rfl⟩
      ·rename_i h1 h2;simp[h1,h2] at e2
    have hlt:cD n x a.1<n.N.length:=by omega
    obtain⟨g1,g2,g3,g4,g5,g6⟩:=tq hE xs (i+1) _ l h (by
     rw[List.nodup_append];exact⟨hd,by simp,fun u hu v hv=>by simp at hv;subst hv;intro e;subst e;exact e3 hu⟩) (fun v hv2=>by
     simp only[List.mem_append,List.mem_singleton] at hv2;rcases hv2 with h|h
     ·exact hv v h
     ·subst h;exact⟨by omega,hlt⟩) (by simp)
    refine⟨g1,g2,by rw[g3];simp;omega,fun e he=>?_,List.nodup_cons.2 ⟨fun hm=>?_,g5⟩,fun e he f' hf'=>?_⟩
    ·rcases List.mem_cons.1 he with rfl|he
     ·omega
     ·exact g4 e he
    ·refine g6 x hm f hg ?_;simp only[List.mem_append,List.mem_singleton];rcases hend with⟨h1,h2⟩|⟨h1,h2⟩
     ·exact⟨.inl (h1▸ha),.inr h2⟩
     ·exact⟨.inr h2,.inl (h1▸ha)⟩
    ·rcases List.mem_cons.1 he with rfl|he
     ·rw[hg] at hf';cases hf';rcases hend with⟨h1,h2⟩|⟨h1,h2⟩
      ·exact fun h=>e3 (h2▸h.2)
      ·exact fun h=>e3 (h2▸h.1)
     ·exact fun h=>g6 e he f' hf' ⟨List.mem_append_left _ h.1,List.mem_append_left _ h.2⟩
theorem sZ{n:af}{r:ar}(hE:∀f∈n.F,f.A<n.N.length/\f.B<n.N.length){l:List Int}(h:iy n r=some l):l.Nodup/\(∀v∈l,0<=v/\v<(n.N.length:Int))/\l.length=r.F.length+1/\(∀e∈r.F,0<=e/\e<(n.F.length:Int))/\r.F.Nodup:=by
 unfold iy at h;split at h
 ·cases h
 ·rename_i hc;simp only[Bool.or_eq_true,Bool.not_eq_true',decide_eq_true_eq,not_or,Bool.not_eq_false,cw] at hc;obtain⟨g1,g2,g3,g4,g5,_⟩:=tq hE _ _ _ _ h (by simp) (fun v hv=>by simp at hv;subst hv;omega) (by simp);exact⟨g1,g2,by rw[g3];simp;omega,g4,g5⟩
theorem kK:∀(m:Nat)(l:List Int),l.Nodup->(∀x∈l,0<=x/\x<(m:Int))->l.length<=m
 | 0, l, _, h => by
   cases l with
   |nil=>simp
   |cons x l=>have:=h x (by simp);omega
 | m + 1, l, hn, h => by
   by_cases hm:(m:Int)∈l
   ·have:=kK m (l.erase (m:Int)) (hn.erase _) (fun x hx=>by
     have h1:=(hn.mem_erase_iff).1 hx;have:=h x h1.2;have h3:=h1.1;omega)
    rw[List.length_erase_of_mem hm] at this;omega
   ·have:=kK m l hn (fun x hx=>by
     have:=h x hx;have:x≠(m:Int):=fun e=>hm (e▸hx);omega)
    omega
end Vs

namespace Vs
open Go
def gz(l:List Int)(p:Nat):Int:=(l[p]?).getD 0
theorem rl{l:List Int}{p:Nat}(h:p<l.length):l[p]?=some (gz l p):=by
 unfold gz;rw[List.getElem?_eq_getElem h];rfl
theorem jW{l:List Int}{p q:Nat}{x:Int}(h:p<l.length):gz (l.set p x) q=if q=p then x else gz l q:=by
 unfold gz;rw[List.getElem?_set];by_cases e:p=q
 ·rw[if_pos e,if_pos h,if_pos e.symm];rfl
 ·rw[if_neg e,if_neg (Ne.symm e)]
theorem Nm(x y:Int):IG x y=some (decide (x<y)):=by
 unfold IG wS;simp
theorem Dz{l:List Int}{i j:Nat}(hi:i<l.length)(hj:j<l.length):((l.set i (gz l j)).set j (gz l i)).Perm l:=by
 by_cases e:i=j
 ·subst e;have:(l.set i (gz l i)).set i (gz l i)=l:=by
   apply List.ext_getElem?;intro k;rw[List.getElem?_set,List.getElem?_set];by_cases h:i=k
   ·subst h;simp[hi];unfold gz;rw[List.getElem?_eq_getElem hi];rfl
   ·simp[h]
  rw[this]
 ·have g1:gz l j=l[j]:=by unfold gz;rw[List.getElem?_eq_getElem hj];rfl
  have g2:gz l i=l[i]:=by unfold gz;rw[List.getElem?_eq_getElem hi];rfl
  rw[g1,g2];exact List.set_set_perm hi hj
def SrtI(i j:Nat)(l:List Int):Prop:=(∀p q,p<q->q<=i->p≠j->q≠j->gz l p<=gz l q)/\∀q,j<q->q<=i->gz l j<=gz l q
def EJ(n:Nat)(l:List Int):Prop:=∀p q,p<q->q<n->gz l p<=gz l q
theorem LU(n i:Nat)(l0:List Int)(hl:l0.length=n)(hn:n<=1048576)(hi:i<n)(hs:EJ i l0):
 ∃l,bv (M_p 0) N0 ((i:Int),l0)=some l/\l.Perm l0/\EJ (i+1) l:=by
 refine eh (f:=M_p 0) (fun s=>∃j:Nat,s.1=j/\j<=i/\s.2.length=n/\s.2.Perm l0/\SrtI i j s.2) (fun s=>s.1.toNat) (fun l=>l.Perm l0/\EJ (i+1) l) (fun s hI=>?_) N0 ((i:Int),l0)
  ⟨i,rfl,Nat.le_refl _,hl,List.Perm.refl _,fun p q h1 h2 h3 h4=>hs p q h1 (by omega),fun q h1 h2=>by omega⟩ (gH (by simp;omega))
 obtain⟨j',l⟩:=s;obtain⟨j,rfl,hj,hll,hp,hA,hB⟩:=hI;simp only at hll hp hA hB;by_cases h0:0<j
 ·have e1:decide ((0:Int)<(j:Int))=true:=decide_eq_true (by omega);have ew:IntKind.wrap .i64 ((j:Int)-1)=((j-1:Nat):Int):=by rw[aG (by omega) (by omega)];omega
  have g1:l[j]?=some (gz l j):=rl (by omega);have g2:l[j-1]?=some (gz l (j-1)):=rl (by omega);have d1:grd (0<=(j:Int)/\(j:Int)<(l.length:Int))=some ():=bq (by omega);have d2:grd (0<=((j-1:Nat):Int)/\((j-1:Nat):Int)<(l.length:Int))=some ():=bq (by omega);by_cases hlt:gz l j<gz l (j-1)
  ·left;have e2:decide (gz l j<gz l (j-1))=true:=decide_eq_true hlt;have g3:(l.set j (gz l (j-1)))[j-1]?=some (gz l (j-1)):=by
    rw[List.getElem?_set,if_neg (by omega)];exact g2
   refine⟨(((j-1:Nat):Int),(l.set j (gz l (j-1))).set (j-1) (gz l j)),?_,⟨j-1,rfl,by omega,by simp[hll],?_,?_,?_⟩,?_⟩
   ·simp only[M_p,e1,cond_true,Int.toNat_natCast,ew,d1,d2,g1,g2,Nm,e2,Option.bind_some,bnd,g3]
   ·exact(Dz (by omega) (by omega)).trans hp
   ·intro p q h1 h2 h3 h4;simp only at*
    rw[jW (by simp;omega),jW (by omega),jW (by simp;omega),jW (by omega),if_neg h3,if_neg h4];by_cases c1:p=j
    ·rw[if_pos c1,if_neg (by omega)];exact hA (j-1) q (by omega) h2 (by omega) (by omega)
    ·rw[if_neg c1];by_cases c2:q=j
     ·rw[if_pos c2];exact hA p (j-1) (by omega) (by omega) c1 (by omega)
     ·rw[if_neg c2];exact hA p q h1 h2 c1 c2
   ·intro q h1 h2;simp only at*
    rw[jW (by simp;omega),if_pos rfl,jW (by simp;omega),if_neg (by omega),jW (by omega)];by_cases c2:q=j
    ·rw[if_pos c2];omega
    ·rw[if_neg c2];exact hB q (by omega) h2
   ·simp only[Int.toNat_natCast];omega
  ·right;have e2:decide (gz l j<gz l (j-1))=false:=decide_eq_false hlt;refine⟨l,?_,hp,?_⟩
   ·simp only[M_p,e1,cond_true,Int.toNat_natCast,ew,d1,d2,g1,g2,Option.bind_some,Nm,e2,cond_false]
   ·intro p q h1 h2;by_cases c1:p=j
    ·rw[c1];exact hB q (by omega) (by omega)
    ·by_cases c2:q=j
     ·rw[c2];by_cases c3:p=j-1
      ·rw[c3];omega
      ·have:=hA p (j-1) (by omega) (by omega) c1 (by omega);omega
     ·exact hA p q h1 (by omega) c1 c2
 ·right;have e1:decide ((0:Int)<(j:Int))=false:=decide_eq_false (by omega);refine⟨l,by simp only[M_p,e1,cond_false,Option.bind_some],hp,fun p q h1 h2=>?_⟩;by_cases c1:p=j
  ·rw[c1];exact hB q (by omega) (by omega)
  ·exact hA p q h1 (by omega) c1 (by omega)
theorem RC(n:Nat)(xs:List Int)(hl:xs.length=n)(hn:n<=1048576):∃l,Li 0 (n:Int) xs=some l/\l.Perm xs/\EJ n l:=by
 unfold Li;obtain⟨l,h1,h2,h3⟩:=eh (f:=M_y 0 (n:Int)) (fun s=>∃i:Nat,s.1=i/\1<=i/\i<=n+1/\s.2.length=n/\s.2.Perm xs/\EJ i s.2) (fun s=>n+1-s.1.toNat) (fun l=>l.Perm xs/\EJ n l) (fun s hI=>by
  obtain⟨i',l⟩:=s;obtain⟨i,rfl,h0,hi,hll,hp,hs⟩:=hI;simp only at hll hp hs;by_cases h:i<n
  ·left;have e1:decide ((i:Int)<(n:Int))=true:=decide_eq_true (by omega);obtain⟨l',g1,g2,g3⟩:=LU n i l hll hn h hs;refine⟨(((i+1:Nat):Int),l'),?_,⟨i+1,rfl,by omega,by omega,by rw[g2.length_eq];exact hll,g2.trans hp,g3⟩,by simp only[Int.toNat_natCast];omega⟩;simp only[M_y,e1,cond_true,g1,Option.bind_some];rw[aG (by omega) (by omega)];rfl
  ·right;have e1:decide ((i:Int)<(n:Int))=false:=decide_eq_false (by omega);exact⟨l,by simp only[M_y,e1,cond_false],hp,fun p q h1 h2=>hs p q h1 (by omega)⟩) N0 (((1:Nat):Int),xs) ⟨1,rfl,by omega,by omega,hl,List.Perm.refl _,fun p q h1 h2=>by omega⟩ (gH (by simp;omega))
 refine⟨l,?_,h2,h3⟩;have e:IntKind.wrap .i64 ((0:Int)+1)=((1:Nat):Int):=by rw[aG (by omega) (by omega)];rfl
 rw[e,h1];rfl
theorem CM:∀n:Fin 13,(JU (IntKind.wrap .u64 (n.val:Int))).isSome=true:=by decide+kernel
theorem RF(xs:List Int)(h:xs.length<=12):∃l,HN xs=some l/\l.Perm xs/\l.Pairwise (·<=·):=by
 obtain⟨l,h1,h2,h3⟩:=RC xs.length xs rfl (by omega);refine⟨l,?_,h2,?_⟩
 ·have hb:=CM ⟨xs.length,by omega⟩;simp only at hb;unfold HN;cases hx:JU (IntKind.wrap .u64 (xs.length:Int)) with
  |none=>rw[hx] at hb;cases hb
  | some r =>
    simp only[Option.bind_some];unfold QK;have hN:N0=(N0-1)+1:=by unfold N0;omega
    rw[hN,bv];have e1:decide (IntKind.wrap .i64 ((xs.length:Int)-0)<=12)=true:=by rw[aG (by omega) (by omega)];exact decide_eq_true (by omega)
    simp only[PO,e1,cond_true,h1,Option.bind_some]
 ·rw[List.pairwise_iff_getElem];intro i j hi hj hij;have:=h3 i j hij (by rw[<-h2.length_eq];exact hj);unfold gz at this;rw[List.getElem?_eq_getElem hi,List.getElem?_eq_getElem hj] at this;exact this
end Vs

namespace Vs
open Go
def Ra(a bW:List Int):List Int:=a.filter fun x=>decide (x∈bW)
theorem pP(p:Int->Bool):∀(xs:List Int)(i:Nat)(l:List Int),bX (fun(_:Nat)(x:Int)(l:List Int)=>(.inl (if p x then l++[x] else l):List Int⊕List Int)) (fun l=>l) i xs l=l++xs.filter p
 |[],_,l=>by simp[bX]
 | x :: xs, i, l => by
   simp only[bX];rw[pP p xs (i+1)];by_cases h:p x=true
   ·simp[h]
   ·simp[h]
theorem WX(a bW:List Int)(ha:a.length<=1048576)(hg:bW.length<=1048576):bv (Ab a bW) N0 (0,[])=some (Ra a bW):=by
 have key:=dL (f:=Ab a bW) a (fun i(l:List Int)=>((i:Int),l)) (fun _ x l=>.inl (if decide (x∈bW) then l++[x] else l)) (fun l=>l) (fun i l=>l.length<=i) (fun i l x hx hI=>by
  have hlt:=(List.getElem?_eq_some_iff.1 hx).1;have h1:decide ((i:Int)<a.length)=true:=by simp[hlt]
  refine .inl ⟨_,rfl,by split<;>(try simp only[List.length_append,List.length_cons,List.length_nil])<;>omega,?_⟩;simp only[Ab,h1,cond_true,aU,hx,Option.bind_some,Bk bW x hg,bnd];rw[aG (n:=(i:Int)+1) (by omega) (by omega)];by_cases h:x∈bW
  ·rw[decide_eq_true h,cond_true,bq (by omega),if_pos rfl];rfl
  ·rw[decide_eq_false h,cond_false,if_neg (by simp)];rfl) (fun l _=>by simp[Ab]) [] (Nat.le_refl 0) (by omega)
 have e0:((0:Nat):Int)=0:=rfl;simp only[e0] at key;rw[key,pP];rfl
def ddp(ys:List Int):Nat->List Int
 |0=>[]
 |j+1=>if 0<j/\ys[j]?=ys[j-1]? then ddp ys j else ddp ys j++(ys[j]?).toList
theorem qd(ys:List Int):∀k,(∀i,1<=i->i<k->ys[i]?≠ys[i-1]?)->ddp ys k=ys.take k
 |0,_=>by simp[ddp]
 | k + 1, h => by
   unfold ddp;rw[if_neg (fun e=>h k (by omega) (by omega) e.2),qd ys k (fun i h1 h2=>h i h1 (by omega)),List.take_add_one]
theorem Fb{l:List Int}{k:Nat}(y:Int)(h:k<l.length):(l.set k y).take (k+1)=l.take k++[y]:=by
 rw[List.take_add_one,List.getElem?_set_self h,List.take_set_of_le (Nat.le_refl k)];rfl
theorem pF{ys:List Int}(hs:ys.Pairwise (·<=·)):∀j,j<=ys.length->(ddp ys j).Pairwise (·<·)/\(∀x∈ddp ys j,∀y,ys[j-1]?=some y->x<=y)/\∀x,x∈ddp ys j↔x∈ys.take j
 |0,_=>by simp[ddp]
 | j + 1, h => by
   obtain⟨h1,h2,h3⟩:=pF hs j (by omega);have hy:ys[j]?=some (ys[j]'(by omega)):=List.getElem?_eq_getElem (by omega);generalize ys[j]'(by omega)=y at hy;unfold ddp;rw[List.take_add_one,hy];by_cases c:0<j/\some y=ys[j-1]?
   ·rw[if_pos c];refine⟨h1,fun x hx z hz=>?_,fun x=>?_⟩
    ·simp only[Nat.add_sub_cancel,hy,Option.some.injEq] at hz;subst hz;exact h2 x hx y c.2.symm
    ·have hm:y∈ys.take j:=by
      rw[List.mem_take_iff_getElem];obtain⟨q1,q2⟩:=List.getElem?_eq_some_iff.1 c.2.symm;exact⟨j-1,by omega,q2⟩
     simp only[Option.toList_some,List.mem_append,List.mem_singleton,h3];exact⟨.inl,fun q=>q.elim id fun e=>e▸hm⟩
   ·rw[if_neg c];have hlt:∀x∈ddp ys j,x<y:=fun x hx=>by
     by_cases hj:0<j
     ·have hz:ys[j-1]?=some (ys[j-1]'(by omega)):=List.getElem?_eq_getElem (by omega);have:=h2 x hx _ hz;have h5:ys[j-1]'(by omega)<=ys[j]'(by omega):=List.pairwise_iff_getElem.1 hs (j-1) j (by omega) (by omega) (by omega);have h6:ys[j]'(by omega)=y:=(List.getElem?_eq_some_iff.1 hy).2;have h7:ys[j-1]'(by omega)≠y:=fun e=>c ⟨hj,by rw[hz,e]⟩;omega
     ·have:j=0:=by omega
      subst this;simp[ddp] at hx
    refine⟨?_,fun x hx z hz=>?_,fun x=>?_⟩
    ·rw[List.pairwise_append];exact⟨h1,by simp,fun a ha b hb=>by simp at hb;subst hb;exact hlt a ha⟩
    ·simp only[Nat.add_sub_cancel,hy,Option.some.injEq] at hz;subst hz;simp only[Option.toList_some,List.mem_append,List.mem_singleton] at hx;rcases hx with hx|hx
     ·have:=hlt x hx;omega
     ·omega
    ·simp only[List.mem_append,h3]
theorem NT(ys:List Int)(hl:ys.length<=1048576)(k0:Nat)(h0:1<=k0)(hk:k0<ys.length)(hd:ddp ys (k0+1)=ys.take k0):
 ∃(k:Nat)(l:List Int),bv (M_v 0 ys.length (k0:Int)) N0 ((k0:Int),1,ys)=some ((k:Int),l)/\l.length=ys.length/\k<=ys.length/\l.take k=ddp ys ys.length:=by
 obtain⟨o,o1,o2⟩:=eh (f:=M_v 0 ys.length (k0:Int)) (fun s=>∃(k k2:Nat)(l:List Int),s=((k:Int),(k2:Int),l)/\1<=k2/\k0+k2<=ys.length/\l.length=ys.length/\k+1<=k0+k2/\(∀p,k0+k2<=p+1->l[p]?=ys[p]?)/\l.take k=ddp ys (k0+k2))
  (fun s=>ys.length-s.2.1.toNat) (fun o=>∃(k:Nat)(l:List Int),o=((k:Int),l)/\l.length=ys.length/\k<=ys.length/\l.take k=ddp ys ys.length) (fun s hI=>by
  obtain⟨k,k2,l,rfl,i1,i2,i3,i4,i5,i6⟩:=hI;by_cases hc:k0+k2<ys.length
  ·left;have e1:decide ((k2:Int)<((ys.length-k0:Nat):Int))=true:=decide_eq_true (by omega);have ew:IntKind.wrap .i64 ((k2:Int)-1)=((k2-1:Nat):Int):=by rw[aG (by omega) (by omega)];omega
   have g1:l[0+k0+k2]?=some (ys[k0+k2]'hc):=by rw[Nat.zero_add,i5 _ (by omega)];exact List.getElem?_eq_getElem hc
   have g2:l[0+k0+(k2-1)]?=some (ys[k0+k2-1]'(by omega)):=by
    rw[show 0+k0+(k2-1)=k0+k2-1 by omega,i5 _ (by omega)];exact List.getElem?_eq_getElem (by omega)
   have g3:l[0+k]?=some (l[k]'(by omega)):=by rw[Nat.zero_add];exact List.getElem?_eq_getElem (by omega)
   have hddp:ddp ys (k0+k2+1)=if ys[k0+k2]'hc=ys[k0+k2-1]'(by omega) then ddp ys (k0+k2) else ddp ys (k0+k2)++[ys[k0+k2]'hc]:=by
    rw[ddp,List.getElem?_eq_getElem hc,List.getElem?_eq_getElem (show k0+k2-1<ys.length by omega)];by_cases e:ys[k0+k2]'hc=ys[k0+k2-1]'(by omega)
    ·rw[if_pos ⟨by omega,by rw[e]⟩,if_pos e]
    ·rw[if_neg (fun q=>e (Option.some.inj q.2)),if_neg e];rfl
   simp only[M_v,Int.toNat_natCast,e1,cond_true,ew,g1,g2,g3];rw[bq (by omega),bq (by omega),bq (by omega)];simp only[Option.bind_some,bnd];rw[aG (n:=(k:Int)+1) (by omega) (by omega),aG (n:=(k2:Int)+1) (by omega) (by omega)];by_cases e:ys[k0+k2]'hc=ys[k0+k2-1]'(by omega)
   ·rw[if_pos e] at hddp;rw[show(ys[k0+k2]'hc !=ys[k0+k2-1]'(by omega))=false by simpa using e,cond_false];exact⟨_,rfl,⟨k,k2+1,l,by simp,by omega,by omega,i3,by omega,fun p hp=>i5 p (by omega),by rw[show k0+(k2+1)=k0+k2+1 by omega,hddp];exact i6⟩,by simp only[];omega⟩
   ·rw[if_neg e] at hddp;rw[show(ys[k0+k2]'hc !=ys[k0+k2-1]'(by omega))=true by simpa using e,cond_true];refine⟨_,rfl,⟨k+1,k2+1,l.set k (ys[k0+k2]'hc),by simp,by omega,by omega,by simpa using i3,by omega,fun p hp=>?_,?_⟩,by simp only[];omega⟩
    ·rw[List.getElem?_set_ne (by omega)];exact i5 p (by omega)
    ·rw[show k0+(k2+1)=k0+k2+1 by omega,hddp,Fb _ (by omega),i6]
  ·right;have e1:decide ((k2:Int)<((ys.length-k0:Nat):Int))=false:=decide_eq_false (by omega);refine⟨_,by simp only[M_v,Int.toNat_natCast,e1,cond_false],k,l,rfl,i3,by omega,?_⟩;rw[i6,show k0+k2=ys.length by omega]) N0 ((k0:Int),((1:Nat):Int),ys) ⟨k0,1,ys,rfl,by omega,by omega,rfl,by omega,fun p _=>rfl,hd.symm⟩ (gH (by simp;omega))
 obtain⟨k,l,rfl,q1,q2,q3⟩:=o2;exact⟨k,l,o1,q1,q2,q3⟩
theorem Ce(ys:List Int)(hl:ys.length<=1048576):∃k l,Iq 0 ys.length ys=some (0,k,l)/\fK l 0 k=ddp ys ys.length:=by
 unfold Iq;by_cases h:(ys.length:Int)<2
 ·rw[decide_eq_true h,cond_true];refine⟨_,_,rfl,?_⟩;rw[ja,qd ys _ (fun i h1 h2=>by omega),List.take_length]
 rw[decide_eq_false h,cond_false];obtain⟨o,o1,o2⟩:=eh (f:=FE 0 ys.length ys) (fun s=>∃i:Nat,s=i/\1<=i/\i<=ys.length/\ddp ys i=ys.take i) (fun s=>ys.length-s.toNat)
  (fun o=>(o=.inl ()/\ddp ys ys.length=ys)\/∃k l,o=.inr (0,k,l)/\fK l 0 k=ddp ys ys.length) (fun s hI=>by
  obtain⟨i,rfl,h1,h2,h3⟩:=hI;by_cases hi:i<ys.length
  ·have e1:decide ((i:Int)<(ys.length:Int))=true:=decide_eq_true (by omega);have ew:IntKind.wrap .i64 ((i:Int)-1)=((i-1:Nat):Int):=by rw[aG (by omega) (by omega)];omega
   have g1:ys[0+i]?=some (ys[i]'hi):=by rw[Nat.zero_add];exact List.getElem?_eq_getElem hi
   have g2:ys[0+(i-1)]?=some (ys[i-1]'(by omega)):=by rw[Nat.zero_add];exact List.getElem?_eq_getElem (by omega)
   simp only[FE,e1,cond_true,Int.toNat_natCast,g1,ew,g2];rw[bq (by omega),bq (by omega)];simp only[Option.bind_some];by_cases e:ys[i]'hi=ys[i-1]'(by omega)
   ·right;have hd:ddp ys (i+1)=ys.take i:=by
     rw[ddp,if_pos ⟨by omega,by rw[List.getElem?_eq_getElem hi,List.getElem?_eq_getElem (show i-1<ys.length by omega),e]⟩,h3]
    obtain⟨k,l,k1,k2,k3,k4⟩:=NT ys hl i h1 hi hd;rw[show(ys[i]'hi==ys[i-1]'(by omega))=true by simpa using e,cond_true];simp only[Int.toNat_natCast,and_true,true_and];rw[bq (by omega)];simp only[Option.bind_some,k1,bnd,Int.toNat_natCast,and_true,true_and];rw[bq (by omega)];simp only[Option.bind_some];refine⟨_,rfl,.inr ⟨k,_,rfl,?_⟩⟩;rw[<-k4,fL,List.drop_zero];unfold ec;rw[if_pos (by simp;omega),Nat.zero_add];rw[List.append_assoc,List.take_append_of_le_length (by simp;omega),List.take_take,Nat.min_self]
   ·left;rw[show(ys[i]'hi==ys[i-1]'(by omega))=false by simpa using e,cond_false,aG (by omega) (by omega)];refine⟨_,rfl,⟨i+1,rfl,by omega,by omega,?_⟩,by omega⟩;rw[ddp,if_neg (fun q=>e (by
     have:=q.2;rw[List.getElem?_eq_getElem hi,List.getElem?_eq_getElem (show i-1<ys.length by omega)] at this;exact Option.some.inj this)),h3,List.take_add_one]
  ·right;have e1:decide ((i:Int)<(ys.length:Int))=false:=decide_eq_false (by omega);refine⟨_,by simp only[FE,e1,cond_false],.inl ⟨rfl,?_⟩⟩;rw[show ys.length=i by omega,h3,show i=ys.length by omega,List.take_length]) N0 ((1:Nat):Int) ⟨1,rfl,by omega,by omega,by
    rw[qd ys 1 (fun i h1 h2=>by omega)]⟩ (gH (by simp;omega))
 have e1:((1:Nat):Int)=1:=rfl;rw[e1] at o1;rw[o1];rcases o2 with⟨rfl,q⟩|⟨k,l,rfl,q⟩
 ·exact⟨_,_,rfl,by rw[ja,q]⟩
 ·exact⟨k,l,rfl,q⟩
theorem ni(a bW:List Int)(ha:a.length<=12)(hg:bW.length<=1048576):∃l,vP a bW=some l/\l.Pairwise (·<·)/\∀x,x∈l↔x∈a/\x∈bW:=by
 unfold vP;have hc:(Ra a bW).length<=a.length:=List.length_filter_le ..;rw[WX a bW (by omega) hg];simp only[Option.bind_some];obtain⟨l,l1,l2,l3⟩:=RF (Ra a bW) (by omega);have hln:=l2.length_eq;obtain⟨k,l',k1,k2⟩:=Ce l (by omega);rw[l1];simp only[Option.bind_some];rw[<-hln,k1];simp only[Option.bind_some,bnd,k2];obtain⟨s1,_,s3⟩:=pF l3 l.length (Nat.le_refl _);refine⟨_,rfl,s1,fun x=>?_⟩;rw[s3,List.take_length,l2.mem_iff];simp[Ra]
def gS(a bW:List Int):Bool:=!a.any fun x=>decide (x∈bW)
theorem AZ{a bW l:List Int}(h:∀x,x∈l↔x∈a/\x∈bW):((l.length:Int)==0)=gS a bW:=by
 rw[Bool.eq_iff_iff];simp only[beq_iff_eq,gS,Bool.not_eq_true',List.any_eq_false,decide_eq_true_eq];constructor
 ·intro e x hx hg;have:=(h x).2 ⟨hx,hg⟩;have h0:l=[]:=List.length_eq_zero_iff.1 (by omega);rw[h0] at this;cases this
 ·intro hn;cases l with
  |nil=>rfl
  |cons x l=>exact(hn x ((h x).1 (by simp)).1 ((h x).1 (by simp)).2).elim
theorem zn{a bW l:List Int}(h:∀x,x∈l↔x∈a/\x∈bW):decide ((0:Int)<(l.length:Int))=!gS a bW:=by
 rw[<-AZ h,Bool.eq_iff_iff];simp only[decide_eq_true_eq,Bool.not_eq_true',beq_eq_false_iff_ne];omega
end Vs

namespace Vs
open Go
def na(b:bd):Bool:=wi b.N 0 23&&wi b.F 1 (24-b.N)
theorem GS(b:bd):HM b=some (na b):=by
 unfold HM na;simp only[iv,Option.bind_some];rcases bt (wi b.N 0 23) with e|e
 ·have:=cw.1 e;rw[e,cond_true,aG (by omega) (by omega),Bool.true_and]
 ·rw[e];rfl
theorem qY(b:bd):Im b=some (na b):=by
 unfold Im na;simp only[eF,Option.bind_some];by_cases h1:0<=b.N
 ·rw[decide_eq_true h1,cond_true];rcases bt (wi b.F 1 24) with e|e
  ·have:=cw.1 e;rw[e,cond_true,aG (by omega) (by omega)];congr 1;rw[Bool.eq_iff_iff];simp only[decide_eq_true_eq,Bool.and_eq_true,cw];omega
  ·rw[e,cond_false];congr 1;symm;rw[Bool.eq_false_iff];intro h;simp only[Bool.and_eq_true,cw] at h;have:=pX.1 e;omega
 ·rw[decide_eq_false h1,cond_false];congr 1;symm;rw[Bool.eq_false_iff];intro h;simp only[Bool.and_eq_true,cw] at h;omega
def jI(b:bd):Prop:=(0<=b.N/\b.N<=24)/\0<=b.F/\b.F<=24
theorem VD{b:bd}(h:na b=true):jI b:=by
 unfold na at h;simp only[Bool.and_eq_true,cw] at h;unfold jI;omega
def dG(b:bd):Int:=IntKind.wrap .i64 ((IntKind.wrap .i64 ((IntKind.wrap .i64 (1*2^(min (Int.toNat b.F) (IntKind.bits .i64))))-1))*2^(min (Int.toNat b.N) (IntKind.bits .i64)))
theorem mU{b:bd}(h:jI b):vi b=some (dG b):=by
 unfold vi;rw[bq h.2.1];simp only[Option.bind_some];rw[bq h.1.1];rfl
theorem kE{b:bd}(h:jI b):sj b=some (dG b):=by
 unfold sj;have h1:=h.1;have h2:=h.2;rw[AP (n:=b.F) (by omega) (by omega),AP (n:=b.N) (by omega) (by omega),bq h2.1];simp only[Option.bind_some];rw[bq h1.1];rfl
theorem and0(y:Int):bits .and .i64 0 y=0:=by
 show IntKind.wrap .i64 ((BitVec.ofInt 64 0 &&& BitVec.ofInt 64 y).toNat:Int)=0;have:BitVec.ofInt 64 0=0#64:=rfl;rw[this,BitVec.zero_and];rfl
theorem ne(r:ar)(g:List Int)(hr:r.F.length<=1048576)(hg:g.length<=1048576):vU r g=some (!gS r.F g):=by
 unfold vU;rw[kx (f:=Ey r g) r.F (fun x=>decide (x∈g)) (.inr true) (.inl ()) (fun i y hy=>by
  have hlt:=(List.getElem?_eq_some_iff.1 hy).1;have h1:decide ((i:Int)<r.F.length)=true:=by simp[hlt]
  simp only[Ey,h1,cond_true,aU,hy,Option.bind_some,oV g y hg,<-uN];rw[aG (by omega) (by omega)];cases decide (y∈g)<;>rfl) (by simp[Ey]) (by omega)]
 unfold gS;rw[Bool.not_not];cases(r.F.any fun x=>decide (x∈g))<;>rfl
def dd(a:ar)(x:bd)(b:ar)(y:bd):Bool:=(bits .and .i64 (dG x) (dG y) !=0)&&!gS a.F b.F
end Vs

namespace Vs
open Go
def fA(n:af)(r:ar):Int:=match iy n r with|some l=>gz l (l.length-1)|none=>0
structure IJ(n:af)(r:ar):Prop where
 len:r.F.length<=12
 fib:∀x∈r.F,fibI n x
 nod:r.F.Nodup
theorem uy{n:af}(h:bU n=true){r:ar}{l:List Int}(hl:iy n r=some l):IJ n r/\l.length=r.F.length+1:=by
 obtain⟨g1,g2,g3,g4,g5⟩:=sZ (wa h) hl;have:=kK n.N.length l g1 g2;have:=cY h;exact⟨⟨by omega,g4,g5⟩,g3⟩
theorem tZ{n:af}{r:ar}{l:List Int}(h:bU n=true)(hr:r.F.length<=1048576)(hl:iy n r=some l):yG n r=some (fA n r):=by
 have hb:=cY h;obtain⟨o,o1,o2⟩:=xh n r (by omega) (by omega) hr;obtain rfl:=o2 l hl;obtain⟨hi,hlen⟩:=uy h hl;have:=hi.len;unfold yG Ri fA;rw[o1,hl];simp only[Option.bind_some];have e:IntKind.wrap .i64 ((o.length:Int)-1)=((o.length-1:Nat):Int):=by rw[aG (by omega) (by omega)];omega
 rw[e,bq (by omega)];simp only[Option.bind_some,Int.toNat_natCast];rw[rl (by omega)];rfl
end Vs

namespace Vs
open Go
def jq(l:List Int)(N:Int)(i:Nat)(k:Int):Bool:=!wi k 0 (N-1)||(decide (0<i)&&match l[i-1]? with|some p=>decide (k<=p)|none=>false)
def rq(l:List Int)(N:Int):Bool:=!eX (jq l N) l
theorem SE(l:List Int)(N:Nat)(hN:N<=1048576)(hl:l.length<=1048576):Ol l (N:Int)=some (rq l N):=by
 unfold Ol rq;rw[en (f:=CV l (N:Int)) l (jq l N) (.inr false) (.inl ()) (fun i x hx hprev=>by
  have hlt:=(List.getElem?_eq_some_iff.1 hx).1;have h1:decide ((i:Int)<l.length)=true:=by simp[hlt]
  simp only[CV,h1,cond_true,aU,hx,Option.bind_some,eF];rw[aG (n:=(N:Int)-1) (by omega) (by omega),aG (n:=(i:Int)+1) (by omega) (by omega)];unfold jq;by_cases h0:0<i
  ·have e0:decide ((0:Int)<(i:Int))=true:=decide_eq_true (by omega);have ew:IntKind.wrap .i64 ((i:Int)-1)=((i-1:Nat):Int):=by rw[aG (by omega) (by omega)];omega
   have hg:l[i-1]?=some (l[i-1]'(by omega)):=List.getElem?_eq_getElem (by omega);rw[e0,ew,aU,hg,decide_eq_true h0];simp only[cond_true,Option.bind_some,Bool.true_and];cases wi x 0 ((N:Int)-1)<;>cases decide (x<=l[i-1]'(by omega))<;>rfl
  ·have e0:decide ((0:Int)<(i:Int))=false:=decide_eq_false (by omega);rw[e0,decide_eq_false h0];cases wi x 0 ((N:Int)-1)<;>rfl) (by simp[CV]) (by omega)]
 cases eX (jq l N) l<;>rfl
theorem Ak(l:List Int)(N:Int)(hl:l.length<=1048576):Ib l 0 (N-1)=some (rq l N):=by
 unfold Ib rq;rw[en (f:=Fv l 0 (N-1)) l (jq l N) (.inr false) (.inl ()) (fun i x hx hprev=>by
  have hlt:=(List.getElem?_eq_some_iff.1 hx).1;have h1:decide ((i:Int)<l.length)=true:=by simp[hlt]
  simp only[Fv,h1,cond_true,aU,hx,Option.bind_some,iv];rw[aG (n:=(i:Int)+1) (by omega) (by omega)];unfold jq;by_cases h0:0<i
  ·have e0:decide ((0:Int)<(i:Int))=true:=decide_eq_true (by omega);have ew:IntKind.wrap .i64 ((i:Int)-1)=((i-1:Nat):Int):=by rw[aG (by omega) (by omega)];omega
   have hg:l[i-1]?=some (l[i-1]'(by omega)):=List.getElem?_eq_getElem (by omega);rw[e0,ew,aU,hg,decide_eq_true h0];simp only[cond_true,Option.bind_some,Bool.true_and];cases wi x 0 (N-1)<;>cases decide (x<=l[i-1]'(by omega))<;>rfl
  ·have e0:decide ((0:Int)<(i:Int))=false:=decide_eq_false (by omega);rw[e0,decide_eq_false h0];cases wi x 0 (N-1)<;>rfl) (by simp[Fv]) (by omega)]
 cases eX (jq l N) l<;>rfl
theorem Bp{l:List Int}(h:∀(i:Nat)(a b:Int),l[i]?=some a->l[i+1]?=some b->a<b):l.Pairwise (·<·):=by
 rw[List.pairwise_iff_getElem];intro i j hi hj hij;obtain⟨d,rfl⟩:∃d,j=i+1+d:=⟨j-i-1,by omega⟩;induction d with
 |zero=>exact h i _ _ (List.getElem?_eq_getElem hi) (List.getElem?_eq_getElem hj)
 | succ d ih =>
   have h1:=ih (by omega) (by omega);have h2:=h (i+1+d) _ _ (List.getElem?_eq_getElem (by omega)) (List.getElem?_eq_getElem (by omega));have h3:l[i+1+(d+1)]'hj=l[i+1+d+1]'(by omega):=rfl;omega
theorem UR{l:List Int}{N:Int}(h:rq l N=true):l.Pairwise (·<·)/\∀x∈l,0<=x/\x<N:=by
 unfold rq at h;have h2:=df.1 (by simpa using h);refine⟨Bp fun i a b ha hb=>?_,fun x hx=>?_⟩
 ·have:=h2 (i+1) b hb;unfold jq at this;simp only[Nat.add_sub_cancel,ha,Bool.or_eq_false_iff,Bool.and_eq_false_iff,decide_eq_false_iff_not] at this;omega
 ·obtain⟨i,hi⟩:=List.getElem?_of_mem hx;have:=h2 i x hi;unfold jq at this;simp only[Bool.or_eq_false_iff,Bool.not_eq_false',cw] at this;omega
theorem ph{l:List Int}(h:l.Pairwise (·<·)):l.Nodup:=h.imp fun h=>by omega
theorem QT{l:List Int}{N:Nat}(h:rq l N=true):l.length<=N:=by
 obtain⟨h1,h2⟩:=UR h;exact kK N l (ph h1) h2
end Vs

namespace Vs
open Go
def ed(n:af)(x:aj):Bool:=wi x.Id 1 999&&(iy n x.F).isSome&&na x.N
structure iU(n:af)(x:aj):Prop where
 r:IJ n x.F
 b:jI x.N
theorem gP{n:af}{x:aj}(h:bU n=true)(hx:ed n x=true):iU n x:=by
 unfold ed at hx;simp only[Bool.and_eq_true] at hx;obtain⟨⟨_,h2⟩,h3⟩:=hx;obtain⟨l,hl⟩:=Option.isSome_iff_exists.1 h2;exact⟨(uy h hl).1,VD h3⟩
theorem Fp(n:af)(x:aj)(h:bU n=true)(hr:x.F.F.length<=1048576):GX n x=some (ed n x):=by
 have hb:=cY h;unfold GX ed;simp only[eF,qY,sX n x.F (by omega) (by omega) hr,Option.bind_some];cases iy n x.F with
 |none=>simp
 |some l=>cases wi x.Id 1 999<;>cases na x.N<;>rfl
theorem Ed(n:af)(x:aj)(h:bU n=true)(hz:aX n<=1048576)(hr:x.F.F.length<=1048576):NJ n x=some (ed n x):=by
 unfold NJ ed;have hg:DS n x.F=some (iy n x.F).isSome:=by
  rw[JY n x.F hz hr];unfold Ma;rw[h,Bool.true_and]
 simp only[iv,GS,hg,Option.bind_some];cases wi x.Id 1 999<;>cases(iy n x.F).isSome<;>rfl
theorem tn(n:af)(a b:aj)(ha:iU n a)(hb:iU n b):Fn a b=some (dd a.F a.N b.F b.N):=by
 have h1:=ha.r.len;have h2:=hb.r.len;unfold Fn dd;obtain⟨l,l1,_,l3⟩:=ni a.F.F b.F.F h1 (by omega);simp only[mU ha.b,mU hb.b,Option.bind_some,l1,zn l3];cases bits .and .i64 (dG a.N) (dG b.N) !=0<;>rfl
theorem vY(n:af)(a b:aj)(ha:iU n a)(hb:iU n b):IX a b=some (dd a.F a.N b.F b.N):=by
 have h1:=ha.r.len;have h2:=hb.r.len;unfold IX dd;simp only[ne a.F b.F.F (by omega) (by omega),kE ha.b,kE hb.b,Option.bind_some];cases gS a.F.F b.F.F<;>simp
theorem vu{list:List aj}(h:bc list<=1048576){s:aj}(hs:s∈list):s.F.F.length<=1048576:=by
 obtain⟨i,hi⟩:=List.getElem?_of_mem hs;have h2:s.F.F.length<=(list.map fun x=>cn x).sum:=lY (fun x=>cn x) hi;unfold bc at h;omega
theorem wM{list:List aj}(h:bc list<=1048576):list.length<=1048576:=by unfold bc at h;omega
def gJ(n:af)(list:List aj)(i:Nat)(s:aj):Bool:=
 !ed n s||(decide (0<i)&&match list[i-1]? with|some g=>decide (s.Id<=g.Id)|none=>false)||(list.take i).any fun o=>dd o.F o.N s.F s.N
def iu(p:aK):Bool:=bU p.F&&decide (p.N.length<=12)&&!eX (gJ p.F p.N) p.N
theorem Ox(xs:List aj)(f:aj->Option Bool)(p:aj->Bool)(hf:∀x∈xs,f x=some (p x))(hl:xs.length<=1048576):tF xs f=some (xs.any p):=by
 unfold tF vI;rw[cy (f:=uH xs f) xs (fun _ x=>p x) (fun i _=>(i:Int)) () (fun i x hx _=>by
  have hlt:=(List.getElem?_eq_some_iff.1 hx).1;have h1:decide ((i:Int)<xs.length)=true:=by simp[hlt]
  simp only[uH,h1,cond_true,aU,hx,hf x (List.mem_of_getElem? hx),Option.bind_some];rw[aG (by omega) (by omega)];cases p x<;>rfl) (by simp[uH]) (by omega)]
 rw[<-qH];cases e:cL (fun _ x=>p x) xs with
 | none =>
   have h:eX (fun _ x=>p x) xs=false:=df.2 (eW.1 e);rw[h];rfl
 | some q =>
   obtain⟨i,x⟩:=q;obtain⟨h1,h2,_⟩:=cV.1 e;have h:eX (fun _ x=>p x) xs=true:=gG.2 ⟨i,x,h1,h2⟩;rw[h];simp
def kD(xs:List aj)(id:Int):Option (Nat×aj):=cL (fun _ x=>x.Id==id) xs
def kc(xs:List aj)(id:Int):Int:=match kD xs id with|some q=>(q.1:Int)|none=>-1
theorem TN(xs:List aj)(f:aj->Option Bool)(p:aj->Bool)(hf:∀x∈xs,f x=some (p x))(hl:xs.length<=1048576):vI xs f=some (match cL (fun _ x=>p x) xs with|some q=>(q.1:Int)|none=>-1):=by
 unfold vI;rw[cy (f:=uH xs f) xs (fun _ x=>p x) (fun i _=>(i:Int)) () (fun i x hx _=>by
  have hlt:=(List.getElem?_eq_some_iff.1 hx).1;have h1:decide ((i:Int)<xs.length)=true:=by simp[hlt]
  simp only[uH,h1,cond_true,aU,hx,hf x (List.mem_of_getElem? hx),Option.bind_some];rw[aG (by omega) (by omega)];cases p x<;>rfl) (by simp[uH]) (by omega)]
 cases cL (fun _ x=>p x) xs<;>rfl
theorem pH{n:af}(h:bU n=true){list:List aj}{i:Nat}(hprev:∀j y,j<i->list[j]?=some y->gJ n list j y=false):∀o∈list.take i,iU n o:=by
 intro o ho;obtain⟨j,hj⟩:=List.getElem?_of_mem ho;rw[List.getElem?_take] at hj;split at hj
 ·rename_i hji;have:=hprev j o hji hj;unfold gJ at this;simp only[Bool.or_eq_false_iff,Bool.not_eq_false'] at this;exact gP h this.1.1
 ·cases hj
theorem lN(p:aK)(hz:aX p.F<=1048576)(hl:bc p.N<=1048576):zJ p=some (iu p):=by
 have hll:=wM hl;unfold zJ iu;rw[iR p.F hz];simp only[Option.bind_some];rcases bt (bU p.F) with hn|hn
 ·rw[hn];simp only[Bool.not_true,cond_false,Option.bind_some,Bool.true_and];by_cases h8:p.N.length<=12
  ·have e8:decide ((12:Int)<(p.N.length:Int))=false:=decide_eq_false (by omega);rw[e8,cond_false,decide_eq_true h8,Bool.true_and];rw[en (f:=FP p) p.N (gJ p.F p.N) (.inr false) (.inl ()) (fun i x hx hprev=>by
    have hlt:=(List.getElem?_eq_some_iff.1 hx).1;have h1:decide ((i:Int)<p.N.length)=true:=by simp[hlt]
    have w1:=vu hl (List.mem_of_getElem? hx);simp only[FP,h1,cond_true,aU,hx,Option.bind_some,Fp p.F x hn w1,Bs p.N i (by omega)];unfold gJ;rcases bt (ed p.F x) with e|e
    ·have hin:=gP hn e;have hcf:tF (p.N.take i) (fun x0=>Ew x0 x)=some ((p.N.take i).any fun o=>dd o.F o.N x.F x.N):=Ox _ _ _ (fun o ho=>by
      unfold Ew;rw[tn p.F o x (pH hn hprev o ho) hin];rfl) (by simp;omega)
     rw[e];simp only[Bool.not_true,cond_false,Bool.false_or,hcf,Option.bind_some];rw[aG (n:=(i:Int)+1) (by omega) (by omega)];by_cases h0:0<i
     ·have e0:decide ((0:Int)<(i:Int))=true:=decide_eq_true (by omega);have ew:IntKind.wrap .i64 ((i:Int)-1)=((i-1:Nat):Int):=by rw[aG (by omega) (by omega)];omega
      have hg:p.N[i-1]?=some (p.N[i-1]'(by omega)):=List.getElem?_eq_getElem (by omega);rw[e0,cond_true,ew,aU,hg,decide_eq_true h0];simp only[Option.bind_some,Bool.true_and];cases decide (x.Id<=(p.N[i-1]'(by omega)).Id)<;>cases((p.N.take i).any fun o=>dd o.F o.N x.F x.N)<;>rfl
     ·have e0:decide ((0:Int)<(i:Int))=false:=decide_eq_false (by omega);rw[e0,cond_false,decide_eq_false h0];simp only[Bool.false_and,Bool.false_or];cases((p.N.take i).any fun o=>dd o.F o.N x.F x.N)<;>rfl
    ·rw[e];rfl) (by simp[FP]) (by omega)]
   cases eX (gJ p.F p.N) p.N<;>rfl
  ·have e8:decide ((12:Int)<(p.N.length:Int))=true:=decide_eq_true (by omega);rw[e8,cond_true,decide_eq_false h8];rfl
 ·rw[hn];rfl
theorem vw(p:aK)(hz:aX p.F<=1048576)(hl:bc p.N<=1048576):xQ p=some (iu p):=by
 have hll:=wM hl;unfold xQ iu;rw[qz p.F hz];simp only[Option.bind_some];rcases bt (bU p.F) with hn|hn
 ·rw[hn];simp only[Bool.not_true,cond_false,Option.bind_some,Bool.true_and];by_cases h8:p.N.length<=12
  ·have e8:decide ((12:Int)<(p.N.length:Int))=false:=decide_eq_false (by omega);rw[e8,cond_false,decide_eq_true h8,Bool.true_and];rw[en (f:=Fh p) p.N (gJ p.F p.N) (.inr false) (.inl ()) (fun i x hx hprev=>by
    have hlt:=(List.getElem?_eq_some_iff.1 hx).1;have h1:decide ((i:Int)<p.N.length)=true:=by simp[hlt]
    have w1:=vu hl (List.mem_of_getElem? hx);simp only[Fh,h1,cond_true,aU,hx,Option.bind_some,Ed p.F x hn hz w1];rw[aG (n:=(i:Int)+1) (by omega) (by omega)];unfold gJ;rcases bt (ed p.F x) with e|e
    ·have hin:=gP hn e;have hcf:bv (M_r p (i:Int)) N0 0=some (if(p.N.take i).any (fun o=>dd o.F o.N x.F x.N) then .inr false else .inl ()):=by
      refine kx (f:=M_r p (i:Int)) (p.N.take i) (fun o=>dd o.F o.N x.F x.N) (.inr false) (.inl ()) (fun k o ho=>?_) ?_ (by simp;omega)
      ·have hin2:=pH hn hprev o (List.mem_of_getElem? ho);rw[List.getElem?_take] at ho;split at ho
       ·rename_i hki;have h1:decide ((k:Int)<(i:Int))=true:=decide_eq_true (by omega);simp only[M_r,h1,cond_true,aU,ho,hx,Option.bind_some,vY p.F o x hin2 hin];rw[aG (by omega) (by omega)];cases dd o.F o.N x.F x.N<;>rfl
       ·cases ho
      ·have h1:decide ((((p.N.take i).length:Nat):Int)<(i:Int))=false:=decide_eq_false (by simp;omega);simp only[M_r,h1,cond_false]
     rw[e];simp only[Bool.not_true,cond_false,Bool.false_or,hcf,Option.bind_some];by_cases h0:0<i
     ·have e0:decide ((0:Int)<(i:Int))=true:=decide_eq_true (by omega);have ew:IntKind.wrap .i64 ((i:Int)-1)=((i-1:Nat):Int):=by rw[aG (by omega) (by omega)];omega
      have hg:p.N[i-1]?=some (p.N[i-1]'(by omega)):=List.getElem?_eq_getElem (by omega);rw[e0,cond_true,ew,aU,hg,decide_eq_true h0];simp only[Option.bind_some,Bool.true_and];cases decide (x.Id<=(p.N[i-1]'(by omega)).Id)<;>cases((p.N.take i).any fun o=>dd o.F o.N x.F x.N)<;>rfl
     ·have e0:decide ((0:Int)<(i:Int))=false:=decide_eq_false (by omega);rw[e0,cond_false,decide_eq_false h0];simp only[Option.bind_some,cond_false,Bool.false_and,Bool.false_or];cases((p.N.take i).any fun o=>dd o.F o.N x.F x.N)<;>rfl
    ·rw[e];rfl) (by simp[Fh]) (by omega)]
   cases eX (gJ p.F p.N) p.N<;>rfl
  ·have e8:decide ((12:Int)<(p.N.length:Int))=true:=decide_eq_true (by omega);rw[e8,cond_true,decide_eq_false h8];rfl
 ·rw[hn];rfl
structure tr(p:aK):Prop where
 net:bU p.F=true
 len:p.N.length<=12
 lgt:∀s∈p.N,iU p.F s
 ok:∀s∈p.N,ed p.F s=true
 asc:∀(i:Nat)(a b:aj),p.N[i]?=some a->p.N[i+1]?=some b->a.Id<b.Id
theorem nQ{p:aK}(h:iu p=true):tr p:=by
 unfold iu at h;simp only[Bool.and_eq_true,decide_eq_true_eq,Bool.not_eq_true'] at h;obtain⟨⟨h1,h2⟩,h3⟩:=h;have key:∀s∈p.N,ed p.F s=true:=fun s hs=>by
  obtain⟨i,hi⟩:=List.getElem?_of_mem hs;have:=df.1 h3 i s hi;unfold gJ at this;simp only[Bool.or_eq_false_iff,Bool.not_eq_false'] at this;exact this.1.1
 refine⟨h1,h2,fun s hs=>gP h1 (key s hs),key,fun i a b ha hb=>?_⟩;have:=df.1 h3 (i+1) b hb;unfold gJ at this;simp only[Nat.add_sub_cancel,ha,Bool.or_eq_false_iff,Bool.and_eq_false_iff,decide_eq_false_iff_not] at this;omega
theorem gM{n:af}{x:aj}(h:ed n x=true):∃l,iy n x.F=some l:=by
 unfold ed at h;simp only[Bool.and_eq_true] at h;exact Option.isSome_iff_exists.1 h.1.2
end Vs

namespace Vs
open Go
theorem uz{n:af}{r:ar}{l:List Int}(h:bU n=true)(hr:r.F.length<=1048576)(hl:iy n r=some l):xS n r=some (fA n r):=by
 have hb:=cY h;obtain⟨hi,hlen⟩:=uy h hl;have:=hi.len;unfold xS fA;rw[sX n r (by omega) (by omega) hr,hl];simp only[Option.bind_some];have e:IntKind.wrap .i64 ((l.length:Int)-1)=((l.length-1:Nat):Int):=by rw[aG (by omega) (by omega)];omega
 rw[e,bq (by omega)];simp only[Option.bind_some,Int.toNat_natCast];rw[rl (by omega)];rfl
def kz(r:aq)(x:aj):Bool:=match kD r.N x.Id with
 |none=>true
 |some q=>!gS x.F.F r.L||(q.2.F.N !=x.F.N||(fA r.F.F q.2.F !=fA r.F.F x.F||q.2.N.F !=x.N.F))
def jH(r:aq):Bool:=(iu r.F&&iu ⟨r.F.F,r.N⟩&&rq r.L r.F.F.F.length)&&!r.F.N.any fun x=>kz r x
theorem Bx{r:aq}(h:aP r<=1048576):aX r.F.F<=1048576/\bc r.F.N<=1048576/\bc r.N<=1048576/\r.L.length<=1048576:=by
 have e:aP r=aX r.F.F+bc r.F.N+bc r.N+r.L.length:=by
  unfold aP cq ck;omega
 omega
theorem va(r:aq)(id:Int)(hl:r.N.length<=1048576):Ft r id=some (kc r.N id):=by
 unfold Ft kc kD;rw[TN r.N (fun x0=>PX x0 id) (fun x=>x.Id==id) (fun x _=>rfl) hl];rfl
theorem DP(xs:List aj)(id:Int)(hl:xs.length<=1048576):Mq xs id=some (kc xs id):=by
 unfold Mq kc kD;rw[cy (f:=Cd xs id) xs (fun _ x=>x.Id==id) (fun i _=>(i:Int)) () (fun i x hx _=>by
  have hlt:=(List.getElem?_eq_some_iff.1 hx).1;have h1:decide ((i:Int)<xs.length)=true:=by simp[hlt]
  simp only[Cd,h1,cond_true,aU,hx,Option.bind_some];rw[aG (by omega) (by omega)];cases x.Id==id<;>rfl) (by simp[Cd]) (by omega)]
 cases cL (fun _(x:aj)=>x.Id==id) xs<;>rfl
theorem VZ(a b:Int):(a !=b)=(b !=a):=by
 rw[Bool.eq_iff_iff];simp only[bne_iff_ne];exact⟨Ne.symm,Ne.symm⟩
theorem pd{xs:List aj}{id:Int}{i:Nat}{y:aj}(h:kD xs id=some (i,y)):xs[i]?=some y/\y.Id=id:=by
 obtain⟨h1,h2,_⟩:=cV.1 h;exact⟨h1,by simpa using h2⟩
theorem Us(r:aq)(x:aj)(hP:tr r.F)(hH:tr ⟨r.F.F,r.N⟩)(hD:r.L.length<=1048576)(hx:ed r.F.F x=true):Md x r r.F.F=some (kz r x):=by
 have h12:r.N.length<=12:=hH.len;have hin:=gP hP.net hx;have w1:=hin.r.len;unfold Md kz;obtain⟨a,a1,_,a3⟩:=ni x.F.F r.L w1 hD;simp only[va r x.Id (by omega),Option.bind_some,a1,zn a3];unfold kc;cases hf:kD r.N x.Id with
 |none=>rfl
 | some q =>
   obtain⟨i,y⟩:=q;obtain⟨f1,f2⟩:=pd hf;have hy:ed r.F.F y=true:=hH.ok y (List.mem_of_getElem? f1);obtain⟨lx,hlx⟩:=gM hx;obtain⟨ly,hly⟩:=gM hy;have w2:=(gP hP.net hy).r.len;have e0:decide ((i:Int)<0)=false:=decide_eq_false (by omega);simp only[e0,cond_false,Option.bind_some,aU,f1,uz hP.net (by omega) hlx,uz hP.net (by omega) hly];cases gS x.F.F r.L<;>cases y.F.N !=x.F.N<;>cases fA r.F.F y.F !=fA r.F.F x.F<;>rfl
theorem c3n(a b c:Bool):(cond (!a) (some true) (cond (!b) (some true) (some (!c))):Option Bool)=some (!(a&&b&&c)):=by
 cases a<;>cases b<;>cases c<;>rfl
theorem kN(r:aq)(hz:aP r<=1048576):Hf r=some (jH r):=by
 obtain⟨z1,z2,z3,z4⟩:=Bx hz;unfold Hf jH;rw[lN r.F z1 z2];have e:zJ (⟨(⟨r.F.F.N,r.F.F.F⟩:af),r.N⟩:aK)=some (iu ⟨r.F.F,r.N⟩):=lN ⟨r.F.F,r.N⟩ z1 z3;obtain⟨_,hF,_⟩:=rr z1;rw[e,SE r.L r.F.F.F.length hF z4];simp only[Option.bind_some,c3n];rcases bt (iu r.F&&iu ⟨r.F.F,r.N⟩&&rq r.L r.F.F.F.length) with e2|e2
 ·rw[e2];simp only[Bool.and_eq_true] at e2;have hP:=nQ e2.1.1;have hH:=nQ e2.1.2;have h12:=hP.len;rw[Ox r.F.N _ (fun x=>kz r x) (fun x hx=>Us r x hP hH z4 (hP.ok x hx)) (by omega)];rfl
 ·rw[e2];rfl
theorem FC(r:aq)(hz:aP r<=1048576):CC r=some (jH r):=by
 obtain⟨z1,z2,z3,z4⟩:=Bx hz;unfold CC jH;rw[vw r.F z1 z2];have e:xQ (⟨(⟨r.F.F.N,r.F.F.F⟩:af),r.N⟩:aK)=some (iu ⟨r.F.F,r.N⟩):=vw ⟨r.F.F,r.N⟩ z1 z3;obtain⟨_,hF,_⟩:=rr z1;rw[e,aG (by omega) (by omega),Ak r.L _ z4];simp only[Option.bind_some,c3n];rcases bt (iu r.F&&iu ⟨r.F.F,r.N⟩&&rq r.L r.F.F.F.length) with e2|e2
 ·rw[e2];simp only[Bool.and_eq_true] at e2;have hP:=nQ e2.1.1;have hH:=nQ e2.1.2;have h12:=hP.len;have h12':r.N.length<=12:=hH.len;simp only[Bool.not_true,cond_false];rw[kx (f:=EX r) r.F.N (fun x=>kz r x) (.inr false) (.inl ()) (fun i x hx=>by
   have hlt:=(List.getElem?_eq_some_iff.1 hx).1;have h1:decide ((i:Int)<r.F.N.length)=true:=by simp[hlt]
   have hxo:=hP.ok x (List.mem_of_getElem? hx);have hin:=gP hP.net hxo;have w1:=hin.r.len;simp only[EX,h1,cond_true,aU,hx,Option.bind_some,DP r.N x.Id (by omega),ne x.F r.L (by omega) z4];rw[aG (n:=(i:Int)+1) (by omega) (by omega)];unfold kc kz;cases hf:kD r.N x.Id with
   |none=>rfl
   | some q =>
     obtain⟨k,y⟩:=q;obtain⟨f1,f2⟩:=pd hf;have hy:ed r.F.F y=true:=hH.ok y (List.mem_of_getElem? f1);obtain⟨lx,hlx⟩:=gM hxo;obtain⟨ly,hly⟩:=gM hy;have w2:=(gP hP.net hy).r.len;have e0:decide ((k:Int)<0)=false:=decide_eq_false (by omega);simp only[e0,cond_false,Option.bind_some,aU,f1,tZ hP.net (by omega) hlx,tZ hP.net (by omega) hly,VZ x.F.N,VZ (fA r.F.F x.F),VZ x.N.F];rcases bt (gS x.F.F r.L) with q1|q1<;>rcases bt (y.F.N !=x.F.N) with q2|q2<;>rcases bt (fA r.F.F y.F !=fA r.F.F x.F) with q3|q3<;>rcases bt (y.N.F !=x.N.F) with q4|q4<;>simp only[q1,q2,q3,q4]<;>rfl) (by simp[EX]) (by omega)]
  cases(r.F.N.any fun x=>kz r x)<;>rfl
 ·rw[e2];rfl
structure Uh(r:aq):Prop where
 pl:tr r.F
 hm:tr ⟨r.F.F,r.N⟩
 dn:rq r.L r.F.F.F.length=true
theorem Ks{r:aq}(h:jH r=true):Uh r:=by
 unfold jH at h;simp only[Bool.and_eq_true] at h;exact⟨nQ h.1.1.1,nQ h.1.1.2,h.1.2⟩
def wtB(r:aq)(x:aj):Bool:=decide (kc r.F.N x.Id<0)
def wtL(r:aq):List Int:=bX (fun(_:Nat)(x:aj)(a:List Int)=>(.inl (if wtB r x then a++[x.Id] else a):List Int⊕List Int)) (fun a=>a) 0 r.N []
theorem Et(p:aK)(id:Int)(hl:p.N.length<=1048576):NF p id=some (kc p.N id):=by
 unfold NF kc kD;rw[TN p.N (fun x0=>Qm x0 id) (fun x=>x.Id==id) (fun x _=>rfl) hl];rfl
theorem MT(p:aK)(id:Int)(hl:p.N.length<=1048576):Ot p id=some (kc p.N id):=by
 unfold Ot kc kD;rw[cy (f:=DD p id) p.N (fun _ x=>x.Id==id) (fun i _=>(i:Int)) () (fun i x hx _=>by
  have hlt:=(List.getElem?_eq_some_iff.1 hx).1;have h1:decide ((i:Int)<p.N.length)=true:=by simp[hlt]
  simp only[DD,h1,cond_true,aU,hx,Option.bind_some];rw[aG (by omega) (by omega)];cases x.Id==id<;>rfl) (by simp[DD]) (by omega)]
 cases cL (fun _(x:aj)=>x.Id==id) p.N<;>rfl
theorem CU(r:aq)(h1:r.N.length<=12)(h2:r.F.N.length<=12):Jn r=some (wtL r):=by
 unfold Jn wtL;have:=dL (f:=DW r) r.N (fun i(a:List Int)=>((i:Int),a)) (fun _ x a=>.inl (if wtB r x then a++[x.Id] else a)) (fun a=>a) (fun i a=>a.length<=i) (fun i a x hx hI=>by
  have hlt:=(List.getElem?_eq_some_iff.1 hx).1;have e1:decide ((i:Int)<r.N.length)=true:=by simp[hlt]
  refine .inl ⟨_,rfl,by split<;>(try simp only[List.length_append,List.length_cons,List.length_nil])<;>omega,?_⟩;simp only[DW,e1,cond_true,aU,hx,Option.bind_some,Et r.F x.Id (by omega),bnd];rw[bq (by omega),aG (by omega) (by omega)];unfold wtB;cases decide (kc r.F.N x.Id<0)<;>rfl) (fun a _=>by simp[DW]) [] (Nat.le_refl 0) (by omega)
 have e0:((0:Nat):Int)=0:=rfl;simp only[e0] at this;rw[this];rfl
def wtX(r:aq):Nat->List aj->List Int
 |_,[]=>[]
 |k,x::xs=>if wtB r x then(k:Int)::wtX r (k+1) xs else wtX r (k+1) xs
theorem uG(r:aq)(h1:r.N.length<=12)(h2:r.F.N.length<=12):Dj r=some (wtX r 0 r.N):=by
 unfold Dj;have:=dL (f:=CF r) r.N (fun i(a:List Int)=>((i:Int),a)) (fun i x a=>.inl (if wtB r x then a++[(i:Int)] else a)) (fun a=>a) (fun i a=>a.length<=i) (fun i a x hx hI=>by
  have hlt:=(List.getElem?_eq_some_iff.1 hx).1;have e1:decide ((i:Int)<r.N.length)=true:=by simp[hlt]
  refine .inl ⟨_,rfl,by split<;>(try simp only[List.length_append,List.length_cons,List.length_nil])<;>omega,?_⟩;simp only[CF,e1,cond_true,aU,hx,Option.bind_some,MT r.F x.Id (by omega),bnd];rw[bq (by omega),aG (by omega) (by omega)];unfold wtB;cases decide (kc r.F.N x.Id<0)<;>rfl) (fun a _=>by simp[CF]) [] (Nat.le_refl 0) (by omega)
 have e0:((0:Nat):Int)=0:=rfl;simp only[e0] at this;rw[this];have gen:∀(xs:List aj)(i:Nat)(a:List Int),bX (fun(i:Nat)(x:aj)(a:List Int)=>(.inl (if wtB r x then a++[(i:Int)] else a):List Int⊕List Int)) (fun a=>a) i xs a=a++wtX r i xs:=by
  intro xs;induction xs with
  |nil=>intro i a;simp[bX,wtX]
  |cons x xs ih=>intro i a;simp only[bX,wtX];rw[ih];split<;>simp
 rw[gen];rfl
theorem tY{f:Int×List aj->Option ((Int×List aj)⊕List aj)}(xs:List aj)(hl:xs.length<=1048576)
 (h1:∀(i:Nat) x(a:List aj),xs[i]?=some x->a.length=i->f ((i:Int),a)=some (.inl (((i+1:Nat):Int),a++[x]))) (h2:∀a,f ((xs.length:Int),a)=some (.inr a)):bv f N0 (0,[])=some xs:=by
 have:=dL (f:=f) xs (fun i(a:List aj)=>((i:Int),a)) (fun _ x a=>.inl (a++[x])) (fun a=>a) (fun i a=>a.length=i) (fun i a x hx hI=>.inl ⟨_,rfl,by simp[hI],h1 i x a hx hI⟩) (fun a _=>h2 a) [] rfl (by omega);have e0:((0:Nat):Int)=0:=rfl;simp only[e0] at this;rw[this];have gen:∀(ys:List aj)(i:Nat)(a:List aj),bX (fun(_:Nat)(x:aj)(a:List aj)=>(.inl (a++[x]):List aj⊕List aj)) (fun a=>a) i ys a=a++ys:=by
  intro ys;induction ys with
  |nil=>intro i a;simp[bX]
  |cons y ys ih=>intro i a;simp only[bX];rw[ih];simp
 rw[gen];rfl
theorem mj(p:aK)(h1:aX p.F<=1048576)(h2:bc p.N<=1048576):zi p=some p:=by
 obtain⟨a1,a2,_⟩:=rr h1;have hl:=wM h2;unfold zi QR;rw[bq (by omega),bq (by omega)];simp only[Option.bind_some];rw[tY (f:=EB p) p.N hl (fun i x a hx ha=>by
  have hlt:=(List.getElem?_eq_some_iff.1 hx).1;have e1:decide ((i:Int)<p.N.length)=true:=by simp[hlt]
  have hr:=vu h2 (List.mem_of_getElem? hx);simp only[EB,e1,cond_true,aU,hx,Option.bind_some,DL,bnd];rw[bq (by omega)];simp only[Option.bind_some];rw[bq (by omega),aG (by omega) (by omega)];rfl) (fun a=>by simp[EB])]
 rfl
theorem nr(x:aj)(h:x.F.F.length<=1048576):tR x=some x:=by
 unfold tR CE M_n;rw[bq (by omega)];rfl
theorem BJ(p:aK)(h1:aX p.F<=1048576)(h2:bc p.N<=1048576):xM p=some p:=by
 obtain⟨a1,a2,_⟩:=rr h1;have hl:=wM h2;unfold xM Sm;rw[bq (by omega),bq (by omega)];simp only[Option.bind_some];rw[tY (f:=M_m p) p.N hl (fun i x a hx ha=>by
  have hlt:=(List.getElem?_eq_some_iff.1 hx).1;have e1:decide ((i:Int)<p.N.length)=true:=by simp[hlt]
  have hr:=vu h2 (List.mem_of_getElem? hx);simp only[M_m,e1,cond_true,aU,hx,Option.bind_some,nr x hr,bnd];rw[bq (by omega),aG (by omega) (by omega)];rfl) (fun a=>by simp[M_m])]
 rfl
theorem DK(xs:List aj)(h2:bc xs<=1048576):Lq xs=some xs:=by
 have hl:=wM h2;unfold Lq;rw[tY (f:=CI xs) xs hl (fun i x a hx ha=>by
  have hlt:=(List.getElem?_eq_some_iff.1 hx).1;have e1:decide ((i:Int)<xs.length)=true:=by simp[hlt]
  have hr:=vu h2 (List.mem_of_getElem? hx);simp only[CI,e1,cond_true,aU,hx,Option.bind_some,nr x hr,bnd];rw[bq (by omega),aG (by omega) (by omega)];rfl) (fun a=>by simp[CI])]
 rfl
theorem hY(r:aq)(h1:aX r.F.F<=1048576)(h2:bc r.F.N<=1048576)(h3:bc r.N<=1048576)(h4:r.L.length<=1048576):Fm r=some r:=by
 unfold Fm PA;rw[mj r.F h1 h2,mj ⟨⟨[],[]⟩,r.N⟩ (by show aX ⟨[],[]⟩<=1048576;decide) h3,bq (by omega)];rfl
def rst0:aq:=⟨⟨⟨[],[]⟩,[]⟩,[],[]⟩
theorem zy{α:Type}(g:α->Nat)(c:Nat):∀(xs:List α),(∀x∈xs,g x<=c)->(xs.map g).sum<=xs.length*c
 |[],_=>by simp
 | x :: xs, h => by
   have h1:=h x (by simp);have h2:=zy g c xs fun y hy=>h y (List.mem_cons_of_mem _ hy);simp only[List.map_cons,List.sum_cons,List.length_cons,Nat.succ_mul];omega
theorem jB{n:af}(h:bU n=true):aX n<=200:=by
 have hb:=cY h;unfold bU at h;simp only[Bool.and_eq_true,Bool.not_eq_true'] at h;have hn:=df.1 h.1.1.1;have:(n.N.map fun x=>x.size).sum<=n.N.length*8:=zy _ 8 _ fun x hx=>by
  obtain⟨i,hi⟩:=List.getElem?_of_mem hx;have:=hn i x hi;unfold ip at this;simp only[Bool.or_eq_false_iff,Bool.not_eq_false'] at this;have h2:=this.1;unfold nZ at h2;simp only[Bool.and_eq_true,cw] at h2;omega
 unfold aX bC bR;omega
theorem il{n:af}{xs:List aj}(hl:xs.length<=12)(h:∀x∈xs,iU n x):bc xs<=200:=by
 have:(xs.map fun x=>cn x).sum<=xs.length*12:=zy _ 12 _ fun x hx=>(h x hx).r.len;unfold bc;omega
end Vs

namespace Vs
open Go
def IsN(z:Int):Prop:=∃m:Nat,z=(m:Int)/\m<2^62
theorem isN0:IsN 0:=⟨0,rfl,by decide⟩
theorem uw{b:bd}(h:jI b):dG b=(((2^b.F.toNat-1)*2^b.N.toNat:Nat):Int)/\(2^b.F.toNat-1)*2^b.N.toNat<2^62:=by
 obtain⟨⟨f1,f2⟩,c1,c2⟩:=h;have hc:(2:Nat)^b.F.toNat<=2^24:=Nat.pow_le_pow_right (by omega) (by omega);have hf:(2:Nat)^b.N.toNat<=2^24:=Nat.pow_le_pow_right (by omega) (by omega);have hc1:1<=(2:Nat)^b.F.toNat:=Nat.one_le_two_pow;have e1:IntKind.wrap .i64 (1*2^(min (Int.toNat b.F) (IntKind.bits .i64)))=((2^b.F.toNat:Nat):Int):=by
  have e:min b.F.toNat (IntKind.bits .i64)=b.F.toNat:=by show min _ 64=_;omega
  rw[e,Int.one_mul,show(2:Int)^b.F.toNat=((2^b.F.toNat:Nat):Int) by rw[Int.natCast_pow];rfl,aG (by omega) (by omega)]
 have e2:min b.N.toNat (IntKind.bits .i64)=b.N.toNat:=by show min _ 64=_;omega
 have e3:((((2:Nat)^b.F.toNat:Nat):Int)-1)*2^b.N.toNat=(((2^b.F.toNat-1)*2^b.N.toNat:Nat):Int):=by
  rw[Int.natCast_mul,Int.natCast_sub hc1,Int.natCast_pow 2 b.N.toNat];rfl
 have hm:(2^b.F.toNat-1)*2^b.N.toNat<=2^24*2^24:=Nat.mul_le_mul (by omega) hf;refine⟨?_,by omega⟩;unfold dG;rw[e1,aG (n:=(((2:Nat)^b.F.toNat:Nat):Int)-1) (by omega) (by omega),e2,e3,aG (by omega) (by omega)]
theorem wI{b:bd}(h:jI b):IsN (dG b):=⟨_,(uw h).1,(uw h).2⟩
theorem nG(a:Nat):BitVec.ofInt 64 (a:Int)=BitVec.ofNat 64 a:=by
 apply BitVec.eq_of_toNat_eq;simp[BitVec.toNat_ofInt]
theorem Rs(a b:Nat)(ha:a<2^62)(hb:b<2^62):bits .or .i64 (a:Int) (b:Int)=((a ||| b:Nat):Int):=by
 have h:=Nat.or_lt_two_pow ha hb;unfold bits;show IntKind.wrap .i64 (((BitVec.ofInt 64 (a:Int) ||| BitVec.ofInt 64 (b:Int)).toNat:Nat):Int)=_;rw[nG,nG,BitVec.toNat_or,BitVec.toNat_ofNat,BitVec.toNat_ofNat,Nat.mod_eq_of_lt (by omega),Nat.mod_eq_of_lt (by omega),aG (by omega) (by omega)]
theorem Ie(a b:Nat)(ha:a<2^62)(hb:b<2^62):bits .and .i64 (a:Int) (b:Int)=((a &&& b:Nat):Int):=by
 have h:a &&& b<=a:=Nat.and_le_left;unfold bits;show IntKind.wrap .i64 (((BitVec.ofInt 64 (a:Int) &&& BitVec.ofInt 64 (b:Int)).toNat:Nat):Int)=_;rw[nG,nG,BitVec.toNat_and,BitVec.toNat_ofNat,BitVec.toNat_ofNat,Nat.mod_eq_of_lt (by omega),Nat.mod_eq_of_lt (by omega),aG (by omega) (by omega)]
theorem or_N{a b:Int}(ha:IsN a)(hb:IsN b):IsN (bits .or .i64 a b):=by
 obtain⟨m,rfl,hm⟩:=ha;obtain⟨k,rfl,hk⟩:=hb;exact⟨m ||| k,Rs m k hm hk,Nat.or_lt_two_pow hm hk⟩
theorem Sx{a b c:Int}(ha:IsN a)(hb:IsN b)(hc:IsN c):bits .and .i64 (bits .or .i64 a b) c=0↔bits .and .i64 a c=0/\bits .and .i64 b c=0:=by
 obtain⟨m,rfl,hm⟩:=ha;obtain⟨k,rfl,hk⟩:=hb;obtain⟨j,rfl,hj⟩:=hc;rw[Rs m k hm hk,Ie _ j (Nat.or_lt_two_pow hm hk) hj,Ie m j hm hj,Ie k j hk hj,Nat.and_or_distrib_right];have:(m &&& j) ||| (k &&& j)=0↔(m &&& j)=0/\(k &&& j)=0:=Nat.or_eq_zero_iff;omega
theorem pc{α:Type}(g:α->Int)(p:α->Bool){c:Int}(hc:IsN c):∀(xs:List α)(k:Nat)(a:Int),IsN a->(∀x∈xs,p x=true->IsN (g x))->
 IsN (cQ (fun _ x(a:Int)=>if p x then bits .or .i64 a (g x) else a) k xs a)/\(bits .and .i64 (cQ (fun _ x(a:Int)=>if p x then bits .or .i64 a (g x) else a) k xs a) c=0↔bits .and .i64 a c=0/\∀x∈xs,p x=true->bits .and .i64 (g x) c=0)
 |[],_,a,ha,_=>⟨ha,by simp[cQ]⟩
 | x :: xs, k, a, ha, hg => by
   simp only[cQ];rcases bt (p x) with e|e
   ·have hx:=hg x (by simp) e;obtain⟨h1,h2⟩:=pc g p hc xs (k+1) _ (or_N ha hx) fun y hy=>hg y (by simp[hy]);rw[if_pos e];refine⟨h1,?_⟩;rw[h2,Sx ha hx hc];simp only[List.mem_cons,forall_eq_or_imp,e,true_imp_iff];exact⟨fun⟨⟨q1,q2⟩,q3⟩=>⟨q1,q2,q3⟩,fun⟨q1,q2,q3⟩=>⟨⟨q1,q2⟩,q3⟩⟩
   ·obtain⟨h1,h2⟩:=pc g p hc xs (k+1) a ha fun y hy=>hg y (by simp[hy]);rw[if_neg (by rw[e];simp)];refine⟨h1,?_⟩;rw[h2];simp[e]
def oA(L:List aj)(f:Int):Int:=cQ (fun _(o:aj)(a:Int)=>if(o.F.F.any fun y=>y==f) then bits .or .i64 a (dG o.N) else a) 0 L 0
def jb(L:List aj)(fs:List Int):Int:=cQ (fun _(f:Int)(a:Int)=>if true then bits .or .i64 a (oA L f) else a) 0 fs 0
def nT(n:af)(L:List aj):Prop:=L.length<=12/\∀o∈L,iU n o
theorem CR{n:af}{L:List aj}(hL:nT n L){y:aj}(hy:iU n y):(bits .and .i64 (jb L y.F.F) (dG y.N)==0)=!(L.any fun o=>dd o.F o.N y.F y.N):=by
 have hc:=wI hy.b;have h1:=fun f=>pc (fun o:aj=>dG o.N) (fun o:aj=>o.F.F.any fun y=>y==f) hc L 0 0 isN0 fun o ho _=>wI (hL.2 o ho).b;have h2:=(pc (oA L) (fun _=>true) hc y.F.F 0 0 isN0 fun f _ _=>(h1 f).1).2;have e0:bits .and .i64 0 (dG y.N)=0:=and0 _;have key:bits .and .i64 (jb L y.F.F) (dG y.N)=0↔∀f∈y.F.F,∀o∈L,(o.F.F.any fun z=>z==f)=true->bits .and .i64 (dG o.N) (dG y.N)=0:=by
  show bits .and .i64 (cQ _ _ _ _) _=0↔_;rw[h2];constructor
  ·rintro⟨_,h⟩ f hf o ho hof;exact((h1 f).2.1 (h f hf rfl)).2 o ho hof
  ·intro h;exact⟨e0,fun f hf _=>(h1 f).2.2 ⟨e0,fun o ho hof=>h f hf o ho hof⟩⟩
 rw[Bool.eq_iff_iff,beq_iff_eq,key,Bool.not_eq_true',List.any_eq_false];constructor
 ·intro h o ho;unfold dd gS;simp only[Bool.not_not,Bool.and_eq_true,bne_iff_ne,List.any_eq_true,decide_eq_true_eq,not_and,not_exists];rintro hne z hz hzy;exact hne (h z hzy o ho (List.any_eq_true.2 ⟨z,hz,by simp⟩))
 ·intro h f hf o ho hof;have:=h o ho;unfold dd gS at this;simp only[Bool.not_not,Bool.and_eq_true,bne_iff_ne,List.any_eq_true,decide_eq_true_eq,not_and,not_exists] at this;obtain⟨z,hz,e⟩:=List.any_eq_true.1 hof;rw[beq_iff_eq] at e;subst e;exact Classical.byContradiction fun hne=>this hne z hz hf
theorem Oz{n:af}{p:aK}(hL:nT n p.N)(f:Int):Hp p f=some (oA p.N f):=by
 unfold Hp;have:bv (M_e p f) N0 (0,0)=some (oA p.N f):=by
  refine ea (f:=M_e p f) p.N (fun i(a:Int)=>(a,(i:Int))) _ id (fun _ _=>True) (fun i a x hx _=>?_) (fun a _=>by simp[M_e]) 0 trivial (by have:=hL.1;omega);have hlt:=(List.getElem?_eq_some_iff.1 hx).1;have hin:=hL.2 x (List.mem_of_getElem? hx);have:=hL.1;refine⟨trivial,?_⟩;simp only[M_e,decide_eq_true (show(i:Int)<(p.N.length:Int) by omega),cond_true,aU,hx,Option.bind_some,oV x.F.F f (by have:=hin.r.len;omega)];rw[aG (n:=(i:Int)+1) (by omega) (by omega)];rcases bt (x.F.F.any fun y=>y==f) with e|e
  ·rw[e,cond_true,kE hin.b];rfl
  ·rw[e];rfl
 rw[this];rfl
theorem tk{n:af}{p:aK}(hL:nT n p.N)(r:ar)(hr:r.F.length<=12):xO p r=some (jb p.N r.F):=by
 unfold xO;have:bv (zW p r) N0 (0,0)=some (jb p.N r.F):=by
  refine ea (f:=zW p r) r.F (fun i(a:Int)=>(a,(i:Int))) _ id (fun _ _=>True) (fun i a x hx _=>?_) (fun a _=>by simp[zW]) 0 trivial (by omega);have hlt:=(List.getElem?_eq_some_iff.1 hx).1;refine⟨trivial,?_⟩;simp only[zW,decide_eq_true (show(i:Int)<(r.F.length:Int) by omega),cond_true,aU,hx,Option.bind_some,Oz hL x];rw[aG (n:=(i:Int)+1) (by omega) (by omega)];rfl
 rw[this];rfl
def RY(L:List aj)(y:aj):Bool:=L.any fun o=>o.Id !=y.Id&&dd o.F o.N y.F y.N
theorem Gd{n:af}(r:aq)(hL:nT n r.F.N)(y:aj)(hy:iU n y)(hD:r.L.length<=1048576):ND r y=some (gS y.F.F r.L&&!RY r.F.N y):=by
 unfold ND RY;obtain⟨a,a1,_,a3⟩:=ni y.F.F r.L hy.r.len hD;have h12:=hL.1;simp only[a1,Option.bind_some,AZ a3];rw[Ox r.F.N _ (fun o=>o.Id !=y.Id&&dd o.F o.N y.F y.N) (fun o ho=>by
  unfold PV;cases o.Id !=y.Id
  ·rfl
  ·simp only[cond_true,tn n o y (hL.2 o ho) hy,Option.bind_some,Bool.true_and]) (by omega)]
 cases gS y.F.F r.L<;>rfl
end Vs



namespace Vs
open Go
def rP(n:af)(y:Int):Int:=match n.F[y.toNat]? with|some f=>f.F|none=>0
def fw(n:af)(r:ar):Int:=cQ (fun _ y s=>IntKind.wrap .i64 (s+rP n y)) 0 r.F 0
def RtB(n:af)(r:ar):Prop:=r.F.length<=20/\(∀e∈r.F,0<=e/\e<n.F.length)/\0<=r.N/\r.N<8
theorem jQ{n:af}{r:ar}(h:RtB n r):En n r=some (fw n r):=by
 have h1:=h.1;unfold En fw;have:=ea (f:=Fo n r) r.F (fun i(s:Int)=>(s,(i:Int))) (fun _ y s=>IntKind.wrap .i64 (s+rP n y)) id (fun _ _=>True) (fun i s y hy _=>by
  have hlt:=(List.getElem?_eq_some_iff.1 hy).1;have e1:decide ((i:Int)<r.F.length)=true:=by simp[hlt]
  obtain⟨g1,g2⟩:=h.2.1 y (List.mem_of_getElem? hy);have hf:bQ n.F y=n.F[y.toNat]?:=by unfold bQ;rw[if_pos g1]
  have hs:n.F[y.toNat]?=some (n.F[y.toNat]'(by omega)):=List.getElem?_eq_getElem _;refine⟨trivial,?_⟩;simp only[Fo,e1,cond_true,aU,hy,Option.bind_some,hf,rP];rw[hs];simp only[Option.bind_some];rw[aG (n:=(i:Int)+1) (by omega) (by omega)];rfl) (fun s _=>by simp[Fo]) 0 trivial (by omega)
 have e0:((0:Nat):Int)=0:=rfl;simp only[e0] at this;rw[this];rfl
theorem pf{n:af}{r:ar}(h:RtB n r):HH n r=some (fw n r):=jQ h
theorem BZ{n:af}(hn:bU n=true){r:ar}(h:RtB n r):0<=fw n r/\fw n r<=100000:=by
 have gen:∀(ys:List Int)(i:Nat)(s:Int),(∀e∈ys,0<=e/\e<n.F.length)->i+ys.length<=20->0<=s->s<=5000*i->0<=cQ (fun _ y s=>IntKind.wrap .i64 (s+rP n y)) i ys s/\cQ (fun _ y s=>IntKind.wrap .i64 (s+rP n y)) i ys s<=5000*(i+ys.length:Nat):=by
  intro ys;induction ys with
  |nil=>intro i s _ _ h1 h2;exact⟨h1,by simpa[cQ] using h2⟩
  | cons y ys ih =>
    intro i s hy hi h1 h2;simp only[List.length_cons] at hi;obtain⟨g1,g2⟩:=hy y (by simp);have hs:n.F[y.toNat]?=some (n.F[y.toNat]'(by omega)):=List.getElem?_eq_getElem _;obtain⟨_,_,_,f4,f5,_⟩:=nK hn hs;have hf:rP n y=(n.F[y.toNat]'(by omega)).F:=by unfold rP;rw[hs]
    have hw:IntKind.wrap .i64 (s+rP n y)=s+rP n y:=aG (by omega) (by omega);simp only[cQ];rw[hw];have:=ih (i+1) (s+rP n y) (fun e he=>hy e (by simp[he])) (by omega) (by omega) (by omega);refine⟨this.1,?_⟩;have h3:=this.2;simp only[List.length_cons];omega
 have h1:=h.1;have:=gen r.F 0 0 h.2.1 (by omega) (by omega) (by omega);unfold fw;omega
theorem Xu(a b c d:Int):yk [a,b,c,d]=some (if a≠0 then a else if b≠0 then b else if c≠0 then c else d):=by
 unfold yk;have key:=cy (f:=M_o [a,b,c,d]) [a,b,c,d] (fun _ x=>x !=0) (fun _ x=>x) () (fun i x hx _=>by
  have hlt:=(List.getElem?_eq_some_iff.1 hx).1;have h1:decide ((i:Int)<([a,b,c,d].length:Nat))=true:=decide_eq_true (by omega);simp only[List.length_cons,List.length_nil] at hlt;simp only[M_o,h1,cond_true,aU,hx,Option.bind_some];rw[aG (by omega) (by omega)];cases x !=0<;>rfl) (by simp[M_o]) (by simp)
 rw[key];unfold cL;simp only[List.zipIdx_cons,List.zipIdx_nil,List.find?_cons,List.find?_nil];by_cases h1:a=0
 ·by_cases h2:b=0
  ·by_cases h3:c=0
   ·by_cases h4:d=0
    ·simp[h1,h2,h3,h4]
    ·have:(d !=0)=true:=bne_iff_ne.2 h4;simp[h1,h2,h3,this]
   ·have:(c !=0)=true:=bne_iff_ne.2 h3;simp[h1,h2,h3,this]
  ·have:(b !=0)=true:=bne_iff_ne.2 h2;simp[h1,h2,this]
 ·have:(a !=0)=true:=bne_iff_ne.2 h1;simp[h1,this]
def qV(b:List Int)(i:Nat)(x:Int):Int:=match b[i]? with|some y=>dD x y|none=>1
def hM(a b:List Int):Int:=match cL (fun i x=>b[i]? !=some x) a with
 |some q=>qV b q.1 q.2
 |none=>if a.length<b.length then -1 else 0
theorem yP(a b:List Int)(hl:a.length<=1048576):KK a b=some (hM a b):=by
 unfold KK;rw[cy (f:=M_t a b) a (fun i x=>b[i]? !=some x) (fun i x=>qV b i x) () (fun i x hx _=>by
  have hlt:=(List.getElem?_eq_some_iff.1 hx).1;have h3:decide ((i:Int)<a.length)=true:=by simp[hlt]
  simp only[M_t,h3,cond_true,aU,hx,Option.bind_some,qV];by_cases hb:b.length<=i
  ·have h4:decide ((b.length:Int)<=(i:Int))=true:=by simp;omega
   have h5:b[i]?=none:=List.getElem?_eq_none (by omega);rw[h4,h5];rfl
  ·have h4:decide ((b.length:Int)<=(i:Int))=false:=by simp;omega
   have h5:b[i]?=some (b[i]'(by omega)):=List.getElem?_eq_getElem _;simp only[h4,cond_false,h5,Option.bind_some,LQ];rw[aG (by omega) (by omega)];by_cases e:x=b[i]'(by omega)
   ·have e1:(dD x (b[i]'(by omega)) !=0)=false:=by rw[cB.2 e];rfl
    have e2:(some (b[i]'(by omega)) !=some x)=false:=by rw[<-e];simp
    rw[e1,e2];rfl
   ·have e1:(dD x (b[i]'(by omega)) !=0)=true:=bne_iff_ne.2 fun e'=>e (cB.1 e');have e2:(some (b[i]'(by omega)) !=some x)=true:=bne_iff_ne.2 fun e'=>e (Option.some.inj e').symm;rw[e1,e2];rfl) (by simp[M_t]) (by omega)]
 unfold hM;cases hf:cL (fun i x=>b[i]? !=some x) a with
 | none =>
   simp only[Option.bind_some];by_cases h:a.length<b.length
   ·have e:decide ((a.length:Int)<(b.length:Int))=true:=by simp[h]
    simp[e,h]
   ·have e:decide ((a.length:Int)<(b.length:Int))=false:=by simp;omega
    rw[e,if_neg h];rfl
 |some q=>rfl
def fy(n:af)(a b:ar):Int:=if fw n a≠fw n b then dD (fw n a) (fw n b) else if a.F.length≠b.F.length then dD a.F.length b.F.length else
 if hM a.F b.F≠0 then hM a.F b.F else dD a.N b.N
theorem oL{n:af}{a b:ar}(ha:RtB n a)(hb:RtB n b):JA n a b=some (fy n a b):=by
 have h1:=ha.1;unfold JA;rw[pf ha,Option.bind_some,pf hb,Option.bind_some];simp only[LQ,Option.bind_some,yP a.F b.F (by omega),bnd,Xu];unfold fy;simp only[ne_eq,cB,Int.natCast_inj]
theorem wK(x:Int):xq x=some (dD x 0):=by
 unfold xq dD;by_cases h1:x<0
 ·simp[h1]
 ·by_cases h2:0<x<;>simp[h1,h2]
theorem mO(x y:Int):dD (x-y) 0=dD x y:=by
 unfold dD;by_cases h1:x<y
 ·rw[if_pos (by omega),if_pos h1]
 ·by_cases h2:y<x
  ·rw[if_neg (by omega),if_pos (by omega),if_neg h1,if_pos h2]
  ·rw[if_neg (by omega),if_neg (by omega),if_neg h1,if_neg h2]
theorem Be(x y:Int):(x-y !=0)=decide (x≠y):=by
 by_cases h:x=y
 ·subst h;simp
 ·have:(x-y !=0)=true:=bne_iff_ne.2 (by omega);rw[this,decide_eq_true h]
theorem xk{n:af}(hn:bU n=true){a b:ar}(ha:RtB n a)(hb:RtB n b):Ci n a b=some (fy n a b):=by
 obtain⟨b1,b2,b3⟩:=cY hn;have hla:=BZ hn ha;have hlb:=BZ hn hb;have h1:=ha.1;have h2:=hb.1;obtain⟨s1,s2⟩:=ha.2.2;obtain⟨s3,s4⟩:=hb.2.2;unfold Ci fy;rw[jQ ha,Option.bind_some,jQ hb,Option.bind_some];simp only[wK,Option.bind_some];rw[aG (n:=fw n a-fw n b) (by omega) (by omega),aG (n:=(a.F.length:Int)-(b.F.length:Int)) (by omega) (by omega),aG (n:=a.N-b.N) (by omega) (by omega),Be,Be,mO,mO,mO];by_cases e1:fw n a=fw n b
 ·rw[if_neg (by simpa using e1),decide_eq_false (by simpa using e1),cond_false];by_cases e2:a.F.length=b.F.length
  ·rw[if_neg (by simpa using e2),decide_eq_false (by simp[e2]),cond_false];rw[cy (f:=Gb a b) a.F (fun i x=>b.F[i]? !=some x) (fun i x=>qV b.F i x) () (fun i x hx _=>by
    have hlt:=(List.getElem?_eq_some_iff.1 hx).1;have h3:decide ((i:Int)<a.F.length)=true:=by simp[hlt]
    have h5:b.F[i]?=some (b.F[i]'(by omega)):=List.getElem?_eq_getElem _;obtain⟨x1,x2⟩:=ha.2.1 x (List.mem_of_getElem? hx);obtain⟨y1,y2⟩:=hb.2.1 _ (List.mem_of_getElem? h5);simp only[Gb,h3,cond_true,aU,hx,Option.bind_some,qV,h5,wK];rw[aG (n:=(i:Int)+1) (by omega) (by omega),aG (n:=x-b.F[i]'(by omega)) (by omega) (by omega),mO];by_cases e:x=b.F[i]'(by omega)
    ·have e3:(x !=b.F[i]'(by omega))=false:=by rw[<-e];simp
     have e4:(some (b.F[i]'(by omega)) !=some x)=false:=by rw[<-e];simp
     rw[e3,e4];rfl
    ·have e3:(x !=b.F[i]'(by omega))=true:=bne_iff_ne.2 e;have e4:(some (b.F[i]'(by omega)) !=some x)=true:=bne_iff_ne.2 fun e'=>e (Option.some.inj e').symm;rw[e3,e4];rfl) (by simp[Gb]) (by omega)]
   unfold hM;cases hf:cL (fun i x=>b.F[i]? !=some x) a.F with
   | none =>
     simp only[Option.bind_some];rw[if_neg (show¬a.F.length<b.F.length by omega),if_neg (by simp)]
   | some q =>
     obtain⟨g1,g2,_⟩:=cV.1 (show cL (fun i x=>b.F[i]? !=some x) a.F=some (q.1,q.2) from hf);have hlt:=(List.getElem?_eq_some_iff.1 g1).1;have h5:b.F[q.1]?=some (b.F[q.1]'(by omega)):=List.getElem?_eq_getElem _;have hz:qV b.F q.1 q.2≠0:=by
      unfold qV;rw[h5] at g2⊢;exact fun e=>bne_iff_ne.1 g2 (by rw[cB.1 e])
     simp only[Option.bind_some];rw[if_pos hz]
  ·rw[if_pos (by simpa using e2),decide_eq_true (by simp;omega),cond_true]
 ·rw[if_pos (by simpa using e1),decide_eq_true (by simpa using e1),cond_true]
theorem nu(x y:Int):dD y x=- dD x y:=by
 unfold dD;by_cases h1:x<y
 ·rw[if_neg (show¬y<x by omega),if_pos h1,if_pos h1];rfl
 ·by_cases h2:y<x
  ·rw[if_pos h2,if_neg h1,if_pos h2]
  ·rw[if_neg h2,if_neg h1,if_neg h1,if_neg h2];rfl
theorem KZ{a b:List Int}(h:a.length=b.length):hM b a=- hM a b:=by
 have key:∀{a b:List Int}{i:Nat}{x:Int},a.length=b.length->cL (fun i x=>b[i]? !=some x) a=some (i,x)->∃y,cL (fun i x=>a[i]? !=some x) b=some (i,y)/\a[i]?=some x/\b[i]?=some y:=by
  intro a b i x h hf;obtain⟨g1,g2,g3⟩:=cV.1 hf;have hlt:=(List.getElem?_eq_some_iff.1 g1).1;have h5:b[i]?=some (b[i]'(by omega)):=List.getElem?_eq_getElem _;refine⟨b[i]'(by omega),cV.2 ⟨h5,?_,fun j y hj hy=>?_⟩,g1,h5⟩
  ·rw[g1];rw[h5] at g2;exact bne_iff_ne.2 fun e=>bne_iff_ne.1 g2 e.symm
  ·have hlj:a[j]?=some (a[j]'(by omega)):=List.getElem?_eq_getElem _;have:=g3 j _ hj hlj;rw[hlj];rw[hy] at this;simp only[bne_eq_false_iff_eq] at this⊢;exact this.symm
 unfold hM;cases hf:cL (fun i x=>b[i]? !=some x) a with
 | some q =>
   obtain⟨y,h1,h2,h3⟩:=key h (show cL (fun i x=>b[i]? !=some x) a=some (q.1,q.2) from hf);rw[h1];simp only[qV,h2,h3];exact nu _ _
 | none =>
   cases hg:cL (fun i x=>a[i]? !=some x) b with
   | some q =>
     obtain⟨y,h1,_⟩:=key h.symm (show cL (fun i x=>a[i]? !=some x) b=some (q.1,q.2) from hg);rw[hf] at h1;cases h1
   | none =>
     simp only;rw[if_neg (by omega),if_neg (by omega)];rfl
theorem iK(n:af)(a b:ar):fy n b a=- fy n a b:=by
 unfold fy;by_cases e1:fw n a=fw n b
 ·rw[if_neg (show¬fw n b≠fw n a from fun h=>h e1.symm),if_neg (show¬fw n a≠fw n b from fun h=>h e1)];by_cases e2:a.F.length=b.F.length
  ·rw[if_neg (show¬b.F.length≠a.F.length from fun h=>h e2.symm),if_neg (show¬a.F.length≠b.F.length from fun h=>h e2),KZ e2];by_cases e3:hM a.F b.F=0
   ·rw[if_neg (show¬ -hM a.F b.F≠0 by omega),if_neg (show¬hM a.F b.F≠0 from fun h=>h e3)];exact nu _ _
   ·rw[if_pos (show -hM a.F b.F≠0 by omega),if_pos e3]
  ·rw[if_pos (show b.F.length≠a.F.length from fun e=>e2 e.symm),if_pos e2];exact nu _ _
 ·rw[if_pos (show fw n b≠fw n a from fun e=>e1 e.symm),if_pos e1];exact nu _ _
theorem te{n:af}{a b:ar}(h:fy n a b=0):a=b:=by
 unfold fy at h;by_cases e1:fw n a=fw n b
 ·rw[if_neg (by simp[e1])] at h;by_cases e2:a.F.length=b.F.length
  ·rw[if_neg (by simp[e2])] at h;by_cases e3:hM a.F b.F=0
   ·rw[if_neg (by simp[e3])] at h;have hs:=cB.1 h;have hf:a.F=b.F:=by
     unfold hM at e3;cases hf:cL (fun i x=>b.F[i]? !=some x) a.F with
     | none =>
       have:=eW.1 hf;apply List.ext_getElem?;intro i;rcases Nat.lt_or_ge i a.F.length with hi|hi
       ·have:=this i _ (List.getElem?_eq_getElem hi);simp only[bne_eq_false_iff_eq] at this;rw[this,List.getElem?_eq_getElem hi]
       ·rw[List.getElem?_eq_none hi,List.getElem?_eq_none (by omega)]
     | some q =>
       rw[hf] at e3;obtain⟨g1,g2,_⟩:=cV.1 (show cL (fun i x=>b.F[i]? !=some x) a.F=some (q.1,q.2) from hf);have hlt:=(List.getElem?_eq_some_iff.1 g1).1;have h5:b.F[q.1]?=some (b.F[q.1]'(by omega)):=List.getElem?_eq_getElem _;exfalso;simp only[qV,h5] at e3;rw[h5] at g2;exact bne_iff_ne.1 g2 (by rw[cB.1 e3])
    cases a;cases b;simp only at hs hf;rw[hs,hf]
   ·rw[if_pos e3] at h;exact absurd h e3
  ·rw[if_pos e2] at h;have:=cB.1 h;omega
 ·rw[if_pos e1] at h;exact absurd (cB.1 h) e1
end Vs

namespace Vs
open Go
theorem mX{α:Type}(xs:List α)(k:Nat)(h:k<=xs.length):fK xs 0 k=xs.take k:=by rw[fL,List.drop_zero]
theorem wW{α:Type}(xs:List α)(k:Nat)(h:k<=xs.length):fK xs k (xs.length-k)=xs.drop k:=by
 rw[fL,List.take_of_length_le (by simp)]
structure NU(n:af)(s:Int)(p q:List Int):Prop where
 len:q.length=p.length+1
 nd:q.Nodup
 rg:∀x∈q,0<=x/\x<(n.N.length:Int)
 pr:∀e∈p,0<=e/\e<(n.F.length:Int)
 st:0<=s/\s<8
theorem NU.le{n:af}{s:Int}{p q:List Int}(h:NU n s p q):q.length<=n.N.length:=kK _ q h.nd h.rg
theorem NU.rt{n:af}(hn:bU n=true){s:Int}{p q:List Int}(h:NU n s p q):RtB n ⟨s,p⟩:=by
 obtain⟨b1,b2,b3⟩:=cY hn;have h1:=h.le;have h2:=h.len;exact⟨by show p.length<=20;omega,h.pr,h.st⟩
end Vs

namespace Vs
open Go
theorem Bj{α:Type}(p:Nat->α->Bool):∀(xs:List α)(k:Nat),((xs.zipIdx (k+1)).find? fun q=>p q.2 q.1)=((xs.zipIdx k).find? fun q=>p (q.2+1) q.1).map fun q=>(q.1,q.2+1)
 |[],k=>rfl
 | x :: xs, k => by
   rw[List.zipIdx_cons,List.zipIdx_cons,List.find?_cons,List.find?_cons];simp only;cases p (k+1) x with
   |true=>rfl
   |false=>exact Bj p xs (k+1)
theorem GT{α:Type}(p:Nat->α->Bool)(x:α)(xs:List α):
 cL p (x::xs)=if p 0 x then some (0,x) else(cL (fun i=>p (i+1)) xs).map fun q=>(q.1+1,q.2):=by
 unfold cL;rw[List.zipIdx_cons,List.find?_cons];by_cases h:p 0 x=true
 ·simp[h]
 ·simp only[Bool.not_eq_true] at h;simp only[h,Bool.false_eq_true,if_false];rw[Bj p xs 0,Option.map_map,Option.map_map];rfl
theorem gq{x y:Int}:dD x y<0↔x<y:=by
 unfold dD;by_cases h1:x<y
 ·simp[h1]
 ·by_cases h2:y<x<;>simp[h1,h2]
theorem DB(x y:Int)(a b:List Int):hM (x::a) (y::b)=if x=y then hM a b else dD x y:=by
 unfold hM;rw[GT];by_cases h:x=y
 ·subst h;simp only[List.getElem?_cons_zero,bne_self_eq_false,Bool.false_eq_true,if_false,List.getElem?_cons_succ,if_true];cases cL (fun i x=>b[i]? !=some x) a with
  |none=>simp
  |some q=>simp[qV]
 ·have:((some y:Option Int) !=some x)=true:=bne_iff_ne.2 fun e=>h (Option.some.inj e).symm;simp only[List.getElem?_cons_zero,this,if_true,if_neg h];simp[qV]
theorem AO:∀a b c:List Int,a.length=b.length->b.length=c.length->hM a b<0->hM b c<0->hM a c<0
 |[],[],[],_,_,h,_=>h
 | x :: a, y :: b, z :: c, h1, h2, h3, h4 => by
   rw[DB] at h3 h4⊢;by_cases e1:x=y
   ·rw[if_pos e1] at h3;by_cases e2:y=z
    ·rw[if_pos e2] at h4;rw[if_pos (e1.trans e2)];exact AO a b c (by simpa using h1) (by simpa using h2) h3 h4
    ·rw[if_neg e2,gq] at h4;rw[if_neg (by omega),gq];omega
   ·rw[if_neg e1,gq] at h3;by_cases e2:y=z
    ·rw[if_neg (by omega),gq];omega
    ·rw[if_neg e2,gq] at h4;rw[if_neg (by omega),gq];omega
theorem ug{n:af}{a b:ar}(hs:a.N=b.N):fy n a b<0↔fw n a<fw n b\/(fw n a=fw n b/\(a.F.length<b.F.length\/(a.F.length=b.F.length/\hM a.F b.F<0))):=by
 unfold fy;by_cases e1:fw n a=fw n b
 ·rw[if_neg (fun h=>h e1)];by_cases e2:a.F.length=b.F.length
  ·rw[if_neg (fun h=>h e2)];by_cases e3:hM a.F b.F=0
   ·rw[if_neg (fun h=>h e3),gq];omega
   ·rw[if_pos e3];omega
  ·rw[if_pos e2,gq];omega
 ·rw[if_pos e1,gq];omega
theorem HJ(n:af)(a:ar):¬fy n a a<0:=by
 have:=iK n a a;omega
theorem BA{n:af}{a b c:ar}(h1:a.N=b.N)(h2:b.N=c.N)(h3:fy n a b<0)(h4:fy n b c<0):fy n a c<0:=by
 rw[ug h1] at h3;rw[ug h2] at h4;rw[ug (h1.trans h2)];rcases h3 with h3|⟨h3,h3'|⟨h3',h3''⟩⟩<;>rcases h4 with h4|⟨h4,h4'|⟨h4',h4''⟩⟩
 ·omega
 ·omega
 ·omega
 ·omega
 ·omega
 ·omega
 ·omega
 ·omega
 ·exact .inr ⟨by omega,.inr ⟨by omega,AO _ _ _ h3' h4' h3'' h4''⟩⟩
theorem xg{n:af}{a b:ar}(h:¬fy n a b<0):fy n b a<0\/a=b:=by
 by_cases e:fy n a b=0
 ·exact .inr (te e)
 ·left;rw[iK];omega
theorem wX{n:af}{a b c:ar}(h1:a.N=b.N)(h2:b.N=c.N)(h3:¬fy n a b<0)(h4:¬fy n b c<0):¬fy n a c<0:=by
 rcases xg h3 with h3|rfl
 ·rcases xg h4 with h4|rfl
  ·have:=BA h2.symm h1.symm h4 h3;rw[iK] at this;omega
  ·rw[iK] at h3;omega
 ·exact h4
def me(n:af)(l:List ar):Prop:=l.Pairwise fun a b=>¬fy n b a<0
theorem Ap{n:af}:∀(xs ys:List ar),xs.Perm ys->me n xs->me n ys->xs=ys
 |[],ys,h,_,_=>(List.nil_perm.1 h).symm
 |x::xs,[],h,_,_=>by have:=h.length_eq;simp at this
 | x :: xs, y :: ys, h, h1, h2 => by
   unfold me at h1 h2;rw[List.pairwise_cons] at h1 h2;have e:x=y:=by
    have m1:x∈y::ys:=h.mem_iff.1 List.mem_cons_self;have m2:y∈x::xs:=h.mem_iff.2 List.mem_cons_self;rw[List.mem_cons] at m1 m2;rcases m1 with e|m1
    ·exact e
    ·rcases m2 with e|m2
     ·exact e.symm
     ·have a1:=h2.1 x m1;have a2:=h1.1 y m2;have:=iK n x y;exact te (n:=n) (by omega)
   subst e;rw[Ap xs ys (List.Perm.cons_inv h) h1.2 h2.2]
def TS(s:Int)(L:List ar):Prop:=∀r∈L,r.N=s
theorem PB{n:af}{s:Int}{L:List ar}{r:ar}{k:Nat}(hs:TS s L)(hr:r.N=s)(hk:k<=L.length)(h:me n L)(h1:∀j y,k<=j->L[j]?=some y->fy n r y<0)
 (h2:∀y,0<k->L[k-1]?=some y->¬fy n r y<0):me n (L.take k++[r]++L.drop k):=by
 have hkL:L.take k++L.drop k=L:=List.take_append_drop k L;have hpw:me n (L.take k++L.drop k):=by rw[hkL];exact h
 unfold me at hpw⊢;rw[List.pairwise_append] at hpw;obtain⟨p1,p2,p3⟩:=hpw;have before:∀y∈L.take k,¬fy n r y<0:=fun y hy=>by
  obtain⟨j,hj⟩:=List.getElem?_of_mem hy;rw[List.getElem?_take] at hj;split at hj
  ·rename_i hjk;have hz:L[k-1]?=some (L[k-1]'(by omega)):=List.getElem?_eq_getElem _;have q:=h2 _ (by omega) hz;by_cases e:j=k-1
   ·subst e;rw[hz] at hj;cases hj;exact q
   ·have hyz:¬fy n (L[k-1]'(by omega)) y<0:=by
     have:=List.pairwise_iff_getElem.1 h j (k-1) (by omega) (by omega) (by omega);rw[(List.getElem?_eq_some_iff.1 hj).2] at this;exact this
    exact wX (hr.trans (hs _ (List.getElem_mem _)).symm) ((hs _ (List.getElem_mem _)).trans (hs _ (List.mem_of_mem_take hy)).symm) q hyz
  ·cases hj
 have after:∀y∈L.drop k,fy n r y<0:=fun y hy=>by
  obtain⟨j,hj⟩:=List.getElem?_of_mem hy;rw[List.getElem?_drop] at hj;exact h1 _ y (by omega) hj
 rw[List.append_assoc,List.pairwise_append,List.singleton_append,List.pairwise_cons];refine⟨p1,⟨fun y hy=>?_,p2⟩,fun x hx y hy=>?_⟩
 ·have:=after y hy;rw[iK];omega
 ·rw[List.mem_cons] at hy;rcases hy with rfl|hy
  ·exact before x hx
  ·exact p3 x hx y hy
theorem Eh{f:Int->Option (Int⊕Int)}{L:List ar}(hl:L.length<=1000)(g:ar->Int)
 (h1:∀(i:Nat)(y:ar),L[i]?=some y->f ((i+1:Nat):Int)=some (if decide (g y<0) then .inl (i:Int) else .inr ((i+1:Nat):Int))) (h2:f 0=some (.inr 0)):
 ∃k:Nat,bv f N0 (L.length:Int)=some (k:Int)/\k<=L.length/\(∀j y,k<=j->L[j]?=some y->g y<0)/\∀y,0<k->L[k-1]?=some y->¬g y<0:=by
 obtain⟨b,b1,b2⟩:=eh (f:=f) (fun s=>∃i:Nat,s=(i:Int)/\i<=L.length/\∀j y,i<=j->L[j]?=some y->g y<0) (fun s=>s.toNat) (fun b=>∃k:Nat,b=(k:Int)/\k<=L.length/\(∀j y,k<=j->L[j]?=some y->g y<0)/\∀y,0<k->L[k-1]?=some y->¬g y<0) (fun s⟨i,e,hi,hj⟩=>by
  subst e;cases i with
  |zero=>exact .inr ⟨0,h2,0,rfl,Nat.zero_le _,hj,fun y h=>by omega⟩
  | succ i =>
    have hat:=List.getElem?_eq_getElem (show i<L.length by omega);have hs:=h1 i _ hat;rw[hs];by_cases c:g L[i]<0
    ·rw[if_pos (by simpa using c)];refine .inl ⟨_,rfl,⟨i,rfl,by omega,fun j y hij hy=>?_⟩,by simp⟩;by_cases e:j=i
     ·subst e;rw[hat] at hy;cases hy;exact c
     ·exact hj j y (by omega) hy
    ·rw[if_neg (by simpa using c)];refine .inr ⟨_,rfl,i+1,rfl,hi,hj,fun y _ hy=>?_⟩;rw[show i+1-1=i by omega,hat] at hy;cases hy;exact c) N0 (L.length:Int) ⟨L.length,rfl,Nat.le_refl _,fun j y hj hy=>by have:=(List.getElem?_eq_some_iff.1 hy).1;omega⟩ (gH (by omega))
 obtain⟨k,e,hk⟩:=b2;exact⟨k,by rw[b1,e],hk⟩
theorem US{n:af}(hn:bU n=true){d:Int}{L:List ar}{r:ar}(hr:RtB n r)(hL:∀r∈L,RtB n r)(hl:L.length<=500)(hsm:TS r.N L)(hsr:me n L):
 ∃L',Ob r n.N n.F d L=some (n.N,n.F,d,L',L)/\L'.Perm (r::L)/\me n L':=by
 obtain⟨k,k1,k2,k3,k4⟩:=Eh (f:=Cv r n.N n.F L) (L:=L) (by omega) (fy n r) (fun i y hy=>by
  have hlt:=(List.getElem?_eq_some_iff.1 hy).1;have e1:decide (0<((i+1:Nat):Int))=true:=by simp only[decide_eq_true_eq];omega
  have e2:IntKind.wrap .i64 (((i+1:Nat):Int)-1)=(i:Int):=by rw[aG (by omega) (by omega)];omega
  unfold Cv;rw[e1,cond_true,e2,bq ⟨by omega,by omega⟩,Option.bind_some,Int.toNat_natCast,hy,Option.bind_some,xk hn hr (hL y (List.mem_of_getElem? hy)),Option.bind_some];cases decide (fy n r y<0)<;>rfl) (by simp[Cv])
 unfold Ob;rw[k1,Option.bind_some,bq ⟨trivial,by omega,trivial,by simpa using k2⟩];simp only[Option.bind_some,bnd,Int.toNat_natCast];rw[bq (by rw[mX _ _ k2];simp;omega),Option.bind_some,bq (by rw[mX _ _ k2];simp;omega),Option.bind_some,bq ⟨by omega,trivial,k2,trivial⟩,Option.bind_some,bq (by rw[mX _ _ k2,wW _ _ k2];simp;omega),Option.bind_some,mX _ _ k2,wW _ _ k2];refine⟨_,rfl,?_,PB hsm rfl k2 hsr k3 k4⟩;have hp:(L.take k++r::L.drop k).Perm (r::(L.take k++L.drop k)):=List.perm_middle;rw[List.take_append_drop] at hp;rw[List.append_assoc];exact hp
end Vs

namespace Vs
open Go
def dP(q:List Int):Int:=(q[q.length-1]?).getD 0
def fZ(n:af)(D:List Int->List Int->List ar)(v:Int)(p q:List Int)(i:Nat):List ar:=
 if 0<=cD n (i:Int) v/\cD n (i:Int) v∉q then D (p++[(i:Int)]) (q++[cD n (i:Int) v]) else []
def flS(n:af)(D:List Int->List Int->List ar)(v:Int)(p q:List Int)(k:Nat):List ar:=(List.range k).flatMap (fZ n D v p q)
def ij(n:af)(s d:Int)(D:List Int->List Int->List ar)(p q:List Int):List ar:=
 if dP q=d then [⟨s,p⟩] else flS n D (dP q) p q n.F.length
def mG(n:af)(s d:Int):Nat->List Int->List Int->List ar
 |0,p,q=>ij n s d (fun _ _=>[]) p q
 |k+1,p,q=>ij n s d (mG n s d k) p q
structure lz(n:af)(s:Int)(p q:List Int):Prop where
 S:NU n s p q
 V:∀ext,bX (mR n) (fun a=>some a.2) 0 (p++ext) (s,[s])=bX (mR n) (fun a=>some a.2) p.length ext (dP q,q)
theorem ra(q:List Int)(w:Int):dP (q++[w])=w:=by unfold dP;simp
theorem HT{q:List Int}(h:0<q.length):q[q.length-1]?=some (dP q):=by
 unfold dP;rw[List.getElem?_eq_getElem (show q.length-1<q.length by omega)];rfl
theorem MM{n:af}(hn:bU n=true){i:Nat}(hi:i<n.F.length){v:Int}(h0:0<=cD n (i:Int) v):cD n (i:Int) v<(n.N.length:Int):=by
 have hwi:wi (i:Int) 0 ((n.F.length:Int)-1)=true:=cw.2 (by omega);obtain⟨f,f1,f2⟩:=pV hwi;obtain⟨fa,fb,fc,_⟩:=nK hn f2;unfold cD at h0⊢;rw[f2] at h0⊢;simp only[jC] at h0⊢;by_cases c1:v=f.A
 ·rw[if_pos c1];omega
 ·rw[if_neg c1];by_cases c2:v=f.B
  ·rw[if_pos c2];omega
  ·rw[if_neg c2];omega
theorem lz.ext{n:af}(hn:bU n=true){s:Int}{p q:List Int}(h:lz n s p q){i:Nat}(hi:i<n.F.length)(h1:0<=cD n (i:Int) (dP q))(h2:cD n (i:Int) (dP q)∉q):
 lz n s (p++[(i:Int)]) (q++[cD n (i:Int) (dP q)]):=by
 have hp:=h.S;have hlt:=MM hn hi h1;refine⟨⟨by have:=hp.len;simp;omega,?_,fun x hx=>?_,fun x hx=>?_,hp.st⟩,fun ext=>?_⟩
 ·rw[List.nodup_append];refine⟨hp.nd,by simp,fun x hx y hy e=>?_⟩;simp only[List.mem_singleton] at hy;exact h2 (by rw[<-hy,<-e];exact hx)
 ·rcases List.mem_append.1 hx with h|h
  ·exact hp.rg x h
  ·simp only[List.mem_singleton] at h;rw[h];exact⟨h1,hlt⟩
 ·rcases List.mem_append.1 hx with h|h
  ·exact hp.pr x h
  ·simp only[List.mem_singleton] at h;rw[h];omega
 ·rw[List.append_assoc,h.V,List.singleton_append,ra,List.length_append,List.length_singleton];rw[bX];have hb:ri n (i:Int) (dP q,q)=false:=by
   unfold ri;have e1:wi (i:Int) 0 ((n.F.length:Int)-1)=true:=cw.2 (by omega);simp only[e1,decide_eq_false h2,decide_eq_false (show¬cD n (i:Int) (dP q)<0 by omega)];rfl
  unfold mR;rw[hb];rfl
structure RtV(n:af)(s:Int)(r:ar):Prop where
 st:r.N=s
 b:RtB n r
 v:(iy n r).isSome=true
theorem Bt{n:af}(hn:bU n=true){s d:Int}(hsd:s≠d)(hs:0<=s/\s<(n.N.length:Int)){D:List Int->List Int->List ar}{p q:List Int}(hD:∀p1 q1,lz n s p1 q1->q1.length=q.length+1->∀r∈D p1 q1,RtV n s r)(h:lz n s p q):∀r∈ij n s d D p q,RtV n s r:=by
 intro r hr;unfold ij at hr;split at hr
 ·rename_i e;rw[List.mem_singleton] at hr;subst hr;refine⟨rfl,h.S.rt hn,?_⟩;have hp:p.length≠0:=fun e0=>by
   have e1:p=[]:=List.length_eq_zero_iff.1 e0;subst e1;have h1:=h.V [];have h2:=h.S.len;obtain⟨x,hx⟩:∃x,q=[x]:=by
    match q,h2 with
    |[x],_=>exact⟨x,rfl⟩
   subst hx;simp only[List.append_nil,bX,Option.some.injEq,List.cons.injEq,and_true] at h1;apply hsd;rw[h1,<-e];rfl
  unfold iy;have e1:wi s 0 ((n.N.length:Int)-1)=true:=cw.2 (by omega);have h3:=h.V [];rw[List.append_nil] at h3;simp only[e1,decide_eq_false hp];rw[h3];rfl
 ·unfold flS at hr;rw[List.mem_flatMap] at hr;obtain⟨i,hi,hr⟩:=hr;rw[List.mem_range] at hi;unfold fZ at hr;split at hr
  ·rename_i h1;exact hD _ _ (h.ext hn hi h1.1 h1.2) (by simp) r hr
  ·cases hr
theorem rz{n:af}(hn:bU n=true){s d:Int}(hsd:s≠d)(hs:0<=s/\s<(n.N.length:Int)):∀(k:Nat)(p q:List Int),lz n s p q->∀r∈mG n s d k p q,RtV n s r
 |0,p,q,h=>Bt hn hsd hs (fun _ _ _ _ _ hr=>by cases hr) h
 |k+1,p,q,h=>Bt hn hsd hs (fun p1 q1 h1 _=>rz hn hsd hs k p1 q1 h1) h
structure GdL(n:af)(s:Int)(L:List ar):Prop where
 srt:me n L
 rt:∀r∈L,RtV n s r
def lG(n:af)(L D L':List ar):Prop:=me n L'/\(∀r∈L',r∈L\/r∈D)/\L'.length<=201/\(if L.length+D.length<=201 then L'.Perm (L++D) else L'.length=201)
theorem lG.refl{n:af}{L:List ar}(h:me n L)(hl:L.length<=201):lG n L [] L:=⟨h,fun r hr=>.inl hr,hl,by rw[if_pos (by simpa using hl),List.append_nil]⟩
theorem lG.trans{n:af}{L D1 L1 D2 L2:List ar}(h1:lG n L D1 L1)(hl:L1.length<=200)(h2:lG n L1 D2 L2):lG n L (D1++D2) L2:=by
 obtain⟨a1,a2,a3,a4⟩:=h1;obtain⟨b1,b2,b3,b4⟩:=h2;have c:L.length+D1.length<=201:=by
  apply Classical.byContradiction;intro h;rw[if_neg h] at a4;omega
 rw[if_pos c] at a4;have e:=a4.length_eq;rw[List.length_append] at e;refine⟨b1,fun r hr=>?_,b3,?_⟩
 ·rcases b2 r hr with h|h
  ·rcases a2 r h with h|h
   ·exact .inl h
   ·exact .inr (List.mem_append_left _ h)
  ·exact .inr (List.mem_append_right _ h)
 ·rw[List.length_append];by_cases c2:L1.length+D2.length<=201
  ·rw[if_pos c2] at b4;rw[if_pos (by omega),<-List.append_assoc];exact b4.trans (a4.append_right D2)
  ·rw[if_neg c2] at b4;rw[if_neg (by omega)];exact b4
theorem lG.full{n:af}{L D1 L1:List ar}(D2:List ar)(h1:lG n L D1 L1)(hl:¬L1.length<=200):lG n L (D1++D2) L1:=by
 obtain⟨a1,a2,a3,a4⟩:=h1;refine⟨a1,fun r hr=>(a2 r hr).imp id (List.mem_append_left _),a3,?_⟩;rw[List.length_append];split
 ·rename_i c;rw[if_pos (by omega)] at a4;have e:=a4.length_eq;rw[List.length_append] at e;have:D2=[]:=List.length_eq_zero_iff.1 (by omega);rw[this,List.append_nil];exact a4
 ·omega
theorem GdL.put{n:af}{s:Int}{L D L':List ar}(h:GdL n s L)(hD:∀r∈D,RtV n s r)(hq:lG n L D L'):GdL n s L':=⟨hq.1,fun r hr=>(hq.2.1 r hr).elim (h.rt r) (hD r)⟩
theorem fY(n:af)(D:List Int->List Int->List ar)(v:Int)(p q:List Int)(k:Nat):flS n D v p q (k+1)=flS n D v p q k++fZ n D v p q k:=by
 unfold flS;rw[List.range_succ,List.flatMap_append];simp
theorem qq(n:af)(D:List Int->List Int->List ar)(v:Int)(p q:List Int){k:Nat}:∀m,k<=m->∃R,flS n D v p q m=flS n D v p q k++R
 | 0, h => ⟨[], by have : k = 0 := by omega
                   subst this;simp⟩
 | m + 1, h => by
   by_cases e:k=m+1
   ·subst e;exact⟨[],by simp⟩
   ·obtain⟨R,hR⟩:=qq n D v p q m (show k<=m by omega);exact⟨R++fZ n D v p q m,by rw[fY,hR,List.append_assoc]⟩
theorem mb{n:af}(hn:bU n=true){s d:Int}(hsd:s≠d)(hs:0<=s/\s<(n.N.length:Int)){D:List Int->List Int->List ar}{rc:Int->List ByteArray->List ay->Int->List ar->List Int->List Int->Option (List ByteArray×List ay×Int×List ar×List Int)}
 {L:List ar} {p q:List Int} (hrc:∀(L:List ar)(p1 q1:List Int),lz n s p1 q1->q1.length=q.length+1->GdL n s L->L.length<=200->∃L',rc s n.N n.F d L p1 q1=some (n.N,n.F,d,L',q1)/\lG n L (D p1 q1) L')
 (hD:∀p1 q1,lz n s p1 q1->q1.length=q.length+1->∀r∈D p1 q1,RtV n s r) (hp:lz n s p q) (hL:GdL n s L) (hl:L.length<=200):
 ∃L',Ep rc s n.N n.F d L p q=some (n.N,n.F,d,L',q)/\lG n L (ij n s d D p q) L':=by
 obtain⟨b1,b2,b3⟩:=cY hn;have h1:=hp.S.le;have h2:=hp.S.len;have hix:IntKind.wrap .i64 ((q.length:Int)-1)=((q.length-1:Nat):Int):=by rw[aG (by omega) (by omega)];omega
 unfold Ep ij;rw[hix,bq ⟨by omega,by omega⟩,Option.bind_some,Int.toNat_natCast,HT (by omega),Option.bind_some];by_cases hv:dP q=d
 ·have e0:(dP q==d)=true:=by simpa using hv
  rw[e0,if_pos hv,cond_true];obtain⟨L',e1,e2,e3⟩:=US hn (d:=d) (r:=⟨s,p⟩) (hp.S.rt hn) (fun r hr=>(hL.rt r hr).b) (by omega) (fun r hr=>(hL.rt r hr).st) hL.srt;rw[e1,Option.bind_some];have hlen:=e2.length_eq;rw[List.length_cons] at hlen;refine⟨L',rfl,e3,fun r hr=>?_,by omega,?_⟩
  ·rcases List.mem_cons.1 (e2.mem_iff.1 hr) with h|h
   ·exact .inr (by rw[h];simp)
   ·exact .inl h
  ·rw[if_pos (by simp;omega)];have hp2:(L++(⟨s,p⟩:ar)::[]).Perm ((⟨s,p⟩:ar)::(L++[])):=List.perm_middle;rw[List.append_nil] at hp2;exact e2.trans hp2.symm
 ·have e0:(dP q==d)=false:=by simpa using hv
  rw[e0,if_neg hv,cond_false];generalize hvq:dP q=v at*
  obtain⟨b,o1,o2⟩:=eh (f:=HP s p q rc v) (fun t=>∃(i:Nat)(L':List ar),t=((i:Int),n.N,n.F,d,L')/\i<=n.F.length/\lG n L (flS n D v p q i) L') (fun t=>n.F.length-t.1.toNat) (fun b=>∃L',b=(n.N,n.F,d,L')/\lG n L (flS n D v p q n.F.length) L') (fun t⟨i,L',e,hi,hL'⟩=>by
   subst e;have hgd:GdL n s L':=hL.put (fun r hr=>by
    unfold flS at hr;rw[List.mem_flatMap] at hr;obtain⟨j,hj,hr⟩:=hr;rw[List.mem_range] at hj;unfold fZ at hr;split at hr
    ·rename_i c;subst hvq;exact hD _ _ (hp.ext hn (by omega) c.1 c.2) (by simp) r hr
    ·cases hr) hL'
   unfold HP;by_cases h3:i<n.F.length/\L'.length<=200
   ·left;have e1:decide ((i:Int)<(n.F.length:Int))=true:=by simp[h3.1]
    have e2:decide ((L'.length:Int)<=200)=true:=by simp only[decide_eq_true_eq];omega
    have hwi:wi (i:Int) 0 ((n.F.length:Int)-1)=true:=cw.2 (by omega);simp only[e1,e2,cond_true,Option.bind_some,tm n (i:Int) v hwi,oV q _ (show q.length<=1048576 by omega)];by_cases h4:0<=cD n (i:Int) v/\cD n (i:Int) v∉q
    ·have e3:decide (0<=cD n (i:Int) v)=true:=by simp[h4.1]
     have e4:(q.any fun y=>y==cD n (i:Int) v)=false:=by rw[<-uN];exact decide_eq_false h4.2
     have hP:lz n s (p++[(i:Int)]) (q++[cD n (i:Int) v]):=by subst hvq;exact hp.ext hn h3.1 h4.1 h4.2
     have hle:=hP.S.le;simp only[List.length_append,List.length_singleton] at hle;obtain⟨L2,c1,c2⟩:=hrc L' (p++[(i:Int)]) (q++[cD n (i:Int) v]) hP (by simp) hgd h3.2;have ep:M_n p=some p:=by unfold M_n;rw[bq (by omega)];rfl
     have eq:M_n q=some q:=by unfold M_n;rw[bq (by omega)];rfl
     simp only[e3,e4,cond_true,Bool.not_false,Option.bind_some,ep,eq,bnd];rw[bq (by omega),Option.bind_some,bq (by omega),Option.bind_some,c1,Option.bind_some];have hst:fZ n D v p q i=D (p++[(i:Int)]) (q++[cD n (i:Int) v]):=by unfold fZ;rw[if_pos h4]
     refine⟨_,rfl,⟨i+1,L2,by rw[aG (by omega) (by omega)];rfl,by omega,by rw[fY,hst];exact hL'.trans h3.2 c2⟩,?_⟩;simp only;rw[aG (by omega) (by omega)];omega
    ·have e3:(cond (decide (0<=cD n (i:Int) v)) (some (!(q.any fun y=>y==cD n (i:Int) v))) (some false):Option Bool)=some false:=by
      by_cases h5:0<=cD n (i:Int) v
      ·have:(q.any fun y=>y==cD n (i:Int) v)=true:=by
        rw[<-uN,decide_eq_true_eq];exact Classical.byContradiction fun h6=>h4 ⟨h5,h6⟩
       simp[h5,this]
      ·simp[h5]
     rw[e3];simp only[Option.bind_some,cond_false];have hst:fZ n D v p q i=[]:=by unfold fZ;rw[if_neg h4]
     refine⟨_,rfl,⟨i+1,L',by rw[aG (by omega) (by omega)];rfl,by omega,by rw[fY,hst,List.append_nil];exact hL'⟩,?_⟩;simp only;rw[aG (by omega) (by omega)];omega
   ·right;have e1:(cond (decide ((i:Int)<(n.F.length:Int))) (some (decide ((L'.length:Int)<=200))) (some false):Option Bool)=some false:=by
     by_cases h5:i<n.F.length
     ·have:¬L'.length<=200:=fun h=>h3 ⟨h5,h⟩;have e6:decide ((L'.length:Int)<=200)=false:=by simp only[decide_eq_false_iff_not];omega
      simp[h5,e6]
     ·simp[h5]
    simp only[e1,Option.bind_some,cond_false];refine⟨_,rfl,L',rfl,?_⟩;by_cases h5:i<n.F.length
    ·obtain⟨R,hR⟩:=qq n D v p q n.F.length hi;rw[hR];exact hL'.full R fun h=>h3 ⟨h5,h⟩
    ·have:i=n.F.length:=by omega
     rw[<-this];exact hL') N0 (0,n.N,n.F,d,L) ⟨0,L,rfl,Nat.zero_le _,lG.refl hL.srt (by omega)⟩ (gH (by simp only;omega))
  obtain⟨L',e,hL'⟩:=o2;rw[o1,e];exact⟨L',rfl,hL'⟩
theorem wz{n:af}(hn:bU n=true){s d:Int}(hsd:s≠d)(hs:0<=s/\s<(n.N.length:Int)):∀(k m:Nat),k<m->∀(L:List ar)(p q:List Int),lz n s p q->q.length+k=n.N.length->GdL n s L->L.length<=200->
 ∃L',xJ m s n.N n.F d L p q=some (n.N,n.F,d,L',q)/\lG n L (mG n s d k p q) L'
 |0,0,h=>by omega
 |0,m+1,_=>fun L p q hp hq hL hl=>mb hn hsd hs (fun L1 p1 q1 hp1 e _ _=>by have:=hp1.S.le;omega) (fun _ _ _ _ _ hr=>by cases hr) hp hL hl
 | k + 1, m, hm => fun L p q hp hq hL hl => by
   obtain⟨m,rfl⟩:∃m',m=m'+1:=⟨m-1,by omega⟩;exact mb hn hsd hs (fun L1 p1 q1 hp1 e hL1 hl1=>wz hn hsd hs k m (by omega) L1 p1 q1 hp1 (by omega) hL1 hl1) (fun p1 q1 h1 _=>rz hn hsd hs k p1 q1 h1) hp hL hl
def jS(n:af)(s d:Int):List ar:=mG n s d (n.N.length-1) [] [s]
theorem QF{n:af}(hn:bU n=true){s:Int}(hs:0<=s/\s<(n.N.length:Int)):lz n s [] [s]:=by
 have:=cY hn;exact⟨⟨rfl,by simp,fun x hx=>by simp only[List.mem_singleton] at hx;rw[hx];exact hs,fun e he=>(by cases he),⟨hs.1,by omega⟩⟩,fun ext=>rfl⟩
theorem WO{n:af}(hn:bU n=true){s d:Int}(hsd:s≠d)(hs:0<=s/\s<(n.N.length:Int)):∃L,(if(jS n s d).length<=200 then FN n s d=some (true,L)/\L.Perm (jS n s d)/\me n L else FN n s d=some (false,[])):=by
 obtain⟨b1,b2,b3⟩:=cY hn;obtain⟨k,hk⟩:∃k,n.N.length=k+2:=⟨n.N.length-2,by omega⟩;have e:Qz s n.N n.F d [s]=Ep (xJ N0) s n.N n.F d [] [] [s]:=rfl;obtain⟨L,e1,e2,e3,e4,e5⟩:=mb hn hsd hs (D:=mG n s d k) (rc:=xJ N0) (L:=[]) (p:=[]) (q:=[s]) (fun L1 p1 q1 hp1 e hL1 hl1=>wz hn hsd hs k N0 (gH (by omega)) L1 p1 q1 hp1 (by simp only[List.length_singleton] at e;omega) hL1 hl1) (fun p1 q1 h1 _=>rz hn hsd hs k p1 q1 h1) (QF hn hs) ⟨List.Pairwise.nil,fun r hr=>by cases hr⟩ (by simp);have hr:jS n s d=ij n s d (mG n s d k) [] [s]:=by unfold jS;rw[hk];rfl
 rw[<-hr] at e5;refine⟨L,?_⟩;unfold FN;simp only[bnd,List.length_nil,Nat.zero_add,List.nil_append] at e5⊢;rw[e,e1,Option.bind_some];by_cases h:(jS n s d).length<=200
 ·rw[if_pos (by omega)] at e5;have hl:=e5.length_eq;have e7:decide ((200:Int)<(L.length:Int))=false:=by simp only[decide_eq_false_iff_not];omega
  rw[if_pos h];refine⟨?_,e5,e2⟩;show cond (decide ((200:Int)<(L.length:Int))) _ _=_;rw[e7,cond_false,bq (by simp only;omega)];rfl
 ·have hl:L.length=201:=by
   by_cases h2:(jS n s d).length<=201
   ·rw[if_pos h2] at e5;have:=e5.length_eq;omega
   ·rw[if_neg h2] at e5;exact e5
  rw[if_neg h];have e7:decide ((200:Int)<(L.length:Int))=true:=by simp only[decide_eq_true_eq];omega
  show cond (decide ((200:Int)<(L.length:Int))) _ _=_;rw[e7];rfl
end Vs

namespace Vs
open Go
theorem XJ(m i:Nat)(hi:i<64)(hm:m<2^62):(bits .and .i64 (Int.fdiv (m:Int) (2^(min i (IntKind.bits .i64)))) 1==0)=!m.testBit i:=by
 have e1:min i (IntKind.bits .i64)=i:=by rw[show IntKind.bits .i64=64 from rfl];omega
 have e2:Int.fdiv (m:Int) (2^i)=((m/2^i:Nat):Int):=by
  rw[Int.fdiv_eq_ediv_of_nonneg _ (by exact_mod_cast Nat.zero_le (2^i))];simp
 have hlt:m/2^i<2^62:=Nat.lt_of_le_of_lt (Nat.div_le_self ..) hm;rw[e1,e2];have e3:bits .and .i64 ((m/2^i:Nat):Int) 1=((m/2^i%2:Nat):Int):=by
  show IntKind.wrap .i64 ((BitVec.ofInt 64 ((m/2^i:Nat):Int) &&& BitVec.ofInt 64 ((1:Nat):Int)).toNat:Int)=_;rw[nG,nG,BitVec.toNat_and,BitVec.toNat_ofNat,BitVec.toNat_ofNat,Nat.mod_eq_of_lt (by omega),Nat.mod_eq_of_lt (by omega),Nat.and_one_is_mod,aG (by omega) (by omega)]
 rw[e3,Nat.testBit_eq_decide_div_mod_eq];have:=Nat.mod_two_eq_zero_or_one (m/2^i);rcases this with h|h<;>rw[h]<;>simp
theorem Nw(xs:List Int)(hl:xs.length<=1048576):EN xs=some xs:=by
 unfold EN;rw[bq (by omega)];simp only[Option.bind_some];cases xs with
 |nil=>rfl
 |cons x xs=>rfl
def vf(m:Nat)(q:List Int):Prop:=m<2^8/\∀i:Nat,m.testBit i=decide ((i:Int)∈q)
theorem AA{w:Nat}(hw:w<8):IntKind.wrap .i64 (1*2^(min w (IntKind.bits .i64)))=((2^w:Nat):Int):=by
 have e1:min w (IntKind.bits .i64)=w:=by rw[show IntKind.bits .i64=64 from rfl];omega
 have q:(2:Nat)^w<=2^8:=Nat.pow_le_pow_right (by omega) (by omega);have p1:(1*2^w:Int)=((2^w:Nat):Int):=by rw[Int.one_mul];exact_mod_cast rfl
 have p2:((2^w:Nat):Int)<=256:=Int.ofNat_le.2 q;have p3:(0:Int)<=((2^w:Nat):Int):=Int.natCast_nonneg _;rw[e1,p1];generalize ((2^w:Nat):Int)=z at p2 p3;exact aG (by omega) (by omega)
theorem vf.ext{m:Nat}{q:List Int}(h:vf m q){w:Nat}(hw:w<8):vf (m ||| 2^w) (q++[(w:Int)]):=by
 refine⟨Nat.or_lt_two_pow h.1 (Nat.pow_lt_pow_right (by omega) hw),fun i=>?_⟩;rw[Nat.testBit_or,h.2,Nat.testBit_two_pow,Bool.eq_iff_iff];simp only[Bool.or_eq_true,decide_eq_true_eq,List.mem_append,List.mem_singleton];constructor
 ·rintro(h|h)
  ·exact .inl h
  ·right;omega
 ·rintro(h|h)
  ·exact .inl h
  ·right;omega
theorem ma{n:af}(hn:bU n=true){s d:Int}{D:List Int->List Int->List ar}{rc:Int->Int->List Int->Int->List ar->Int->af->Option (Int×List ar×Int×af)}{p q:List Int}{m:Nat}{out:List ar}
 (hrc:∀(p1 q1:List Int)(m1:Nat)(out:List ar),lz n s p1 q1->q1.length=q.length+1->vf m1 q1->out.length+(D p1 q1).length<=1000000000000->rc (dP q1) (m1:Int) p1 d out s n=some (d,out++D p1 q1,s,n))
 (hp:lz n s p q) (hm:vf m q) (hlen:out.length+(ij n s d D p q).length<=1000000000000):
 Ns rc (dP q) (m:Int) p d out s n=some (d,out++ij n s d D p q,s,n):=by
 obtain⟨b1,b2,b3⟩:=cY hn;have h1:=hp.S.le;have h2:=hp.S.len;unfold Ns;unfold ij at hlen⊢;by_cases hv:dP q=d
 ·have e0:(dP q==d)=true:=by simpa using hv
  rw[if_pos hv] at hlen⊢;simp only[List.length_singleton] at hlen;rw[e0,cond_true,Nw p (by omega),Option.bind_some];simp only[bnd];rw[bq (by omega)];rfl
 ·have e0:(dP q==d)=false:=by simpa using hv
  rw[if_neg hv] at hlen⊢;rw[e0,cond_false];generalize hvq:dP q=v at*
  obtain⟨b,o1,o2⟩:=eh (f:=Kw v (m:Int) p n rc) (fun t=>∃i:Nat,t=((i:Int),d,out++flS n D v p q i,s,n)/\i<=n.F.length) (fun t=>n.F.length-t.1.toNat) (fun b=>b=(d,out++flS n D v p q n.F.length,s,n)) (fun t⟨i,e,hi⟩=>by
   subst e;unfold Kw;by_cases h3:i<n.F.length
   ·left;have e1:decide ((i:Int)<(n.F.length:Int))=true:=by simp[h3]
    have hat:n.F[i]?=some n.F[i]:=List.getElem?_eq_getElem h3;have ho:cD n (i:Int) v=jC n.F[i] v:=by unfold cD;rw[Int.toNat_natCast,hat]
    have w1:IntKind.wrap .i64 ((i:Int)+1)=((i+1:Nat):Int):=by rw[aG (by omega) (by omega)];rfl
    simp only[e1,cond_true,aU,hat,Option.bind_some,pD,<-ho,w1];by_cases h0:0<=cD n (i:Int) v
    ·obtain⟨w,hw⟩:=Int.eq_ofNat_of_zero_le h0;have hlt:=MM hn h3 h0;rw[hw] at hlt;have hw8:w<8:=by omega
     simp only[hw,Int.toNat_natCast];rw[bq (by omega)];simp only[Option.bind_some,decide_eq_true (show(0:Int)<=(w:Int) by omega),cond_true,XJ m w (by omega) (by have:=hm.1;omega),hm.2 w];by_cases h4:(w:Int)∈q
     ·rw[decide_eq_true h4];simp only[Bool.not_true,cond_false];have hst:fZ n D v p q i=[]:=by unfold fZ;rw[if_neg (by rw[hw];exact fun h=>h.2 h4)]
      exact⟨_,rfl,⟨i+1,by rw[fY,hst,List.append_nil],by omega⟩,by simp only;omega⟩
     ·rw[decide_eq_false h4];simp only[Bool.not_false,cond_true,bnd];have h5:0<=cD n (i:Int) v/\cD n (i:Int) v∉q:=⟨h0,by rw[hw];exact h4⟩;have hst:fZ n D v p q i=D (p++[(i:Int)]) (q++[(w:Int)]):=by unfold fZ;rw[if_pos h5,hw]
      have hP:lz n s (p++[(i:Int)]) (q++[(w:Int)]):=by subst hvq;rw[<-hw];exact hp.ext hn h3 h5.1 h5.2
      obtain⟨R,hR⟩:=qq n D v p q n.F.length (show i+1<=n.F.length by omega);rw[hR,fY,hst,List.length_append,List.length_append] at hlen;have hw2:(2:Nat)^w<=2^8:=Nat.pow_le_pow_right (by omega) (by omega);have hm1:=hm.1;rw[bq (by omega),Option.bind_some,AA hw8,Rs m (2^w) (by omega) (by omega)];have hc:=hrc (p++[(i:Int)]) (q++[(w:Int)]) (m ||| 2^w) (out++flS n D v p q i) hP (by simp) (hm.ext hw8) (by rw[List.length_append];omega);rw[ra] at hc;rw[hc,Option.bind_some];exact⟨_,rfl,⟨i+1,by rw[fY,hst,List.append_assoc],by omega⟩,by simp only;omega⟩
    ·have e3:decide (0<=cD n (i:Int) v)=false:=decide_eq_false h0;simp only[e3,cond_false,Option.bind_some];have hst:fZ n D v p q i=[]:=by unfold fZ;rw[if_neg fun h=>h0 h.1]
     exact⟨_,rfl,⟨i+1,by rw[fY,hst,List.append_nil],by omega⟩,by simp only;omega⟩
   ·right;have:i=n.F.length:=by omega
    subst this;have e1:decide ((n.F.length:Int)<(n.F.length:Int))=false:=by simp
    simp only[e1,cond_false];exact⟨_,rfl,rfl⟩) N0 (0,d,out,s,n) ⟨0,by simp[flS],by omega⟩ (gH (by simp only;omega))
  rw[o1,o2];rfl
theorem wR{n:af}(hn:bU n=true){s d:Int}:∀(k f:Nat),k<f->∀(p q:List Int)(m:Nat)(out:List ar),lz n s p q->q.length+k=n.N.length->vf m q->out.length+(mG n s d k p q).length<=1000000000000->
 FR f (dP q) (m:Int) p d out s n=some (d,out++mG n s d k p q,s,n)
 |0,0,h=>by omega
 |0,f+1,_=>fun p q m out hp hq hm hl=>ma hn (fun p1 q1 m1 out1 hp1 e _ _=>by have:=hp1.S.le;omega) hp hm hl
 | k + 1, f, hf => fun p q m out hp hq hm hl => by
   obtain⟨f,rfl⟩:∃f',f=f'+1:=⟨f-1,by omega⟩;exact ma hn (fun p1 q1 m1 out1 hp1 e hm1 hl1=>wR hn k f (by omega) p1 q1 m1 out1 hp1 (by omega) hm1 hl1) hp hm hl
theorem SR{n:af}(hn:bU n=true){s d:Int}:∀(k:Nat)(p q:List Int),(mG n s d k p q).length<=14^k:=by
 obtain⟨b1,b2,b3⟩:=cY hn;have body:∀(D:List Int->List Int->List ar)(B:Nat)(p q:List Int),(∀p q,(D p q).length<=B)->(ij n s d D p q).length<=max 1 (14*B):=by
  intro D B p q hD;unfold ij;split
  ·simp;omega
  ·have gen:∀m,(flS n D (dP q) p q m).length<=m*B:=by
    intro m;induction m with
    |zero=>simp[flS]
    | succ m ih =>
      rw[fY,List.length_append,Nat.add_mul,Nat.one_mul];have:(fZ n D (dP q) p q m).length<=B:=by
       unfold fZ;split
       ·exact hD _ _
       ·simp
      omega
   have h1:=gen n.F.length;have h2:n.F.length*B<=14*B:=Nat.mul_le_mul_right B b3;omega
 intro k;induction k with
 | zero =>
   intro p q;have:=body (fun _ _=>[]) 0 p q (fun _ _=>by simp);simpa[mG] using this
 | succ k ih =>
   intro p q;have:=body (mG n s d k) (14^k) p q ih;have h2:0<14^k:=Nat.pow_pos (by omega);rw[Nat.pow_succ];show(ij n s d (mG n s d k) p q).length<=_;omega
theorem Rj{n:af}(hn:bU n=true)(s d:Int):(jS n s d).length<=105413504:=by
 obtain⟨b1,b2,b3⟩:=cY hn;have h1:=SR hn (s:=s) (d:=d) (n.N.length-1) [] [s];have h2:(14:Nat)^(n.N.length-1)<=14^7:=Nat.pow_le_pow_right (by omega) (by omega);unfold jS;omega
theorem WY{n:af}(hn:bU n=true){s d:Int}(hsd:s≠d)(hs:0<=s/\s<(n.N.length:Int)):∃ys,HX n s d=some ys/\ys.Perm (jS n s d)/\me n ys:=by
 obtain⟨b1,b2,b3⟩:=cY hn;obtain⟨k,hk⟩:∃k,n.N.length=k+2:=⟨n.N.length-2,by omega⟩;obtain⟨w,rfl⟩:=Int.eq_ofNat_of_zero_le hs.1;have hrl:=Rj hn (w:Int) d;have hr:jS n (w:Int) d=ij n (w:Int) d (mG n (w:Int) d k) [] [(w:Int)]:=by unfold jS;rw[hk];rfl
 have hm:vf (2^w) [(w:Int)]:=by
  have:vf 0 []:=⟨by omega,fun i=>by simp⟩;have:=this.ext (w:=w) (by omega);simpa using this
 have hc:=ma hn (s:=(w:Int)) (d:=d) (D:=mG n (w:Int) d k) (rc:=FR N0) (p:=[]) (q:=[(w:Int)]) (m:=2^w) (out:=[]) (fun p1 q1 m1 out1 hp1 e hm1 hl1=>wR hn k N0 (gH (by omega)) p1 q1 m1 out1 hp1 (by simp only[List.length_singleton] at e;omega) hm1 hl1) (QF hn hs) hm (by rw[<-hr];simp;omega);rw[<-hr] at hc;have hok:=rz hn hsd hs (n.N.length-1) [] [(w:Int)] (QF hn hs);obtain⟨ys,y1,y2,y3⟩:=yX (cmp:=fun x0 x1=>zC x0 x1 n) (xs:=jS n (w:Int) d) (fy n) (by omega) (fun x hx y hy=>by
  show zC x y n=_;unfold zC;rw[oL (hok x hx).b (hok y hy).b];rfl) (fun x _=>HJ n x) (fun x hx y hy z hz=>BA ((hok x hx).st.trans (hok y hy).st.symm) ((hok y hy).st.trans (hok z hz).st.symm)) (fun x hx y hy z hz=>wX ((hok x hx).st.trans (hok y hy).st.symm) ((hok y hy).st.trans (hok z hz).st.symm))
 refine⟨ys,?_,y2,y3⟩;unfold HX;have e0:(((w:Int)) !=d)=true:=bne_iff_ne.2 hsd;have e1:SV (w:Int) (IntKind.wrap .i64 (1*2^(min (Int.toNat (w:Int)) (IntKind.bits .i64)))) [] d [] (w:Int) n=some (d,jS n (w:Int) d,(w:Int),n):=by
  rw[Int.toNat_natCast,AA (show w<8 by omega)];rw[show dP [(w:Int)]=(w:Int) from rfl,List.nil_append] at hc;exact hc
 rw[e0,cond_true,bq (by omega),Option.bind_some,e1];simp only[Option.bind_some];rw[y1];rfl
theorem Vy(xs:List Int)(f:Int->Option Bool)(p:Int->Bool)(hf:∀x,f x=some (p x))(hl:xs.length<=1048576):Lj xs f=some (xs.any p):=by
 unfold Lj Sc;rw[cy (f:=FI xs f) xs (fun _ x=>p x) (fun i _=>(i:Int)) () (fun i x hx _=>by
  have hlt:=(List.getElem?_eq_some_iff.1 hx).1;have h1:decide ((i:Int)<xs.length)=true:=by simp[hlt]
  simp only[FI,h1,cond_true,aU,hx,hf x,Option.bind_some];rw[aG (by omega) (by omega)];cases p x<;>rfl) (by simp[FI]) (by omega)]
 rw[<-qH];cases e:cL (fun _ x=>p x) xs with
 | none =>
   have h:eX (fun _ x=>p x) xs=false:=df.2 (eW.1 e);rw[h];rfl
 | some q =>
   obtain⟨i,x⟩:=q;obtain⟨h1,h2,_⟩:=cV.1 e;have h:eX (fun _ x=>p x) xs=true:=gG.2 ⟨i,x,h1,h2⟩;rw[h];simp
theorem NQ{n:af}(hn:bU n=true)(hz:aX n<=1048576){s d:Int}(hsd:s≠d)(hs:0<=s/\s<(n.N.length:Int))(hd:0<=d/\d<(n.N.length:Int)):∃L,(if(jS n s d).length<=200 then vh n s d=some (L,true)/\L.Perm (jS n s d)/\me n L else vh n s d=some ([],false)):=by
 obtain⟨b1,b2,b3⟩:=cY hn;obtain⟨L,l1,l2,l3⟩:=WY hn hsd hs;have hl:=l2.length_eq;refine⟨L,?_⟩;have e1:MZ n [s,d]=some true:=by
  unfold MZ;rw[iR n hz,hn];simp only[Option.bind_some,cond_true];rw[Vy [s,d] _ (fun x=>!wi x 0 ((n.N.length:Int)-1)) (fun x=>by
   unfold Ta;rw[aG (by omega) (by omega),eF];rfl) (by simp)]
  have q1:wi s 0 ((n.N.length:Int)-1)=true:=cw.2 (by omega);have q2:wi d 0 ((n.N.length:Int)-1)=true:=cw.2 (by omega);simp[q1,q2]
 have e2:(s==d)=false:=by simpa using hsd
 unfold vh;simp only[bnd,e1,Option.bind_some,Bool.not_true,cond_false,e2,l1];by_cases h:(jS n s d).length<=200
 ·rw[if_pos h];have e3:decide ((200:Int)<(L.length:Int))=false:=by simp only[decide_eq_false_iff_not];omega
  rw[e3];exact⟨rfl,l2,l3⟩
 ·rw[if_neg h];have e3:decide ((200:Int)<(L.length:Int))=true:=by simp only[decide_eq_true_eq];omega
  rw[e3];rfl
end Vs

namespace Vs
open Go
def yO(z:Int):Prop:=∃m:Nat,z=(m:Int)/\m<2^24
def LsB(L:List aj):Prop:=∀o∈L,o.N.N+o.N.F<=24
theorem Uq{b:bd}(h:jI b)(h3:b.N+b.F<=24):yO (dG b):=by
 refine⟨_,(uw h).1,?_⟩;obtain⟨⟨f1,f2⟩,c1,c2⟩:=h;have hf1:1<=(2:Nat)^b.N.toNat:=Nat.one_le_two_pow;have g1:(2:Nat)^b.F.toNat*2^b.N.toNat<=2^24:=by rw[<-Nat.pow_add];exact Nat.pow_le_pow_right (by omega) (by omega)
 have:=Nat.mul_le_mul_right (2^b.N.toNat) (Nat.one_le_two_pow (n:=b.F.toNat));rw[Nat.sub_mul];omega
theorem VM{α:Type}(g:α->Int)(p:α->Bool):∀(xs:List α)(k:Nat)(a:Int),yO a->(∀x∈xs,yO (g x))->yO (cQ (fun _ x(a:Int)=>if p x then bits .or .i64 a (g x) else a) k xs a)
 |[],_,a,ha,_=>ha
 | x :: xs, k, a, ha, hg => by
   simp only[cQ];refine VM g p xs (k+1) _ ?_ fun y hy=>hg y (by simp[hy]);split
   ·obtain⟨m,rfl,hm⟩:=ha;obtain⟨j,e,hj⟩:=hg x (by simp);rw[e];exact⟨m ||| j,Rs m j (by omega) (by omega),Nat.or_lt_two_pow hm hj⟩
   ·exact ha
theorem Ud:yO 0:=⟨0,rfl,by decide⟩
theorem Xd{n:af}{L:List aj}(hL:nT n L)(hB:LsB L)(fs:List Int):yO (jb L fs):=
 VM (oA L) (fun _=>true) fs 0 0 Ud fun f _=>VM (fun o:aj=>dG o.N) (fun o:aj=>o.F.F.any fun y=>y==f) L 0 0 Ud fun o ho=>Uq (hL.2 o ho).b (hB o ho)
def fmS(m:Int)(_:Nat)(f:Int)(o:List Int):List Int:=o.set f.toNat (bits .or .i64 (gz o f.toNat) m)
theorem Kg(m:Int):∀(fs:List Int)(k:Nat)(o:List Int),fs.Nodup->(∀f∈fs,0<=f/\f<(o.length:Int))->
 (cQ (fmS m) k fs o).length=o.length/\∀i:Nat,gz (cQ (fmS m) k fs o) i=if(i:Int)∈fs then bits .or .i64 (gz o i) m else gz o i
 |[],_,o,_,_=>⟨rfl,fun i=>by simp[cQ]⟩
 | f :: fs, k, o, hn, hf => by
   obtain⟨h1,h2⟩:=List.nodup_cons.1 hn;have hf0:=hf f (by simp);have hl:(fmS m k f o).length=o.length:=by simp[fmS]
   obtain⟨g1,g2⟩:=Kg m fs (k+1) (fmS m k f o) h2 fun x hx=>by rw[hl];exact hf x (by simp[hx])
   simp only[cQ];refine⟨by rw[g1,hl],fun i=>?_⟩;rw[g2];unfold fmS;rw[jW (by omega)];by_cases e:i=f.toNat
   ·have ei:(i:Int)=f:=by omega
    rw[if_pos e,ei,if_neg h1,if_pos (by simp),e]
   ·rw[if_neg e];have e2:((i:Int)∈f::fs)↔(i:Int)∈fs:=by
     rw[List.mem_cons];exact⟨fun h=>h.resolve_left fun e'=>e (by omega),.inr⟩
    by_cases e3:(i:Int)∈fs
    ·rw[if_pos e3,if_pos (e2.2 e3)]
    ·rw[if_neg e3,if_neg fun h=>e3 (e2.1 h)]
def fmG(_:Nat)(x:aj)(o:List Int):List Int:=cQ (fmS (dG x.N)) 0 x.F.F o
theorem Nt{N:Nat}:∀(L:List aj)(k:Nat)(o:List Int),o.length=N->(∀x∈L,x.F.F.Nodup/\∀f∈x.F.F,0<=f/\f<(N:Int))->
 (cQ fmG k L o).length=N/\∀i:Nat,gz (cQ fmG k L o) i=cQ (fun _(x:aj)(a:Int)=>if(x.F.F.any fun y=>y==(i:Int)) then bits .or .i64 a (dG x.N) else a) k L (gz o i)
 |[],_,o,ho,_=>⟨ho,fun i=>rfl⟩
 | x :: L, k, o, ho, hL => by
   obtain⟨h1,h2⟩:=hL x (by simp);obtain⟨a1,a2⟩:=Kg (dG x.N) x.F.F 0 o h1 fun f hf=>by rw[ho];exact h2 f hf
   obtain⟨b1,b2⟩:=Nt L (k+1) (fmG k x o) (by rw[<-ho];exact a1) fun y hy=>hL y (by simp[hy]);simp only[cQ];refine⟨b1,fun i=>?_⟩;rw[b2];congr 1;show gz (cQ _ _ _ _) i=_;rw[a2];by_cases e:(i:Int)∈x.F.F
   ·rw[if_pos e,if_pos (List.any_eq_true.2 ⟨_,e,by simp⟩)]
   ·rw[if_neg e,if_neg fun h=>e (by obtain⟨z,h1,h2⟩:=List.any_eq_true.1 h;rw[beq_iff_eq] at h2;rw[<-h2];exact h1)]
theorem Si{n:af}{x:aj}(hx:iU n x):∀f∈x.F.F,0<=f/\f<(n.F.length:Int):=fun f hf=>by
 have:=hx.r.fib f hf;unfold fibI at this;first|omega|(have:=cw.1 this;omega)
theorem uf{n:af}{L:List aj}(hn:n.F.length<=14)(hL:nT n L):∃ms,MI ⟨n,L⟩=some ms/\ms.length=n.F.length/\∀i:Nat,gz ms i=oA L (i:Int):=by
 have hx:=fun x hx=>(⟨(hL.2 x hx).r.nod,Si (hL.2 x hx)⟩:x.F.F.Nodup/\∀f∈x.F.F,0<=f/\f<(n.F.length:Int));have h12:=hL.1;obtain⟨r1,r2⟩:=Nt L 0 (List.replicate n.F.length 0) (by simp) hx;refine⟨_,?_,r1,fun i=>by rw[r2];unfold oA gz;congr 1;rw[List.getElem?_replicate];split<;>rfl⟩;unfold MI;rw[bq (by dsimp only;omega)];simp only[Option.bind_some,bnd,Int.toNat_natCast];have:=ea (f:=Ae ⟨n,L⟩) L (fun i(a:List Int)=>((i:Int),a)) fmG id (fun _ a=>a.length=n.F.length) (fun i a x hxi hI=>by
  have hlt:=(List.getElem?_eq_some_iff.1 hxi).1;have hm:=List.mem_of_getElem? hxi;obtain⟨q1,q2⟩:=hx x hm;have hin:=hL.2 x hm;refine⟨by rw[<-hI];exact(Kg (dG x.N) x.F.F 0 a q1 fun f hf=>by rw[hI];exact q2 f hf).1,?_⟩;have key:=ea (f:=M_u x) x.F.F (fun i(a:List Int)=>((i:Int),a)) (fmS (dG x.N)) id (fun _ a=>a.length=n.F.length) (fun j b f hf hJ=>by
   have hlt:=(List.getElem?_eq_some_iff.1 hf).1;have hfr:=q2 f (List.mem_of_getElem? hf);have:=hin.r.len;refine⟨by unfold fmS;rw[List.length_set];exact hJ,?_⟩;simp only[M_u,decide_eq_true (show(j:Int)<(x.F.F.length:Int) by omega),cond_true,aU,hf,Option.bind_some];rw[bq (by omega)];simp only[Option.bind_some,rl (show f.toNat<b.length by omega),mU hin.b,bnd];rw[aG (n:=(j:Int)+1) (by omega) (by omega)];rfl) (fun b _=>by simp[M_u]) a hI (by have:=hin.r.len;omega)
  simp only[Ae,decide_eq_true (show(i:Int)<(L.length:Int) by omega),cond_true,aU,hxi,Option.bind_some];rw[show bv (M_u x) N0 (0,a)=some (fmG i x a) from key];simp only[Option.bind_some];rw[aG (n:=(i:Int)+1) (by omega) (by omega)];rfl) (fun a _=>by simp[Ae]) (List.replicate n.F.length 0) (by simp) (by omega)
 rw[show bv (Ae ⟨n,L⟩) N0 (0,List.replicate n.F.length 0)=some (cQ fmG 0 L (List.replicate n.F.length 0)) from this];rfl
theorem vT{n:af}{L:List aj}(hn:n.F.length<=14)(hL:nT n L){r:ar}(hr:r.F.length<=20)(hf:∀f∈r.F,0<=f/\f<(n.F.length:Int)):JQ ⟨n,L⟩ r=some (jb L r.F):=by
 obtain⟨ms,m1,m2,m3⟩:=uf hn hL;unfold JQ;rw[m1];simp only[Option.bind_some];have:=ea (f:=M_z r ms) r.F (fun i(a:Int)=>(a,(i:Int))) (fun _(f:Int)(a:Int)=>if true then bits .or .i64 a (oA L f) else a) id (fun _ _=>True) (fun i a f hi _=>by
  have hlt:=(List.getElem?_eq_some_iff.1 hi).1;have hfr:=hf f (List.mem_of_getElem? hi);refine⟨trivial,?_⟩;simp only[M_z,decide_eq_true (show(i:Int)<(r.F.length:Int) by omega),cond_true,aU,hi,Option.bind_some];rw[bq (by omega)];simp only[Option.bind_some,rl (show f.toNat<ms.length by omega),m3,show((f.toNat:Nat):Int)=f by omega];rw[aG (n:=(i:Int)+1) (by omega) (by omega)];rfl) (fun a _=>by simp[M_z]) 0 trivial (by omega)
 rw[show bv (M_z r ms) N0 (0,0)=some (jb L r.F) from this];rfl
def lF(m c:Int):List Int:=cQ (fun i _(a:List Int)=>if bits .and .i64 m (dG ⟨(i:Int),c⟩)==0 then a++[(i:Int)] else a) 0 (List.range (25-c.toNat)) []
theorem KP(m c:Int):∀(xs:List Nat)(k:Nat)(a:List Int)(x:Int),x∈cQ (fun i _(a:List Int)=>if bits .and .i64 m (dG ⟨(i:Int),c⟩)==0 then a++[(i:Int)] else a) k xs a->x∈a\/((k:Int)<=x/\x<((k+xs.length:Nat):Int))
 |[],k,a,x,h=>.inl h
 | y :: xs, k, a, x, h => by
   simp only[cQ] at h;rcases KP m c xs (k+1) _ x h with h|h
   ·split at h
    ·rw[List.mem_append,List.mem_singleton] at h;rcases h with h|h
     ·exact .inl h
     ·right;simp only[List.length_cons];omega
    ·exact .inl h
   ·right;simp only[List.length_cons];omega
theorem Sr{m c x:Int}(hc:1<=c/\c<=24)(h:x∈lF m c):0<=x/\x+c<=24:=by
 rcases KP m c _ 0 [] x h with h|h
 ·cases h
 ·rw[List.length_range] at h;omega
theorem vX{f:Int×List Int->Option ((Int×List Int)⊕List Int)}{m c:Int}(hc:1<=c/\c<=24)
 (hf:∀(i:Nat)(a:List Int),i<25->a.length<=25->f ((i:Int),a)=if(i:Int)+c<=24 then some (.inl (((i+1:Nat):Int),if bits .and .i64 m (dG ⟨(i:Int),c⟩)==0 then a++[(i:Int)] else a)) else some (.inr a)):
 bv f N0 (0,[])=some (lF m c):=by
 refine ea (f:=f) (List.range (25-c.toNat)) (fun i(a:List Int)=>((i:Int),a)) _ id (fun i a=>a.length<=i) (fun i a x hx hI=>?_) (fun a hI=>?_) [] (Nat.le_refl _) (by rw[List.length_range];omega)
 ·have hlt:=(List.getElem?_eq_some_iff.1 hx).1;rw[List.length_range] at hlt;have hI:a.length<=i:=hI;refine⟨by show(if _ then _ else _:List Int).length<=i+1;split<;>(try rw[List.length_append,List.length_singleton])<;>omega,?_⟩;rw[hf i a (by omega) (by omega),if_pos (by omega)]
 ·have hI:a.length<=(List.range (25-c.toNat)).length:=hI;rw[List.length_range] at hI⊢;rw[hf _ a (by omega) (by omega),if_neg (by omega)];rfl
theorem wC{m c:Int}(hc:1<=c/\c<=24):Mt m c=some (lF m c):=by
 unfold Mt;rw[vX (f:=Lt m c) hc fun i a hi ha=>by
  simp only[Lt];rw[aG (n:=(i:Int)+c) (by omega) (by omega)];by_cases h:(i:Int)+c<=24
  ·rw[if_pos h,decide_eq_true h,cond_true,mU (b:=⟨(i:Int),c⟩) (by unfold jI;simp only;omega)];simp only[Option.bind_some,bnd];rw[aG (n:=(i:Int)+1) (by omega) (by omega)];rcases bt (bits .and .i64 m (dG ⟨(i:Int),c⟩)==0) with e|e
   ·rw[e,cond_true,bq (by omega)];rfl
   ·rw[e,cond_false];rfl
  ·rw[if_neg h,decide_eq_false h,cond_false]]
 rfl
theorem JD{m c:Int}(hc:1<=c/\c<=24):LH m c=some (lF m c):=by
 unfold LH;rw[vX (f:=M_g m c) hc fun i a hi ha=>by
  simp only[M_g];rw[aG (n:=(i:Int)+c) (by omega) (by omega)];by_cases h:(i:Int)+c<=24
  ·rw[if_pos h,decide_eq_true h,cond_true,kE (b:=⟨(i:Int),c⟩) (by unfold jI;simp only;omega)];simp only[Option.bind_some,bnd];rw[aG (n:=(i:Int)+1) (by omega) (by omega)];rcases bt (bits .and .i64 m (dG ⟨(i:Int),c⟩)==0) with e|e
   ·rw[e,cond_true,bq (by omega)];rfl
   ·rw[e,cond_false];rfl
  ·rw[if_neg h,decide_eq_false h,cond_false]]
 rfl
theorem yH{m c:Int}(hm:yO m)(hc:1<=c/\c<=24):Mf m c=some (match lF m c with|[]=>(⟨0,0⟩,false)|x::_=>(⟨x,c⟩,true)):=by
 obtain⟨k,rfl,hk⟩:=hm;unfold Mf Qf Qb;rw[eF,eF,cw.2 (show(0:Int)<=(k:Int)/\(k:Int)<=16777215 by omega),cw.2 hc,wC hc];simp only[Option.bind_some,cond_true,Bool.not_true,cond_false];cases lF (k:Int) c with
 |nil=>rfl
 | cons x l =>
   have:((((x::l).length:Nat):Int)==0)=false:=by simp only[List.length_cons,beq_eq_false_iff_ne];omega
   rw[this,cond_false,bq (by simp only[List.length_cons];omega)];rfl
end Vs

namespace Vs
open Go
def lsN(L:List aj)(id:Int):Nat:=(L.takeWhile fun y=>decide (y.Id<id)).length
def po(L:List aj)(x:aj):List aj:=L.take (lsN L x.Id)++[x]++L.drop (lsN L x.Id)
theorem AE(id:Int):∀L:List aj,lsN L id<=L.length
 |[]=>Nat.le_refl _
 | y :: L => by
   unfold lsN;rw[List.takeWhile_cons];split
   ·have:=AE id L;unfold lsN at this;simp only[List.length_cons];omega
   ·exact Nat.zero_le _
theorem Tz(id:Int):∀(L:List aj)(m:Nat)(y:aj),L[m]?=some y->(m<lsN L id->y.Id<id)/\(m=lsN L id->¬y.Id<id)
 |[],m,y,h=>by simp at h
 | z :: L, m, y, h => by
   unfold lsN;rw[List.takeWhile_cons];by_cases e:z.Id<id
   ·rw[if_pos (decide_eq_true e)];cases m with
    | zero =>
      simp at h;subst h;exact⟨fun _=>e,fun h=>by simp at h⟩
    | succ m =>
      have:=Tz id L m y (by simpa using h);unfold lsN at this;simp only[List.length_cons];exact⟨fun h=>this.1 (by omega),fun h=>this.2 (by omega)⟩
   ·rw[if_neg (by simpa using e)];refine⟨fun h=>by simp at h,fun h'=>?_⟩;have:m=0:=h';subst this;simp at h;subst h;exact e
theorem BD{f:Int->Option (Int⊕Int)}{L:List aj}{id:Int}(hl:L.length<=1048576)
 (h1:∀(i:Nat) y,L[i]?=some y->f (i:Int)=if y.Id<id then some (.inl ((i+1:Nat):Int)) else some (.inr (i:Int))) (h2:f (L.length:Int)=some (.inr (L.length:Int))):bv f N0 0=some (lsN L id:Int):=by
 have hle:=AE id L;obtain⟨b,hb,hq⟩:=eh (f:=f) (fun s=>∃m:Nat,s=(m:Int)/\m<=lsN L id) (fun s=>lsN L id+1-s.toNat) (fun b=>b=(lsN L id:Int)) (fun s hI=>by
  obtain⟨m,rfl,hm⟩:=hI;by_cases hml:m<L.length
  ·have e2:L[m]?=some L[m]:=List.getElem?_eq_getElem hml;obtain⟨g1,g2⟩:=Tz id L m _ e2;rw[h1 m _ e2];by_cases hmi:m<lsN L id
   ·left;rw[if_pos (g1 hmi)];exact⟨_,rfl,⟨m+1,rfl,hmi⟩,by omega⟩
   ·right;obtain rfl:m=lsN L id:=by omega
    rw[if_neg (g2 rfl)];exact⟨_,rfl,rfl⟩
  ·right;obtain rfl:m=L.length:=by omega
   exact⟨_,h2,by rw[show lsN L id=L.length by omega]⟩) N0 0 ⟨0,rfl,Nat.zero_le _⟩ (gH (by simp;omega))
 rw[hb,hq]
theorem oi{n:af}(hnet:bU n=true){L:List aj}(hL:nT n L){x:aj}(hx:x.F.F.length<=20):Dn ⟨n,L⟩ x=some ⟨n,po L x⟩:=by
 have hz:=il hL.1 hL.2;have hzn:=jB hnet;have h12:=hL.1;have hle:=AE x.Id L;unfold Dn;rw[mj ⟨n,L⟩ (by simpa using Nat.le_trans hzn (by omega)) (by dsimp only;omega)];simp only[Option.bind_some];rw[BD (f:=EQ ⟨n,L⟩ x) (L:=L) (id:=x.Id) (by omega) (fun i y hi=>by
  have hlt:=(List.getElem?_eq_some_iff.1 hi).1;simp only[EQ,decide_eq_true (show(i:Int)<(L.length:Int) by omega),cond_true,aU,hi,Option.bind_some];rw[aG (n:=(i:Int)+1) (by omega) (by omega)];by_cases e:y.Id<x.Id
  ·rw[if_pos e,decide_eq_true e];rfl
  ·rw[if_neg e,decide_eq_false e];rfl) (by simp[EQ])]
 simp only[Option.bind_some];unfold DL;rw[bq (by omega)];simp only[Option.bind_some,bnd];unfold yI;rw[if_pos ⟨by omega,by simpa using hle,by simp,by simp only[List.length_singleton];omega⟩];rfl
theorem KV{n:af}(hnet:bU n=true){L:List aj}(hL:nT n L){x:aj}(hx:x.F.F.length<=20):
 JX x.Id x.F.N x.N.N x.N.F n.N n.F L x.F.F=some (n.N,po L x,n.F,n.N,n.F,L,x.F.F):=by
 have hz:=il hL.1 hL.2;have hzn:=jB hnet;have h12:=hL.1;have hle:=AE x.Id L;unfold JX;rw[show xM (⟨(⟨n.N,n.F⟩:af),L⟩:aK)=some ⟨n,L⟩ from BJ ⟨n,L⟩ (by simpa using Nat.le_trans hzn (by omega)) (by dsimp only;omega)];simp only[Option.bind_some];rw[BD (f:=Cr x.Id (⟨n,L⟩:aK)) (L:=L) (id:=x.Id) (by omega) (fun i y hi=>by
  have hlt:=(List.getElem?_eq_some_iff.1 hi).1;simp only[Cr,decide_eq_true (show(i:Int)<(L.length:Int) by omega),cond_true];rw[bq (by omega)];simp only[Option.bind_some,Int.toNat_natCast,hi];rw[aG (n:=(i:Int)+1) (by omega) (by omega)];by_cases e:y.Id<x.Id
  ·rw[if_pos e,decide_eq_true e];rfl
  ·rw[if_neg e,decide_eq_false e];rfl) (by simp[Cr])]
 have hc:=nr x (by omega);rw[show tR (⟨x.Id,(⟨x.F.N,x.F.F⟩:ar),(⟨x.N.N,x.N.F⟩:bd)⟩:aj)=some x from hc];have s1:fK L 0 (lsN L x.Id)=L.take (lsN L x.Id):=by rw[fL,List.drop_zero]
 have s2:fK L (lsN L x.Id) (L.length-lsN L x.Id)=L.drop (lsN L x.Id):=by rw[fL,List.take_of_length_le (by rw[List.length_drop];omega)]
 have l1:(L.take (lsN L x.Id)).length=lsN L x.Id:=by rw[List.length_take];omega
 simp only[Option.bind_some,Int.toNat_natCast,bnd,s1,s2];rw[bq ⟨trivial,by omega,trivial,by omega⟩];simp only[Option.bind_some];rw[bq (by omega)];simp only[Option.bind_some];rw[bq (by omega)];simp only[Option.bind_some];rw[bq ⟨by omega,trivial,by omega,trivial⟩];simp only[Option.bind_some];rw[bq (by simp only[List.length_append,List.length_singleton,List.length_drop];omega)];rfl
theorem xo(n:af):∀(es:List Int)(i:Nat)(v:Int)(acc l:List Int),bX (mR n) (fun a=>some a.2) i es (v,acc)=some l->∃t,l=acc++t
 |[],i,v,acc,l,h=>⟨[],by simpa[bX] using h.symm⟩
 | e :: es, i, v, acc, l, h => by
   simp only[bX,mR] at h;split at h
   ·rename_i a ha;split at ha
    ·cases ha
    ·cases ha;obtain⟨t,ht⟩:=xo n es (i+1) _ _ l h;exact⟨cD n e v::t,by rw[ht];simp⟩
   ·rename_i b hb;split at hb
    ·cases hb;cases h
    ·cases hb
theorem px{n:af}(hn:bU n=true){r:ar}{l:List Int}(h:iy n r=some l):(0<=r.N/\r.N<(n.N.length:Int))/\(0<=fA n r/\fA n r<(n.N.length:Int))/\r.N≠fA n r:=by
 obtain⟨g1,g2,g3,g4,g5⟩:=sZ (wa hn) h;have h':=h;unfold iy at h';split at h'
 ·cases h'
 ·rename_i hc;simp only[Bool.or_eq_true,Bool.not_eq_true',decide_eq_true_eq,not_or] at hc;obtain⟨t,rfl⟩:=xo n _ _ _ _ _ h';have ht:0<t.length:=by rw[List.length_append,List.length_singleton] at g3;omega
  have e:fA n r=gz ([r.N]++t) t.length:=by
   unfold fA;rw[h];simp
  have hm:([r.N]++t)[t.length]?=some (fA n r):=by rw[e];exact rl (by simp)
  have ht':∃k,t.length=k+1:=⟨t.length-1,by omega⟩;obtain⟨k,hk⟩:=ht';have hmt:fA n r∈t:=by
   rw[hk] at hm;exact List.mem_of_getElem? (by simpa using hm)
  refine⟨g2 _ (by simp),g2 _ (by simp[hmt]),fun e'=>?_⟩;simp only[List.singleton_append] at g1;exact(List.nodup_cons.1 g1).1 (by rw[e'];exact hmt)
def iZ(n:af)(s d:Int):List ar×Bool:=(vh n s d).getD ([],false)
theorem Hn{n:af}(hn:bU n=true){s d:Int}(hsd:s≠d)(hs:0<=s/\s<(n.N.length:Int))(hd:0<=d/\d<(n.N.length:Int)):Hc n s d=some true:=by
 have hb:=cY hn;have hz:=jB hn;unfold Hc;rw[qz n (by omega),hn];simp only[Option.bind_some,cond_true];rw[aG (by omega) (by omega),iv,iv,cw.2 (show(0:Int)<=s/\s<=(n.N.length:Int)-1 by omega),cw.2 (show(0:Int)<=d/\d<=(n.N.length:Int)-1 by omega)];simp only[Option.bind_some,cond_true];rw[bne_iff_ne.2 hsd]
theorem uL{n:af}(hn:bU n=true){s d:Int}(hsd:s≠d)(hs:0<=s/\s<(n.N.length:Int))(hd:0<=d/\d<(n.N.length:Int)):
 vh n s d=some (iZ n s d)/\Ip n s d=some ((iZ n s d).2,(iZ n s d).1)/\(∀r∈(iZ n s d).1,RtV n s r)/\(iZ n s d).1.length<=200/\((iZ n s d).2=false->(iZ n s d).1=[]):=by
 have hz:=jB hn;obtain⟨L,hL⟩:=NQ hn (by omega) hsd hs hd;obtain⟨K,hK⟩:=WO hn hsd hs;unfold Ip iZ;rw[Hn hn hsd hs hd];simp only[Option.bind_some,Bool.not_true,cond_false];by_cases h:(jS n s d).length<=200
 ·rw[if_pos h] at hL hK;obtain⟨a1,a2,a3⟩:=hL;obtain⟨b1,b2,b3⟩:=hK;have e:L=K:=Ap L K (a2.trans b2.symm) a3 b3;subst e;rw[a1,b1];exact⟨rfl,rfl,fun r hr=>rz hn hsd hs _ _ _ (QF hn hs) r (a2.mem_iff.1 hr),by show L.length<=200;rw[a2.length_eq];exact h,fun h=>by cases h⟩
 ·rw[if_neg h] at hL hK;rw[hL,hK];exact⟨rfl,rfl,fun r hr=>(by cases hr),Nat.zero_le _,fun _=>rfl⟩
def okR(L:List aj)(D:List Int)(c:Int)(r:ar):Bool:=gS r.F D&&decide (0<(lF (jb L r.F) c).length)
def Ji(L:List aj)(y:aj)(r:ar):aj:=⟨y.Id,r,⟨(lF (jb L r.F) y.N.F).headD 0,y.N.F⟩⟩
def plX(n:af)(L:List aj)(D:List Int)(y:aj):Option aj:=
 if gS y.F.F D&&!(L.any fun o=>dd o.F o.N y.F y.N) then some y
 else(cL (fun _ r=>okR L D y.N.F r) (iZ n y.F.N (fA n y.F)).1).map fun q=>Ji L y q.2
def rsP(n:af)(L H:List aj)(D:List Int)(y:aj):aq×Bool:=
 match plX n L D y with|some x=>(⟨⟨n,po L x⟩,H,D⟩,true)|none=>(⟨⟨n,L⟩,H,D⟩,false)
theorem SB{L:List aj}{y:aj}(h:y.Id∉L.map (·.Id)):RY L y=L.any fun o=>dd o.F o.N y.F y.N:=by
 unfold RY;rw[Bool.eq_iff_iff,List.any_eq_true,List.any_eq_true];constructor
 ·rintro⟨o,ho,h1⟩;rw[Bool.and_eq_true] at h1;exact⟨o,ho,h1.2⟩
 ·rintro⟨o,ho,h1⟩;refine⟨o,ho,?_⟩;rw[Bool.and_eq_true];exact⟨bne_iff_ne.2 fun e=>h (e▸List.mem_map_of_mem ho),h1⟩
theorem QZ{α:Type}(l:List α):decide ((0:Int)<(l.length:Int))=decide (0<l.length):=by
 by_cases h:0<l.length
 ·rw[decide_eq_true h,decide_eq_true (by omega)]
 ·rw[decide_eq_false h,decide_eq_false (by omega)]
structure StL(n:af)(L:List aj):Prop where
 net:bU n=true
 ls:nT n L
 b:LsB L
theorem Wh{m c:Int}(h:0<(lF m c).length):∃l,lF m c=(lF m c).headD 0::l:=by
 cases e:lF m c with
 |nil=>rw[e] at h;cases h
 |cons x l=>exact⟨l,rfl⟩
theorem Jx{n:af}(hn:bU n=true){s:Int}{r:ar}(h:RtV n s r):IJ n r:=by
 obtain⟨l,hl⟩:=Option.isSome_iff_exists.1 h.v;exact(uy hn hl).1
theorem Aw{n:af}{y:aj}(hy:ed n y=true):(0<=y.N.N/\y.N.N+y.N.F<=24)/\1<=y.N.F/\y.N.F<=24:=by
 unfold ed na at hy;simp only[Bool.and_eq_true,cw] at hy;omega
theorem zo{n:af}{L H:List aj}{D:List Int}(hS:StL n L)(hH:nT n H)(hD:D.length<=1048576){k:Nat}{y:aj}(hf:kD H y.Id=some (k,y))(hy:ed n y=true)(hno:y.Id∉L.map (·.Id)):
 ER ⟨⟨n,L⟩,H,D⟩ y.Id=some (rsP n L H D y):=by
 have hz:=il hS.ls.1 hS.ls.2;have hzh:=il hH.1 hH.2;have hzn:=jB hS.net;have hb:=cY hS.net;have h12:=hS.ls.1;have hH12:=hH.1;have hyl:=gP hS.net hy;obtain⟨hk,_⟩:=pd hf;obtain⟨l,hl⟩:=gM hy;obtain⟨s1,s2,s3⟩:=px hS.net hl;have hc:=(Aw hy).2;obtain⟨r1,r2,r3,r4,r5⟩:=uL hS.net s3 s1 s2;have hyf:=hyl.r.len;unfold ER;rw[hY ⟨⟨n,L⟩,H,D⟩ (by dsimp only;omega) (by dsimp only;omega) (by dsimp only;omega) hD,va ⟨⟨n,L⟩,H,D⟩ y.Id (by dsimp only;omega)];have hfi:kc H y.Id=(k:Int):=by unfold kc;rw[hf]
 simp only[Option.bind_some,hfi,aU,hk];rw[Gd (n:=n) ⟨⟨n,L⟩,H,D⟩ hS.ls y hyl hD];simp only[Option.bind_some,SB hno];unfold rsP plX;rcases bt (gS y.F.F D&&!(L.any fun o=>dd o.F o.N y.F y.N)) with e|e
 ·rw[e,cond_true,if_pos rfl,oi hS.net hS.ls (by omega)];rfl
 ·rw[e,cond_false,if_neg (by simp),uz hS.net (by omega) hl];simp only[Option.bind_some];rw[r1];simp only[Option.bind_some];rcases bt (iZ n y.F.N (fA n y.F)).2 with eo|eo
  ·rw[eo,Bool.not_true,cond_false];rw[cy (f:=EK ⟨⟨n,L⟩,H,D⟩ y.Id ⟨⟨n,L⟩,H,D⟩ y (iZ n y.F.N (fA n y.F))) (iZ n y.F.N (fA n y.F)).1 (fun _ r=>okR L D y.N.F r)
    (fun _ r=>((⟨⟨n,po L (Ji L y r)⟩,H,D⟩:aq),true)) () (fun i r hi _=>by
     have hlt:=(List.getElem?_eq_some_iff.1 hi).1;have hrv:=r3 r (List.mem_of_getElem? hi);have hri:=Jx hS.net hrv;have hrl:=hri.len;obtain⟨q,q1,_,q3⟩:=ni r.F D hrl hD;simp only[EK,decide_eq_true (show(i:Int)<((iZ n y.F.N (fA n y.F)).1.length:Int) by omega),cond_true];rw[bq (by omega)];simp only[Option.bind_some,Int.toNat_natCast,hi,q1,zn q3];rw[aG (n:=(i:Int)+1) (by omega) (by omega)];unfold okR;rcases bt (gS r.F D) with e1|e1
     ·rw[e1,Bool.not_true,cond_false,vT (by omega) hS.ls (by omega) hrv.b.2.1];simp only[Option.bind_some,Bool.true_and];rw[yH (Xd hS.ls hS.b r.F) hc];simp only[Option.bind_some];by_cases e2:0<(lF (jb L r.F) y.N.F).length
      ·rw[decide_eq_true e2,if_pos rfl];obtain⟨t,ht⟩:=Wh e2;unfold Ji;rw[ht];simp only[cond_true,List.headD_cons];rw[oi hS.net hS.ls (by dsimp only;omega)];rfl
      ·rw[decide_eq_false e2,if_neg (by simp)];have:lF (jb L r.F) y.N.F=[]:=List.eq_nil_of_length_eq_zero (by omega);rw[this];rfl
     ·rw[e1,Bool.not_false,cond_true,Bool.false_and,if_neg (by simp)];rfl) (by simp[EK]) (by omega)]
   cases cL (fun _ r=>okR L D y.N.F r) (iZ n y.F.N (fA n y.F)).1<;>rfl
  ·rw[eo,Bool.not_false,cond_true,r5 eo];rfl
theorem sU{r:aq}(z1:aX r.F.F<=1048576)(z2:bc r.F.N<=1048576)(z3:bc r.N<=1048576)(z4:r.L.length<=1048576):vz r=some r:=by
 unfold vz M_n;rw[BJ _ z1 z2,DK _ z3,bq (by omega)];rfl
theorem xG{n:af}{L H:List aj}{D:List Int}(hS:StL n L)(hD:D.length<=1048576){y:aj}(hy:ed n y=true):
 DE ⟨⟨n,L⟩,H,D⟩ y=some (match plX n L D y with|some x=>(x,true)|none=>(⟨0,⟨0,[]⟩,⟨0,0⟩⟩,false)):=by
 have hb:=cY hS.net;have h12:=hS.ls.1;have hyl:=gP hS.net hy;obtain⟨l,hl⟩:=gM hy;obtain⟨s1,s2,s3⟩:=px hS.net hl;have hc:=(Aw hy).2;obtain⟨r1,r2,r3,r4,r5⟩:=uL hS.net s3 s1 s2;have hyf:=hyl.r.len;unfold DE plX;rw[ne y.F D (by omega) hD];simp only[Option.bind_some,Bool.not_not];have e0:(cond (gS y.F.F D) ((xO (⟨n,L⟩:aK) y.F).bind fun rZ3=>(sj y.N).bind fun rZ4=>some ((bits .and .i64 rZ3 rZ4)==0)) (some false):Option Bool)=some (gS y.F.F D&&!(L.any fun o=>dd o.F o.N y.F y.N)):=by
  rw[tk (p:=⟨n,L⟩) hS.ls y.F hyf,kE hyl.b];simp only[Option.bind_some];rw[CR hS.ls hyl];cases gS y.F.F D<;>rfl
 rw[e0];simp only[Option.bind_some];rcases bt (gS y.F.F D&&!(L.any fun o=>dd o.F o.N y.F y.N)) with e|e
 ·rw[e,cond_true,if_pos rfl,nr y (by omega)];rfl
 ·rw[e,cond_false,if_neg (by simp),tZ hS.net (by omega) hl];simp only[Option.bind_some];rw[r2];simp only[Option.bind_some];rcases bt (iZ n y.F.N (fA n y.F)).2 with eo|eo
  ·rw[cy (f:=De ⟨⟨n,L⟩,H,D⟩ y ((iZ n y.F.N (fA n y.F)).2,(iZ n y.F.N (fA n y.F)).1)) (iZ n y.F.N (fA n y.F)).1 (fun _ r=>okR L D y.N.F r)
    (fun _ r=>(Ji L y r,true)) () (fun i r hi _=>by
     have hlt:=(List.getElem?_eq_some_iff.1 hi).1;have hrv:=r3 r (List.mem_of_getElem? hi);have hri:=Jx hS.net hrv;have hrl:=hri.len;simp only[De,decide_eq_true (show(i:Int)<((iZ n y.F.N (fA n y.F)).1.length:Int) by omega),cond_true,eo,Option.bind_some];rw[bq (by omega)];simp only[Option.bind_some,Int.toNat_natCast,hi];rw[ne r D (by omega) hD,aG (n:=(i:Int)+1) (by omega) (by omega)];simp only[Option.bind_some];unfold okR;rcases bt (gS r.F D) with e1|e1
     ·rw[e1,Bool.not_true,cond_false,tk (p:=⟨n,L⟩) hS.ls r hrl];simp only[Option.bind_some,Bool.true_and];rw[JD hc];simp only[Option.bind_some,QZ];by_cases e2:0<(lF (jb L r.F) y.N.F).length
      ·rw[decide_eq_true e2,if_pos rfl,cond_true];obtain⟨t,ht⟩:=Wh e2;unfold Ji CE M_n;rw[bq (by omega)];simp only[Option.bind_some];rw[bq (by omega),ht];rfl
      ·rw[decide_eq_false e2,if_neg (by simp)];rfl
     ·rw[e1,Bool.not_false,cond_true,Bool.false_and,if_neg (by simp)];rfl) (by simp[De]) (by omega)]
   cases cL (fun _ r=>okR L D y.N.F r) (iZ n y.F.N (fA n y.F)).1<;>rfl
  ·rw[r5 eo,eo];rfl
theorem uC{n:af}{L H:List aj}{D:List Int}(hS:StL n L)(hH:nT n H)(hD:D.length<=1048576){k:Nat}{y:aj}(hk:H[k]?=some y)(hy:ed n y=true)(hp:∀x,plX n L D y=some x->x.F.F.length<=20):
 Gg (k:Int) n.N n.F L H D=some ((rsP n L H D y).2,n.N,n.F,(rsP n L H D y).1.F.N,H,D,n.N,n.F,L,H,D):=by
 have hz:=il hS.ls.1 hS.ls.2;have hzh:=il hH.1 hH.2;have hzn:=jB hS.net;have hlt:=(List.getElem?_eq_some_iff.1 hk).1;have hH12:=hH.1;unfold Gg;rw[bq (by omega)];simp only[Option.bind_some,Int.toNat_natCast,hk];rw[show DE (⟨(⟨(⟨n.N,n.F⟩:af),L⟩:aK),H,D⟩:aq) y=_ from xG hS hD hy];simp only[Option.bind_some];rw[show vz (⟨(⟨(⟨n.N,n.F⟩:af),L⟩:aK),H,D⟩:aq)=_ from sU (r:=⟨⟨n,L⟩,H,D⟩) (by dsimp only;omega) (by dsimp only;omega) (by dsimp only;omega) hD];simp only[Option.bind_some];unfold rsP;cases e:plX n L D y with
 |none=>rfl
 | some x =>
   simp only[cond_true];rw[KV hS.net hS.ls (hp x e)];rfl
end Vs

namespace Vs
open Go
theorem xj(L:List aj)(x:aj):(po L x).Perm (x::L):=by
 unfold po;rw[List.append_assoc,List.singleton_append];refine List.perm_middle.trans ?_;rw[List.take_append_drop]
structure StH(n:af)(H L:List aj):Prop where
 st:StL n L
 nd:(L.map (·.Id)).Nodup
 sub:∀x∈L,x.Id∈H.map (·.Id)
theorem AC{α:Type}[BEq α][LawfulBEq α]:∀(xs ys:List α),xs.Nodup->(∀x∈xs,x∈ys)->xs.length<=ys.length
 |[],_,_,_=>Nat.zero_le _
 | x :: xs, ys, hn, hs => by
   obtain⟨h1,h2⟩:=List.nodup_cons.1 hn;have hx:=hs x (by simp);have:=AC xs (ys.erase x) h2 fun z hz=>(List.mem_erase_of_ne fun e=>h1 (by rw[<-e];exact hz)).2 (hs z (by simp[hz]));have hp:0<ys.length:=List.length_pos_of_mem hx;rw[List.length_erase_of_mem hx] at this;simp only[List.length_cons];omega
theorem Mc{n:af}{L:List aj}{D:List Int}(hS:StL n L){y x:aj}(hy:ed n y=true)(h:plX n L D y=some x):x.Id=y.Id/\iU n x/\x.N.N+x.N.F<=24:=by
 have hb:=Aw hy;obtain⟨l,hl⟩:=gM hy;obtain⟨s1,s2,s3⟩:=px hS.net hl;obtain⟨r1,r2,r3,r4,r5⟩:=uL hS.net s3 s1 s2;unfold plX at h;split at h
 ·cases h;exact⟨rfl,gP hS.net hy,hb.1.2⟩
 ·rw[Option.map_eq_some_iff] at h;obtain⟨q,hq,rfl⟩:=h;obtain⟨q1,q2,_⟩:=cV.1 hq;have hrv:=r3 q.2 (List.mem_of_getElem? q1);unfold okR at q2;simp only[Bool.and_eq_true,decide_eq_true_eq] at q2;obtain⟨t,ht⟩:=Wh q2.2;have hr:=Sr (x:=(lF (jb L q.2.F) y.N.F).headD 0) hb.2 (by rw[ht];simp);refine⟨rfl,⟨Jx hS.net hrv,?_⟩,hr.2⟩;show jI ⟨_,_⟩;unfold jI;dsimp only;omega
theorem Wo{n:af}{H L:List aj}{D:List Int}(hS:StH n H L)(hH:H.length<=12){y x:aj}(hm:y∈H)(hy:ed n y=true)(hno:y.Id∉L.map (·.Id))(h:plX n L D y=some x):StH n H (po L x):=by
 obtain⟨h1,h2,h3⟩:=Mc hS.st hy h;have hp:=xj L x;have hin:∀z,z∈po L x->z=x\/z∈L:=fun z hz=>by
  have:=hp.mem_iff.1 hz;simpa using this
 have hsub:∀z∈po L x,z.Id∈H.map (·.Id):=fun z hz=>by
  rcases hin z hz with rfl|hz
  ·rw[h1];exact List.mem_map_of_mem hm
  ·exact hS.sub z hz
 have hnd:((po L x).map (·.Id)).Nodup:=by
  refine((hp.map (·.Id)).nodup_iff).2 ?_;rw[List.map_cons,List.nodup_cons,h1];exact⟨hno,hS.nd⟩
 have hl:=AC ((po L x).map (·.Id)) (H.map (·.Id)) hnd fun i hi=>by
  obtain⟨z,hz,rfl⟩:=List.mem_map.1 hi;exact hsub z hz
 rw[List.length_map,List.length_map] at hl;exact⟨⟨hS.st.net,⟨by omega,fun z hz=>(hin z hz).elim (fun e=>e▸h2) (hS.st.ls.2 z)⟩,fun z hz=>(hin z hz).elim (fun e=>e▸h3) (hS.st.b z)⟩,hnd,hsub⟩
theorem qn{p:aK}(h:tr p):(p.N.map (·.Id)).Nodup:=by
 refine ph (Bp fun i a b ha hb=>?_);rw[List.getElem?_map,Option.map_eq_some_iff] at ha hb;obtain⟨x,hx,rfl⟩:=ha;obtain⟨y,hy,rfl⟩:=hb;exact h.asc i x y hx hy
theorem Wi{L:List aj}{id:Int}{q:Nat×aj}(h:kD L id=some q):q.2∈L/\q.2.Id=id/\L[q.1]?=some q.2:=by
 obtain⟨i,y⟩:=q;obtain⟨h1,h2⟩:=pd h;exact⟨List.mem_of_getElem? h1,h2,h1⟩
theorem Lm{L:List aj}{id:Int}:kD L id=none↔id∉L.map (·.Id):=by
 unfold kD;rw[eW];constructor
 ·intro h hm;obtain⟨z,hz,e⟩:=List.mem_map.1 hm;obtain⟨j,hj⟩:=List.getElem?_of_mem hz;have:=h j z hj;rw[e] at this;simp at this
 ·intro h j z hj;simp only[beq_eq_false_iff_ne];exact fun e=>h (e▸List.mem_map_of_mem (List.mem_of_getElem? hj))
theorem Kf{L:List aj}{id:Int}:kc L id<0↔id∉L.map (·.Id):=by
 rw[<-Lm];unfold kc;cases h:kD L id with
 |none=>simp
 |some q=>simp
theorem XN{r:aq}(h:jH r=true):StH r.F.F r.N r.F.N:=by
 have hR:=Ks h;refine⟨⟨hR.pl.net,⟨hR.pl.len,hR.pl.lgt⟩,fun o ho=>(Aw (hR.pl.ok o ho)).1.2⟩,qn hR.pl,fun x hx=>?_⟩;unfold jH at h;simp only[Bool.and_eq_true,Bool.not_eq_true',List.any_eq_false] at h;have:=h.2 x hx;unfold kz at this;cases e:kD r.N x.Id with
 |none=>rw[e] at this;simp at this
 | some q =>
   obtain⟨h1,h2,_⟩:=Wi e;rw[<-h2];exact List.mem_map_of_mem h1
theorem Aq{α:Type}(p:α->Bool)(g:α->Int):∀(xs:List α)(i:Nat)(a:List Int),bX (fun(_:Nat)(x:α)(a:List Int)=>(.inl (if p x then a++[g x] else a):List Int⊕List Int)) (fun a=>a) i xs a=a++(xs.filter p).map g
 |[],_,a=>by simp[bX]
 | x :: xs, i, a => by
   simp only[bX];rw[Aq p g xs (i+1)];rcases bt (p x) with e|e
   ·rw[if_pos e,List.filter_cons_of_pos e];simp
   ·rw[if_neg (by rw[e];simp),List.filter_cons_of_neg (by rw[e];simp)]
theorem Xt(r:aq):wtL r=(r.N.filter (wtB r)).map (·.Id):=by
 unfold wtL;rw[Aq];rfl
theorem SD(n:af)(L H:List aj)(D:List Int)(y:aj):(rsP n L H D y).1.F.F=n/\(rsP n L H D y).1.N=H/\(rsP n L H D y).1.L=D:=by
 unfold rsP;cases plX n L D y<;>exact⟨rfl,rfl,rfl⟩
theorem z_st{n:af}{H L:List aj}{D:List Int}(hS:StL n L)(hH:nT n H)(hD:D.length<=14):aP ⟨⟨n,L⟩,H,D⟩<=1048576:=by
 have h1:=jB hS.net;have h2:=il hS.ls.1 hS.ls.2;have h3:=il hH.1 hH.2;show aX n+bc L+bc H+D.length<=1048576;omega
end Vs

namespace Vs
open Go
def raS(n:af)(H:List aj)(D:List Int)(_:Nat)(y:aj)(s:List aj×List Int):List aj×List Int:=
 ((rsP n s.1 H D y).1.F.N,if(rsP n s.1 H D y).2 then s.2++[y.Id] else s.2)
structure RaI(n:af)(H W:List aj)(i:Nat)(s:List aj×List Int):Prop where
 st:StH n H s.1
 no:∀j y,i<=j->W[j]?=some y->y.Id∉s.1.map (·.Id)
 out:s.2.length<=i
theorem tS{n:af}{H W:List aj}{D:List Int}(hH:H.length<=12)(hW:(W.map (·.Id)).Nodup){i:Nat}{y:aj}(hi:W[i]?=some y)(hm:y∈H)(hy:ed n y=true){s:List aj×List Int}(h:RaI n H W i s):RaI n H W (i+1) (raS n H D i y s):=by
 have hno:=h.no i y (Nat.le_refl _) hi;have hout:=h.out;have hlen:(raS n H D i y s).2.length<=i+1:=by
  unfold raS;dsimp only;split
  ·rw[List.length_append,List.length_singleton];omega
  ·omega
 unfold raS rsP at*
 cases e:plX n s.1 D y with
 | none =>
   rw[e] at hlen;exact⟨h.st,fun j z hj hz=>h.no j z (by omega) hz,hlen⟩
 | some x =>
   rw[e] at hlen;refine⟨Wo h.st hH hm hy hno e,fun j z hj hz hc=>?_,hlen⟩;obtain⟨u,hu,hui⟩:=List.mem_map.1 hc;have:=(xj s.1 x).mem_iff.1 hu;rw[List.mem_cons] at this;rcases this with rfl|hu
   ·have hx:=(Mc h.st.st hy e).1;have h1:(W.map (·.Id))[j]?=some y.Id:=by rw[List.getElem?_map,hz];simp[<-hui,hx]
    have h2:(W.map (·.Id))[i]?=some y.Id:=by rw[List.getElem?_map,hi];rfl
    obtain⟨p1,p2⟩:=List.getElem?_eq_some_iff.1 h1;obtain⟨q1,q2⟩:=List.getElem?_eq_some_iff.1 h2;have:=(List.getElem_inj hW).1 (p2.trans q2.symm);omega
   ·exact h.no j z (by omega) hz (hui▸List.mem_map_of_mem hu)
theorem SI{L:List aj}(hn:(L.map (·.Id)).Nodup){i:Nat}{x:aj}(h:L[i]?=some x):kD L x.Id=some (i,x):=by
 unfold kD;refine cV.2 ⟨h,by simp,fun j y hj hy=>?_⟩;have hne:y.Id≠x.Id:=by
  intro e;have h1:(L.map (·.Id))[j]?=some x.Id:=by rw[List.getElem?_map,hy];simp[e]
  have h2:(L.map (·.Id))[i]?=some x.Id:=by rw[List.getElem?_map,h];rfl
  obtain⟨p1,p2⟩:=List.getElem?_eq_some_iff.1 h1;obtain⟨q1,q2⟩:=List.getElem?_eq_some_iff.1 h2;have:=(List.getElem_inj hn).1 (p2.trans q2.symm);omega
 simpa using hne
def raW(r:aq):List aj:=r.N.filter (wtB r)
def raF(r:aq):List aj×List Int:=cQ (raS r.F.F r.N r.L) 0 (raW r) (r.F.N,[])
def raP(r:aq):aq×List Int×Bool:=if jH r then(⟨⟨r.F.F,(raF r).1⟩,r.N,r.L⟩,(raF r).2,true) else(rst0,[],false)
structure RaR(r:aq):Prop where
 R:Uh r
 nd:(r.N.map (·.Id)).Nodup
 wn:((raW r).map (·.Id)).Nodup
 wh:∀y∈raW r,y∈r.N
 wl:(raW r).length<=12
 i0:RaI r.F.F r.N (raW r) 0 (r.F.N,[])
theorem Gn{r:aq}(h:jH r=true):RaR r:=by
 have hR:=Ks h;have hnd:=qn hR.hm;have hsub:(raW r).Sublist r.N:=List.filter_sublist;refine⟨hR,hnd,hnd.sublist (hsub.map _),fun y hy=>hsub.subset hy,Nat.le_trans hsub.length_le hR.hm.len,XN h,fun j y _ hj=>?_,Nat.le_refl _⟩;have:=(List.mem_filter.1 (List.mem_of_getElem? hj)).2;unfold wtB at this;exact Kf.1 (of_decide_eq_true this)
theorem LP{n:af}{H W:List aj}{D:List Int}(hH:H.length<=12)(hW:(W.map (·.Id)).Nodup)(hm:∀y∈W,y∈H/\ed n y=true):∀(xs:List aj)(i:Nat)(s:List aj×List Int),W.drop i=xs->RaI n H W i s->RaI n H W (i+xs.length) (cQ (raS n H D) i xs s)
 |[],i,s,_,h=>h
 | x :: xs, i, s, hd, h => by
   have hi:W[i]?=some x:=by have:=congrArg (fun l=>l[0]?) hd;simpa using this
   obtain⟨m1,m2⟩:=hm x (List.mem_of_getElem? hi);have:=LP (D:=D) hH hW hm xs (i+1) (raS n H D i x s) (by rw[<-List.drop_drop,hd];rfl) (tS hH hW hi m1 m2 h);simp only[cQ,List.length_cons];rw[show i+(xs.length+1)=i+1+xs.length by omega];exact this
theorem ny(r:aq)(hz:aP r<=1048576):EM r=some (raP r):=by
 obtain⟨z1,z2,z3,z4⟩:=Bx hz;unfold EM raP;rw[kN r hz];rcases bt (jH r) with e|e
 ·have hA:=Gn e;have hR:=hA.R;have hwl:=hA.wl;rw[e,if_pos rfl,Option.bind_some,Bool.not_true,cond_false,hY r z1 z2 z3 z4,Option.bind_some,CU r hR.hm.len hR.pl.len,Option.bind_some,Xt];have key:=ea (f:=xu ((raW r).map (·.Id))) (raW r) (fun i(s:List aj×List Int)=>((i:Int),s.2,r.F.F.N,r.F.F.F,s.1,r.N,r.L)) (raS r.F.F r.N r.L)
   (fun s=>(s.2,r.F.F.N,r.F.F.F,s.1,r.N,r.L)) (fun i s=>RaI r.F.F r.N (raW r) i s) (fun i s y hi hI=>by
    have hlt:=(List.getElem?_eq_some_iff.1 hi).1;have hm:=hA.wh y (List.mem_of_getElem? hi);have hy:=hR.hm.ok y hm;have ho:=hI.out;refine⟨tS hR.hm.len hA.wn hi hm hy hI,?_⟩;obtain⟨k,hk⟩:=List.getElem?_of_mem hm;have hmi:((raW r).map (·.Id))[i]?=some y.Id:=by rw[List.getElem?_map,hi];rfl
    simp only[xu,List.length_map,decide_eq_true (show(i:Int)<((raW r).length:Int) by omega),cond_true];rw[bq (by omega)];simp only[Option.bind_some,Int.toNat_natCast,hmi];rw[show ER (⟨(⟨(⟨r.F.F.N,r.F.F.F⟩:af),s.1⟩:aK),r.N,r.L⟩:aq) y.Id=_ from
     zo (n:=r.F.F) (L:=s.1) (H:=r.N) (D:=r.L) hI.st.st ⟨hR.hm.len,hR.hm.lgt⟩ z4 (SI hA.nd hk) hy (hI.no i y (Nat.le_refl _) hi)]
    obtain⟨a1,a2,a3⟩:=SD r.F.F s.1 r.N r.L y;simp only[Option.bind_some,a1,a2,a3];rw[aG (n:=(i:Int)+1) (by omega) (by omega)];unfold raS;rcases bt (rsP r.F.F s.1 r.N r.L y).2 with eb|eb
    ·rw[eb,cond_true,if_pos rfl];simp only[bnd];rw[bq (by omega)];rfl
    ·rw[eb,cond_false,if_neg (by simp)];rfl) (fun s _=>by simp[xu]) (r.F.N,[]) hA.i0 (by omega)
  rw[show bv (xu ((r.N.filter (wtB r)).map (·.Id))) N0 (0,[],r.F.F.N,r.F.F.F,r.F.N,r.N,r.L)=_ from key];rfl
 ·rw[e,if_neg (by simp)];rfl
theorem LJ(r:aq):∀(xs:List aj)(k:Nat),r.N.drop k=xs->(wtX r k xs).length=(xs.filter (wtB r)).length/\∀(i:Nat)(y:aj),(xs.filter (wtB r))[i]?=some y->∃j:Nat,(wtX r k xs)[i]?=some (j:Int)/\r.N[j]?=some y
 |[],k,_=>⟨rfl,fun i y h=>by simp at h⟩
 | x :: xs, k, hd => by
   have hx:r.N[k]?=some x:=by have:=congrArg (fun l=>l[0]?) hd;simpa using this
   obtain⟨h1,h2⟩:=LJ r xs (k+1) (by rw[<-List.drop_drop,hd];rfl);unfold wtX;rcases bt (wtB r x) with e|e
   ·rw[if_pos e,List.filter_cons_of_pos e];refine⟨by simp[h1],fun i y hi=>?_⟩;cases i with
    |zero=>simp at hi;subst hi;exact⟨k,rfl,hx⟩
    |succ i=>exact h2 i y (by simpa using hi)
   ·rw[if_neg (by rw[e];simp),List.filter_cons_of_neg (by rw[e];simp)];exact⟨h1,h2⟩
theorem nc(r:aq)(hz:aP r<=1048576):MW r.F.F.N r.F.F.F r.F.N r.N r.L=
 some ((raP r).2.2,(raP r).2.1,(raP r).1.F.F.N,(raP r).1.F.F.F,(raP r).1.F.N,(raP r).1.N,(raP r).1.L,r.F.F.N,r.F.F.F,r.F.N,r.N,r.L):=by
 obtain⟨z1,z2,z3,z4⟩:=Bx hz;unfold MW raP;rw[show CC (⟨(⟨(⟨r.F.F.N,r.F.F.F⟩:af),r.F.N⟩:aK),r.N,r.L⟩:aq)=_ from FC r hz];rcases bt (jH r) with e|e
 ·have hA:=Gn e;have hR:=hA.R;have hwl:=hA.wl;have hH12:=hR.hm.len;obtain⟨w1,w2⟩:=LJ r r.N 0 rfl;rw[e,if_pos rfl,Option.bind_some,Bool.not_true,cond_false];unfold Sy;rw[show vz (⟨(⟨(⟨r.F.F.N,r.F.F.F⟩:af),r.F.N⟩:aK),r.N,r.L⟩:aq)=_ from sU (r:=r) z1 z2 z3 z4,
   show Dj (⟨(⟨(⟨r.F.F.N,r.F.F.F⟩:af),r.F.N⟩:aK),r.N,r.L⟩:aq)=_ from uG r hR.hm.len hR.pl.len]
  simp only[Option.bind_some];have key:=ea (f:=M_x r.N (wtX r 0 r.N)) (raW r) (fun i(s:List aj×List Int)=>((i:Int),s.2,r.F.F.N,r.F.F.F,s.1,r.N,r.L)) (raS r.F.F r.N r.L)
   (fun s=>(s.2,r.F.F.N,r.F.F.F,s.1,r.N,r.L)) (fun i s=>RaI r.F.F r.N (raW r) i s) (fun i s y hi hI=>by
    have hlt:=(List.getElem?_eq_some_iff.1 hi).1;have hm:=hA.wh y (List.mem_of_getElem? hi);have hy:=hR.hm.ok y hm;have ho:=hI.out;have hl':(wtX r 0 r.N).length=(raW r).length:=w1;refine⟨tS hR.hm.len hA.wn hi hm hy hI,?_⟩;obtain⟨j,hj1,hj2⟩:=w2 i y hi;have hjl:=(List.getElem?_eq_some_iff.1 hj2).1;simp only[M_x,decide_eq_true (show(i:Int)<((wtX r 0 r.N).length:Int) by omega),cond_true];rw[bq (by omega)];simp only[Option.bind_some,Int.toNat_natCast,hj1];rw[uC (n:=r.F.F) (L:=s.1) (H:=r.N) (D:=r.L) hI.st.st ⟨hR.hm.len,hR.hm.lgt⟩ z4 hj2 hy (fun x hx=>by have:=(Mc hI.st.st hy hx).2.1.r.len;omega)];simp only[Option.bind_some];rw[aG (n:=(i:Int)+1) (by omega) (by omega)];unfold raS;rcases bt (rsP r.F.F s.1 r.N r.L y).2 with eb|eb
    ·rw[eb,cond_true,if_pos rfl,bq (by omega)];simp only[Option.bind_some,Int.toNat_natCast,hj2,bnd];rw[bq (by omega)];rfl
    ·rw[eb,cond_false,if_neg (by simp)];rfl) (fun s _=>by
     have hl':(wtX r 0 r.N).length=(raW r).length:=w1;simp[M_x,hl']) (r.F.N,[]) hA.i0 (by omega)
  rw[show bv (M_x r.N (wtX r 0 r.N)) N0 (0,[],r.F.F.N,r.F.F.F,r.F.N,r.N,r.L)=_ from key];rfl
 ·rw[e,if_neg (by simp)];rfl
theorem rK(r:aq)(hz:aP r<=1048576):aP (raP r).1<=1048576/\ck (raP r).2.1<=1048576:=by
 unfold raP;split
 ·rename_i e;have hA:=Gn e;have hR:=hA.R;have hwl:=hA.wl;have hD:r.L.length<=14:=by
   have:=QT hR.dn;have:=(cY hR.pl.net).2.2;omega
  have hI:=LP (n:=r.F.F) (H:=r.N) (D:=r.L) hR.hm.len hA.wn (fun y hy=>⟨hA.wh y hy,hR.hm.ok y (hA.wh y hy)⟩) (raW r) 0 (r.F.N,[]) rfl hA.i0;refine⟨z_st (H:=r.N) hI.st.st ⟨hR.hm.len,hR.hm.lgt⟩ hD,?_⟩;show(raF r).2.length<=1048576;have:=hI.out;unfold raF;omega
 ·exact⟨by decide,Nat.zero_le _⟩
end Vs

namespace Vs
open Go
theorem iM{α:Type}{xs:List α}{n:Nat}(h:xs.length=n):fK xs 0 n=xs:=by subst h;exact ja xs
theorem lC(x1:aq)(o1:gY x1):Rt x1=some true:=by
 unfold Rt;rw[oO x1 _ (by omega) (by omega) o1];simp only[Option.bind_some];by_cases hc1:(1048576:Int)-aP x1<0
 ·simp[hc1]
 simp only[hc1,if_false,decide_false,cond_false];have z1:aP x1<=1048576:=by omega
 have zr:=rK x1 z1;obtain⟨zr1,zr2⟩:=zr;have w1:=w_im x1;have f1:=gh 1 x1;have m1:=ig x1 1 (by omega) (by omega) z1;have n1:decide ((aV 1 x1).1<0)=false:=decide_eq_false (by omega);have w2:=w_im (raP x1).1;have f2:=gh 1 (raP x1).1;have m2:=ig (raP x1).1 1 (by omega) (by omega) zr1;have n2:decide ((aV 1 (raP x1).1).1<0)=false:=decide_eq_false (by omega);have w3:=GZ (raP x1).2.1;have f3:=bA bK cO gm (raP x1).2.1 ((aV 1 (raP x1).1).1);have m3:=mf (raP x1).2.1 ((aV 1 (raP x1).1).1) (by omega) (by omega) zr2;have n3:decide ((aD bK ((aV 1 (raP x1).1).1) (raP x1).2.1).1<0)=false:=decide_eq_false (by omega);have grZ36:wD (⟨(⟨(⟨(aV 1 (raP x1).1).2.1,(aV 1 (raP x1).1).2.2.1⟩:af),(aV 1 (raP x1).1).2.2.2.1⟩:aK),(aV 1 (raP x1).1).2.2.2.2.1,(aV 1 (raP x1).1).2.2.2.2.2⟩:aq) 1=some (aV 1 (raP x1).1).1:=hU (raP x1).1 1 (by omega) (by omega) zr1;have grZ40:=jy (raP x1).2.1 ((aV 1 (raP x1).1).1) (by omega) (by omega) zr2;have grZ51:wD (⟨(⟨(⟨(aV 1 (raP x1).1).2.1,(aV 1 (raP x1).1).2.2.1⟩:af),(aV 1 (raP x1).1).2.2.2.1⟩:aK),(aV 1 (raP x1).1).2.2.2.2.1,(aV 1 (raP x1).1).2.2.2.2.2⟩:aq) 1=some (aV 1 (raP x1).1).1:=hU (raP x1).1 1 (by omega) (by omega) zr1;have grZ53:=jy (raP x1).2.1 ((aV 1 (raP x1).1).1) (by omega) (by omega) zr2;simp only[nc x1 z1,ny x1 z1,oQ x1 z1,jJ ((raP x1).1) zr1,rA ((raP x1).2.1) zr2,jJ x1 z1,m1,n1,m2,n2,m3,n3,iM (kl 1 (raP x1).1),iM (jX 1 (raP x1).1),iM (ky 1 (raP x1).1),iM (ku 1 (raP x1).1),iM (jV 1 (raP x1).1),grZ36,iM (bS bK (raP x1).2.1 ((aV 1 (raP x1).1).1)),grZ40,grZ51,grZ53,ja,Option.bind_some,Bool.not_true,beq_self_eq_true,bnd,bne_self_eq_false,cond_false,cond_true]
end Vs

