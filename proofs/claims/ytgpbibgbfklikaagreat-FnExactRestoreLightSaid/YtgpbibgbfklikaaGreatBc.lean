/-
  Part of the proof that the law FnExactRestoreLight returns true at every input; no condition beside the row's own.
-/
import Derived.Test.YtgpbibgbfklikaaGreatRe
import Derived.Test.YtgpbibgbfklikaaGreatBa
set_option linter.defProp false
set_option linter.unusedSimpArgs false
set_option linter.unusedVariables false
namespace Vs
open Go
theorem BH:∀(ns:List Int)(r:ByteArray),(ns.foldl (fun r n=>r.push (UInt8.ofNat n.toNat)) r).size=r.size+ns.length
 |[],r=>by simp
 | n :: ns, r => by
   simp only[List.foldl_cons,BH ns,List.length_cons,ByteArray.size_push];omega
theorem rz(ns:List Int):(b2s ns).size=ns.length:=by
 unfold b2s;rw[BH];simp
def txt(k:Int):ByteArray:=(wU k).getD ⟨#[]⟩
theorem qy(k:Int)(h0:0<=k)(h1:k<=1000000000000):wU k=some (txt k):=by
 have:∃r,wU k=some r:=by
  unfold wU;by_cases h:k<=0
  ·exact⟨_,by rw[decide_eq_true h,cond_true]⟩
  ·rw[decide_eq_false h,cond_false];obtain⟨b,hb,hq⟩:=ea (f:=CK) (fun s=>0<=s.1/\s.2.size<=13/\s.1*10^s.2.size<=1000000000000) (fun s=>s.1.toNat) (fun b=>b.size<=13) (fun s hI=>by
    obtain⟨a,z⟩:=s;obtain⟨i1,i2,i3⟩:=hI;simp only at i1 i2 i3;by_cases hp:0<a
    ·left;have hz:z.size<=12:=by
      apply Decidable.byContradiction;intro hc;have e:z.size=13:=by omega
      rw[e] at i3;omega
     have hd:10*(a.tdiv 10)<=a:=by rw[Int.tdiv_eq_ediv_of_nonneg i1];omega
     have hd2:a.tdiv 10<a:=by rw[Int.tdiv_eq_ediv_of_nonneg i1];omega
     have hd3:0<=a.tdiv 10:=by rw[Int.tdiv_eq_ediv_of_nonneg i1];omega
     have hpow:(0:Int)<=10^z.size:=Int.le_of_lt (Int.pow_pos (by omega));have ha:a<=1000000000000:=by
      have h1:(1:Int)<=10^z.size:=Int.pow_pos (by omega);have:=Int.mul_le_mul_of_nonneg_left h1 i1;omega
     refine⟨(a.tdiv 10,b2s [IntKind.wrap .u8 (IntKind.wrap .i64 (48+(Int.tmod a 10)))]++z),?_,⟨hd3,?_,?_⟩,by simp only;omega⟩
     ·simp only[CK,decide_eq_true hp,cond_true,bnd];rw[bu (by omega),bu (by rw[rz];simp;omega)];simp only[Option.bind_some];rw[aF (n:=Int.tdiv a 10) (by omega) (by omega)]
     ·simp only[ByteArray.size_append,rz,List.length_cons,List.length_nil];omega
     ·simp only[ByteArray.size_append,rz,List.length_cons,List.length_nil];rw[show 0+1+z.size=z.size+1 by omega,Int.pow_succ,Int.mul_comm (10^z.size) 10,<-Int.mul_assoc,Int.mul_comm (a.tdiv 10) 10];exact Int.le_trans (Int.mul_le_mul_of_nonneg_right hd hpow) i3
    ·right;exact⟨z,by simp only[CK,decide_eq_false hp,cond_false],i2⟩) N0 (k,⟨#[]⟩) ⟨h0,by show(0:Nat)<=13;omega,by show k*10^0<=1000000000000;simpa using h1⟩ (gP (by simp;omega))
   rw[hb];simp only[Option.bind_some];rw[bu (by have:(⟨#[109]⟩:ByteArray).size=1:=rfl;omega)];exact⟨_,rfl⟩
 obtain⟨r,hr⟩:=this;unfold txt;rw[hr];rfl
def bC(xs:(List ByteArray)):Nat:=xs.length+(xs.map fun x=>x.size).sum
def mt(xs:(List ByteArray)):Prop:=xs.length<=9223372036854775807/\∀x∈xs,x.size<=9223372036854775807
theorem vi(xs:(List ByteArray))(l:Int)(h1:0<=l)(h2:l<=1048576)(hs:mt xs):KD xs l=some (if l-bC xs<0 then(-1:Int) else l-bC xs):=by
 unfold KD;have hs1:=hs.1;rw[aF (by omega) (by omega)];simp only[iP,decide_eq_true_eq];by_cases h:l-(xs.length:Int)<0
 ·rw[if_pos h,if_pos (by unfold bC;omega)]
 ·rw[if_neg h,AM (f:=M_b xs) xs (fun x=>x.size) (fun i x l' hx h3 h4=>by
   have hlt:=(List.getElem?_eq_some_iff.1 hx).1;have h1:decide ((i:Int)<xs.length)=true:=by simp[hlt]
   have hx2:=hs.2 x (List.mem_of_getElem? hx);simp only[M_b,h1,cond_true,aU,hx,Option.bind_some,iP,decide_eq_true_eq];rw[aF (by omega) (by omega),aF (by omega) (by omega)];by_cases h5:l'-(x.size:Int)<0
   ·simp only[if_pos h5,if_true]
   ·simp only[if_neg h5,if_true];rfl) (fun l=>by simp[M_b]) _ (by omega) (by omega) (by omega)]
  have e:l-(xs.length:Int)-((xs.map fun x=>x.size).sum:Nat)=l-(bC xs:Int):=by unfold bC;omega
  rw[e];by_cases h5:l-(bC xs:Int)<0
  ·simp only[if_pos h5,Option.bind_some]
  ·simp only[if_neg h5,Option.bind_some]
theorem xe(xs:(List ByteArray))(hl:bC xs<=1048576):Ol xs=some xs:=by
 unfold Ol;have hlen:xs.length<=1048576:=by unfold bC at hl;omega
 have key:=fun l0(h0:l0.length=xs.length)=>lw (f:=Dv xs) xs id l0 h0 (fun i l x y hx hy hll=>by
  have hlt:=(List.getElem?_eq_some_iff.1 hx).1;have h1:decide ((i:Int)<xs.length)=true:=by simp[hlt]
  have h2:(0<=(i:Int)/\(i:Int)<(l.length:Int)):=by omega
  simp only[Dv,h1,cond_true,aU,hx,Option.bind_some,bu h2,Int.toNat_natCast,hy,bnd,id];rw[aF (by omega) (by omega)];rfl) (fun l=>by simp[Dv]) (by omega)
 rw[bu (by omega)];simp only[Option.bind_some,bnd];rw[key _ (by simp)];simp
theorem vZ(xs:(List ByteArray))(hl:bC xs<=1048576):IA xs xs=some true:=by
 unfold IA;have hlen:xs.length<=1048576:=by unfold bC at hl;omega
 rw[oV (f:=Di xs xs) xs (fun i x hx=>by
  have hlt:=(List.getElem?_eq_some_iff.1 hx).1;have h1:decide ((i:Int)<xs.length)=true:=by simp[hlt]
  simp only[Di,h1,cond_true,aU,hx,Option.bind_some,beq_self_eq_true,Bool.not_true,cond_false];rw[aF (by omega) (by omega)];rfl) (by simp[Di]) (by omega)]
 simp
theorem CV(x:ay):FH x=some x:=by unfold FH;rfl
theorem Dj(x:ay):FB x x=some true:=by unfold FB;simp
def bQ(xs:(List ay)):Nat:=xs.length
def iL(xs:(List ay)):Prop:=xs.length<=9223372036854775807
theorem xP(xs:(List ay))(l:Int)(h1:0<=l)(h2:l<=1048576)(hs:iL xs):Jj xs l=some (if l-bQ xs<0 then(-1:Int) else l-bQ xs):=by
 unfold Jj;unfold iL at hs;rw[aF (by omega) (by omega)];simp only[iP,decide_eq_true_eq];by_cases h:l-(xs.length:Int)<0
 ·rw[if_pos h,if_pos (show l-(bQ xs:Int)<0 from h)]
 ·rw[if_neg h,if_neg (show¬l-(bQ xs:Int)<0 from h)];rfl
theorem zw(xs:(List ay))(hl:bQ xs<=1048576):Nt xs=some xs:=by
 unfold Nt;have hlen:xs.length<=1048576:=by unfold bQ at hl;omega
 have key:=fun l0(h0:l0.length=xs.length)=>lw (f:=DD xs) xs id l0 h0 (fun i l x y hx hy hll=>by
  have hlt:=(List.getElem?_eq_some_iff.1 hx).1;have h1:decide ((i:Int)<xs.length)=true:=by simp[hlt]
  have h2:(0<=(i:Int)/\(i:Int)<(l.length:Int)):=by omega
  have hto:FH x=some x:=CV x;simp only[DD,h1,cond_true,aU,hx,Option.bind_some,bu h2,Int.toNat_natCast,hy,hto,bnd,id];rw[aF (by omega) (by omega)];rfl) (fun l=>by simp[DD]) (by omega)
 rw[bu (by omega)];simp only[Option.bind_some,bnd];rw[key _ (by simp)];simp
theorem yz(xs:(List ay))(hl:bQ xs<=1048576):Og xs xs=some true:=by
 unfold Og;have hlen:xs.length<=1048576:=by unfold bQ at hl;omega
 rw[oV (f:=Ew xs xs) xs (fun i x hx=>by
  have hlt:=(List.getElem?_eq_some_iff.1 hx).1;have h1:decide ((i:Int)<xs.length)=true:=by simp[hlt]
  have he:FB x x=some true:=Dj x;simp only[Ew,h1,cond_true,aU,hx,Option.bind_some,he,Bool.not_true,cond_false];rw[aF (by omega) (by omega)];rfl) (by simp[Ew]) (by omega)]
 simp
def aW(x:af):Nat:=bC x.Nodes+bQ x.Fibers
def rr(x:af):Prop:=mt x.Nodes/\iL x.Fibers
theorem vR(x:af)(l:Int)(h1:0<=l)(h2:l<=1048576)(hs:rr x):Gn x l=some (if l-aW x<0 then(-1:Int) else l-aW x):=by
 unfold Gn;obtain⟨hs0,hs1⟩:=hs;rw[vi _ _ (by omega) (by omega) hs0];simp only[Option.bind_some];by_cases h10:l-(bC x.Nodes:Int)<0
 ·rw[if_pos h10,if_pos (show l-(aW x:Int)<0 by unfold aW;omega)];simp
 ·simp only[if_neg h10];simp only[h10,decide_false,cond_false];rw[xP _ _ (by omega) (by omega) hs1];simp only[Option.bind_some];by_cases h11:l-(bC x.Nodes:Int)-(bQ x.Fibers:Int)<0
  ·rw[if_pos h11,if_pos (show l-(aW x:Int)<0 by unfold aW;omega)];simp
  ·simp only[if_neg h11];simp only[h11,decide_false,cond_false];have e:l-(bC x.Nodes:Int)-(bQ x.Fibers:Int)=l-(aW x:Int):=by unfold aW;omega
   rw[e,if_neg (by omega)]
theorem wK(x:af)(hl:aW x<=1048576):NA x=some x:=by
 unfold NA;simp only[xe x.Nodes (by unfold aW at hl;omega),zw x.Fibers (by unfold aW at hl;omega),Option.bind_some]
theorem vu(x:af)(hl:aW x<=1048576):Iw x x=some true:=by
 unfold Iw;simp[vZ x.Nodes (by unfold aW at hl;omega),yz x.Fibers (by unfold aW at hl;omega)]
def cq(xs:(List Int)):Nat:=xs.length
def jE(xs:(List Int)):Prop:=xs.length<=9223372036854775807
theorem wL(xs:(List Int))(l:Int)(h1:0<=l)(h2:l<=1048576)(hs:jE xs):CL xs l=some (if l-cq xs<0 then(-1:Int) else l-cq xs):=by
 unfold CL;unfold jE at hs;rw[aF (by omega) (by omega)];simp only[iP,decide_eq_true_eq];by_cases h:l-(xs.length:Int)<0
 ·rw[if_pos h,if_pos (show l-(cq xs:Int)<0 from h)]
 ·rw[if_neg h,if_neg (show¬l-(cq xs:Int)<0 from h)];rfl
theorem uX(xs:(List Int))(hl:cq xs<=1048576):FG xs=some xs:=by
 unfold FG;have hlen:xs.length<=1048576:=by unfold cq at hl;omega
 have key:=fun l0(h0:l0.length=xs.length)=>lw (f:=M_i xs) xs id l0 h0 (fun i l x y hx hy hll=>by
  have hlt:=(List.getElem?_eq_some_iff.1 hx).1;have h1:decide ((i:Int)<xs.length)=true:=by simp[hlt]
  have h2:(0<=(i:Int)/\(i:Int)<(l.length:Int)):=by omega
  simp only[M_i,h1,cond_true,aU,hx,Option.bind_some,bu h2,Int.toNat_natCast,hy,bnd,id];rw[aF (by omega) (by omega)];rfl) (fun l=>by simp[M_i]) (by omega)
 rw[bu (by omega)];simp only[Option.bind_some,bnd];rw[key _ (by simp)];simp
theorem xl(xs:(List Int))(hl:cq xs<=1048576):Fp xs xs=some true:=by
 unfold Fp;have hlen:xs.length<=1048576:=by unfold cq at hl;omega
 rw[oV (f:=Cf xs xs) xs (fun i x hx=>by
  have hlt:=(List.getElem?_eq_some_iff.1 hx).1;have h1:decide ((i:Int)<xs.length)=true:=by simp[hlt]
  simp only[Cf,h1,cond_true,aU,hx,Option.bind_some,bne_self_eq_false,cond_false];rw[aF (by omega) (by omega)];rfl) (by simp[Cf]) (by omega)]
 simp
def dH(x:ar):Nat:=cq x.Fibers
def qH(x:ar):Prop:=jE x.Fibers
theorem DR(x:ar)(l:Int)(h1:0<=l)(h2:l<=1048576)(hs:qH x):Mv x l=some (if l-dH x<0 then(-1:Int) else l-dH x):=by
 unfold Mv;have hs0:jE x.Fibers:=hs;rw[wL _ _ (by omega) (by omega) hs0];simp only[Option.bind_some];by_cases h10:l-(cq x.Fibers:Int)<0
 ·rw[if_pos h10,if_pos (show l-(dH x:Int)<0 by unfold dH;omega)];simp
 ·simp only[if_neg h10];simp only[h10,decide_false,cond_false];have e:l-(cq x.Fibers:Int)=l-(dH x:Int):=by unfold dH;omega
  rw[e,if_neg (by omega)]
theorem FC(x:ar)(hl:dH x<=1048576):GK x=some x:=by
 unfold GK;simp only[uX x.Fibers (by unfold dH at hl;omega),Option.bind_some]
theorem DG(x:ar)(hl:dH x<=1048576):KA x x=some true:=by
 unfold KA;simp[xl x.Fibers (by unfold dH at hl;omega)]
theorem DX(x:bc):Gb x=some x:=by unfold Gb;rfl
theorem EM(x:bc):Jx x x=some true:=by unfold Jx;simp
def ck(x:aq):Nat:=dH x.Route
def qo(x:aq):Prop:=qH x.Route
theorem CJ(x:aq)(l:Int)(h1:0<=l)(h2:l<=1048576)(hs:qo x):NF x l=some (if l-ck x<0 then(-1:Int) else l-ck x):=by
 unfold NF;have hs0:qH x.Route:=hs;rw[DR _ _ (by omega) (by omega) hs0];simp only[Option.bind_some];by_cases h10:l-(dH x.Route:Int)<0
 ·rw[if_pos h10,if_pos (show l-(ck x:Int)<0 by unfold ck;omega)];simp
 ·simp only[if_neg h10];simp only[h10,decide_false,cond_false];have e:l-(dH x.Route:Int)=l-(ck x:Int):=by unfold ck;omega
  rw[e,if_neg (by omega)]
theorem ED(x:aq)(hl:ck x<=1048576):DH x=some x:=by
 unfold DH;simp only[FC x.Route (by unfold ck at hl;omega),DX x.Block,Option.bind_some]
theorem FF(x:aq)(hl:ck x<=1048576):Ef x x=some true:=by
 unfold Ef;simp[DG x.Route (by unfold ck at hl;omega),EM x.Block]
def bb(xs:(List aq)):Nat:=xs.length+(xs.map fun x=>ck x).sum
def lk(xs:(List aq)):Prop:=xs.length<=9223372036854775807/\∀x∈xs,qo x
theorem pJ(xs:(List aq))(l:Int)(h1:0<=l)(h2:l<=1048576)(hs:lk xs):CG xs l=some (if l-bb xs<0 then(-1:Int) else l-bb xs):=by
 unfold CG;have hs1:=hs.1;rw[aF (by omega) (by omega)];simp only[iP,decide_eq_true_eq];by_cases h:l-(xs.length:Int)<0
 ·rw[if_pos h,if_pos (by unfold bb;omega)]
 ·rw[if_neg h,AM (f:=M_y xs) xs (fun x=>ck x) (fun i x l' hx h3 h4=>by
   have hlt:=(List.getElem?_eq_some_iff.1 hx).1;have h1:decide ((i:Int)<xs.length)=true:=by simp[hlt]
   simp only[M_y,h1,cond_true,aU,hx,Option.bind_some,CJ x l' h3 h4 (hs.2 x (List.mem_of_getElem? hx)),iP,decide_eq_true_eq];rw[aF (by omega) (by omega)];by_cases h5:l'-(ck x:Int)<0
   ·simp only[if_pos h5,if_true,Int.reduceNeg,Int.reduceLT]
   ·simp only[if_neg h5,if_true];rfl) (fun l=>by simp[M_y]) _ (by omega) (by omega) (by omega)]
  have e:l-(xs.length:Int)-((xs.map fun x=>ck x).sum:Nat)=l-(bb xs:Int):=by unfold bb;omega
  rw[e];by_cases h5:l-(bb xs:Int)<0
  ·simp only[if_pos h5,Option.bind_some]
  ·simp only[if_neg h5,Option.bind_some]
theorem rk(xs:(List aq))(hl:bb xs<=1048576):Ei xs=some xs:=by
 unfold Ei;have hlen:xs.length<=1048576:=by unfold bb at hl;omega
 have key:=fun l0(h0:l0.length=xs.length)=>lw (f:=M_m xs) xs id l0 h0 (fun i l x y hx hy hll=>by
  have hlt:=(List.getElem?_eq_some_iff.1 hx).1;have h1:decide ((i:Int)<xs.length)=true:=by simp[hlt]
  have h2:(0<=(i:Int)/\(i:Int)<(l.length:Int)):=by omega
  have hto:DH x=some x:=ED x (by have:=my (fun x=>ck x) hx;unfold bb at hl;omega);simp only[M_m,h1,cond_true,aU,hx,Option.bind_some,bu h2,Int.toNat_natCast,hy,hto,bnd,id];rw[aF (by omega) (by omega)];rfl) (fun l=>by simp[M_m]) (by omega)
 rw[bu (by omega)];simp only[Option.bind_some,bnd];rw[key _ (by simp)];simp
theorem pf(xs:(List aq))(hl:bb xs<=1048576):Fj xs xs=some true:=by
 unfold Fj;have hlen:xs.length<=1048576:=by unfold bb at hl;omega
 rw[oV (f:=EY xs xs) xs (fun i x hx=>by
  have hlt:=(List.getElem?_eq_some_iff.1 hx).1;have h1:decide ((i:Int)<xs.length)=true:=by simp[hlt]
  have he:Ef x x=some true:=FF x (by have:=my (fun x=>ck x) hx;unfold bb at hl;omega);simp only[EY,h1,cond_true,aU,hx,Option.bind_some,he,Bool.not_true,cond_false];rw[aF (by omega) (by omega)];rfl) (by simp[EY]) (by omega)]
 simp
def cr(x:aK):Nat:=aW x.Network+bb x.Lights
def Bl(x:aK):Prop:=rr x.Network/\lk x.Lights
theorem Iy(x:aK)(l:Int)(h1:0<=l)(h2:l<=1048576)(hs:Bl x):Ma x l=some (if l-cr x<0 then(-1:Int) else l-cr x):=by
 unfold Ma;obtain⟨hs0,hs1⟩:=hs;rw[vR _ _ (by omega) (by omega) hs0];simp only[Option.bind_some];by_cases h10:l-(aW x.Network:Int)<0
 ·rw[if_pos h10,if_pos (show l-(cr x:Int)<0 by unfold cr;omega)];simp
 ·simp only[if_neg h10];simp only[h10,decide_false,cond_false];rw[pJ _ _ (by omega) (by omega) hs1];simp only[Option.bind_some];by_cases h11:l-(aW x.Network:Int)-(bb x.Lights:Int)<0
  ·rw[if_pos h11,if_pos (show l-(cr x:Int)<0 by unfold cr;omega)];simp
  ·simp only[if_neg h11];simp only[h11,decide_false,cond_false];have e:l-(aW x.Network:Int)-(bb x.Lights:Int)=l-(cr x:Int):=by unfold cr;omega
   rw[e,if_neg (by omega)]
theorem Kc(x:aK)(hl:cr x<=1048576):GN x=some x:=by
 unfold GN;simp only[wK x.Network (by unfold cr at hl;omega),rk x.Lights (by unfold cr at hl;omega),Option.bind_some]
theorem KV(x:aK)(hl:cr x<=1048576):Nd x x=some true:=by
 unfold Nd;simp[vu x.Network (by unfold cr at hl;omega),pf x.Lights (by unfold cr at hl;omega)]
def aN(x:aj):Nat:=cr x.Plan+bb x.Home+cq x.Down
def gG(x:aj):Prop:=Bl x.Plan/\lk x.Home/\jE x.Down
theorem oH(x:aj)(l:Int)(h1:0<=l)(h2:l<=1048576)(hs:gG x):HP x l=some (if l-aN x<0 then(-1:Int) else l-aN x):=by
 unfold HP;obtain⟨hs0,hs1,hs2⟩:=hs;rw[Iy _ _ (by omega) (by omega) hs0];simp only[Option.bind_some];by_cases h10:l-(cr x.Plan:Int)<0
 ·rw[if_pos h10,if_pos (show l-(aN x:Int)<0 by unfold aN;omega)];simp
 ·simp only[if_neg h10];simp only[h10,decide_false,cond_false];rw[pJ _ _ (by omega) (by omega) hs1];simp only[Option.bind_some];by_cases h11:l-(cr x.Plan:Int)-(bb x.Home:Int)<0
  ·rw[if_pos h11,if_pos (show l-(aN x:Int)<0 by unfold aN;omega)];simp
  ·simp only[if_neg h11];simp only[h11,decide_false,cond_false];rw[wL _ _ (by omega) (by omega) hs2];simp only[Option.bind_some];by_cases h12:l-(cr x.Plan:Int)-(bb x.Home:Int)-(cq x.Down:Int)<0
   ·rw[if_pos h12,if_pos (show l-(aN x:Int)<0 by unfold aN;omega)];simp
   ·simp only[if_neg h12];simp only[h12,decide_false,cond_false];have e:l-(cr x.Plan:Int)-(bb x.Home:Int)-(cq x.Down:Int)=l-(aN x:Int):=by unfold aN;omega
    rw[e,if_neg (by omega)]
theorem oD(x:aj)(hl:aN x<=1048576):wA x=some x:=by
 unfold wA;simp only[Kc x.Plan (by unfold aN at hl;omega),rk x.Home (by unfold aN at hl;omega),uX x.Down (by unfold aN at hl;omega),Option.bind_some]
theorem jF(x:aj)(hl:aN x<=1048576):xg x x=some true:=by
 unfold xg;simp[KV x.Plan (by unfold aN at hl;omega),pf x.Home (by unfold aN at hl;omega),xl x.Down (by unfold aN at hl;omega)]
def aC(k:Int)(_:ByteArray):Int×ByteArray:=(k+1,txt k)
def w_j(_:ByteArray):Nat:=1
theorem dR(k:Int)(x:ByteArray):(aC k x).1=k+(w_j x:Int):=rfl
theorem w_ij(xs:(List ByteArray)):(xs.map w_j).sum<=16*bC xs:=by
 unfold bC;induction xs with
 |nil=>simp
 |cons x xs ih=>simp only[List.map_cons,List.sum_cons,List.length_cons,w_j] at ih⊢;omega
theorem rP(xs:(List ByteArray))(k0:Int)(hk:0<=k0)(hK:k0+((xs.map w_j).sum:Nat)<=1000000000000)(hl:bC xs<=1048576):Gx k0 xs=some (aD aC k0 xs):=by
 unfold Gx;have hlen:xs.length<=1048576:=by unfold bC at hl;omega
 rw[lj (f:=Du) xs aC w_j dR 1000000000000 (fun i x k l hll hi hx hli h0 hK2=>by
  have hw1:w_j x=w_j x:=rfl;have h1:decide ((i:Int)<(l.length:Int))=true:=decide_eq_true (by omega);have h2:0<=(i:Int)/\(i:Int)<(l.length:Int):=by omega
  simp only[Du,h1,cond_true,bu h2,Option.bind_some,Int.toNat_natCast,hli,bnd,qy k h0 (by omega)];rw[aF (n:=k+1) (by unfold w_j at hK2;omega) (by unfold w_j at hK2;omega),aF (n:=(i:Int)+1) (by unfold w_j at hK2;omega) (by unfold w_j at hK2;omega)];rfl) (fun k l hll=>by simp[Du,hll]) k0 hk hK (by omega)]
 rfl
theorem rI(xs:(List ByteArray))(k0:Int)(hk:0<=k0)(hK:k0+((xs.map w_j).sum:Nat)<=1000000000000)(hl:bC xs<=1048576):FE (aD aC k0 xs).2 k0=some (aD aC k0 xs).1:=by
 unfold FE;have hlen:xs.length<=1048576:=by unfold bC at hl;omega
 rw[lf (f:=Es (aD aC k0 xs).2) xs aC w_j dR 1000000000000 k0 (fun i x k hx hm h0 hK2=>by
  have hi:=(List.getElem?_eq_some_iff.1 hx).1;have h1:decide ((i:Int)<((aD aC k0 xs).2.length:Int))=true:=decide_eq_true (by rw[bU];omega);simp only[Es,h1,cond_true,aU,hm,Option.bind_some,aC,qy k h0 (by omega),beq_self_eq_true,Bool.not_true,cond_false];rw[aF (n:=k+1) (by unfold w_j at hK2;omega) (by unfold w_j at hK2;omega),aF (n:=(i:Int)+1) (by unfold w_j at hK2;omega) (by unfold w_j at hK2;omega)];rfl) (fun k=>by simp[Es,bU]) hk hK (by omega)]
 rfl
def aO(k:Int)(_:ay):Int×ay:=(k+4,⟨k,k+1,k+2,k+3⟩)
def w_c(_:ay):Nat:=4
theorem eG(k:Int)(x:ay):(aO k x).1=k+(w_c x:Int):=rfl
theorem w_ik(xs:(List ay)):(xs.map w_c).sum<=16*bQ xs:=by
 unfold bQ;induction xs with
 |nil=>simp
 |cons x xs ih=>simp only[List.map_cons,List.sum_cons,List.length_cons,w_c] at ih⊢;omega
theorem tL(xs:(List ay))(k0:Int)(hk:0<=k0)(hK:k0+((xs.map w_c).sum:Nat)<=1000000000000)(hl:bQ xs<=1048576):HM k0 xs=some (aD aO k0 xs):=by
 unfold HM;have hlen:xs.length<=1048576:=by unfold bQ at hl;omega
 rw[lj (f:=Fn) xs aO w_c eG 1000000000000 (fun i x k l hll hi hx hli h0 hK2=>by
  have hw1:w_c x=w_c x:=rfl;have h1:decide ((i:Int)<(l.length:Int))=true:=decide_eq_true (by omega);have h2:0<=(i:Int)/\(i:Int)<(l.length:Int):=by omega
  simp only[Fn,h1,cond_true,bu h2,Option.bind_some,Int.toNat_natCast,hli,bnd,List.getElem?_set_self (show i<l.length by omega),List.set_set];rw[aF (n:=k+1) (by unfold w_c at hK2;omega) (by unfold w_c at hK2;omega),aF (n:=k+1+1) (by unfold w_c at hK2;omega) (by unfold w_c at hK2;omega),aF (n:=k+1+1+1) (by unfold w_c at hK2;omega) (by unfold w_c at hK2;omega),aF (n:=k+1+1+1+1) (by unfold w_c at hK2;omega) (by unfold w_c at hK2;omega),aF (n:=(i:Int)+1) (by unfold w_c at hK2;omega) (by unfold w_c at hK2;omega)];simp only[Int.add_assoc,Int.reduceAdd,aO];rfl) (fun k l hll=>by simp[Fn,hll]) k0 hk hK (by omega)]
 rfl
theorem ux(xs:(List ay))(k0:Int)(hk:0<=k0)(hK:k0+((xs.map w_c).sum:Nat)<=1000000000000)(hl:bQ xs<=1048576):Ec (aD aO k0 xs).2 k0=some (aD aO k0 xs).1:=by
 unfold Ec;have hlen:xs.length<=1048576:=by unfold bQ at hl;omega
 rw[lf (f:=Fe (aD aO k0 xs).2) xs aO w_c eG 1000000000000 k0 (fun i x k hx hm h0 hK2=>by
  have hi:=(List.getElem?_eq_some_iff.1 hx).1;have h1:decide ((i:Int)<((aD aO k0 xs).2.length:Int))=true:=decide_eq_true (by rw[bU];omega);simp only[Fe,h1,cond_true,aU,hm,Option.bind_some,aO];rw[aF (n:=k+1) (by unfold w_c at hK2;omega) (by unfold w_c at hK2;omega),aF (n:=k+1+1) (by unfold w_c at hK2;omega) (by unfold w_c at hK2;omega),aF (n:=k+1+1+1) (by unfold w_c at hK2;omega) (by unfold w_c at hK2;omega),aF (n:=k+1+1+1+1) (by unfold w_c at hK2;omega) (by unfold w_c at hK2;omega),aF (n:=(i:Int)+1) (by unfold w_c at hK2;omega) (by unfold w_c at hK2;omega)];simp only[Int.add_assoc,Int.reduceAdd,bne_self_eq_false,cond_false];rfl) (fun k=>by simp[Fe,bU]) hk hK (by omega)]
 rfl
def jQ(k:Int)(x:af):Int×List ByteArray×List ay:=((aD aO (aD aC k x.Nodes).1 x.Fibers).1,(aD aC k x.Nodes).2,(aD aO (aD aC k x.Nodes).1 x.Fibers).2)
def fN(x:af):Nat:=(x.Nodes.map w_j).sum+(x.Fibers.map w_c).sum
def jR(k:Int)(x:af):af:=⟨(aD aC k x.Nodes).2,(aD aO (aD aC k x.Nodes).1 x.Fibers).2⟩
theorem rM(x:af)(k0:Int)(hk:0<=k0)(hK:k0+(fN x:Int)<=1000000000000)(hl:aW x<=1048576):MP k0 x.Nodes x.Fibers=some (jQ k0 x):=by
 unfold MP;unfold fN at hK;have hz:aW x=bC x.Nodes+bQ x.Fibers:=by unfold aW;omega
 have f0:=bA aC w_j dR x.Nodes k0;have f1:=bA aO w_c eG x.Fibers ((aD aC k0 x.Nodes).1);rw[rP x.Nodes k0 (by omega) (by omega) (by omega)];simp only[Option.bind_some];rw[tL x.Fibers ((aD aC k0 x.Nodes).1) (by omega) (by omega) (by omega)];simp only[Option.bind_some];rfl
theorem sf(x:af)(k0:Int)(hk:0<=k0)(hK:k0+(fN x:Int)<=1000000000000)(hl:aW x<=1048576):EB (jR k0 x) k0=some (jQ k0 x).1:=by
 unfold fN at hK;have hz:aW x=bC x.Nodes+bQ x.Fibers:=by unfold aW;omega
 have f0:=bA aC w_j dR x.Nodes k0;have f1:=bA aO w_c eG x.Fibers ((aD aC k0 x.Nodes).1);have h0:FE (jR k0 x).Nodes k0=some (aD aC k0 x.Nodes).1:=rI x.Nodes k0 (by omega) (by omega) (by omega);have n0:decide ((aD aC k0 x.Nodes).1<0)=false:=decide_eq_false (by omega);have h1:Ec (jR k0 x).Fibers ((aD aC k0 x.Nodes).1)=some (aD aO (aD aC k0 x.Nodes).1 x.Fibers).1:=ux x.Fibers ((aD aC k0 x.Nodes).1) (by omega) (by omega) (by omega);have n1:decide ((aD aO (aD aC k0 x.Nodes).1 x.Fibers).1<0)=false:=decide_eq_false (by omega);unfold EB;simp only[h0,n0,h1,n1,Option.bind_some,cond_false];rfl
def bP(k:Int)(_:Int):Int×Int:=(k+1,k)
def cT(_:Int):Nat:=1
theorem ia(k:Int)(x:Int):(bP k x).1=k+(cT x:Int):=rfl
theorem Ow(xs:(List Int)):(xs.map cT).sum<=16*cq xs:=by
 unfold cq;induction xs with
 |nil=>simp
 |cons x xs ih=>simp only[List.map_cons,List.sum_cons,List.length_cons,cT] at ih⊢;omega
theorem pT(xs:(List Int))(k0:Int)(hk:0<=k0)(hK:k0+((xs.map cT).sum:Nat)<=1000000000000)(hl:cq xs<=1048576):CE k0 xs=some (aD bP k0 xs):=by
 unfold CE;have hlen:xs.length<=1048576:=by unfold cq at hl;omega
 rw[lj (f:=Dx) xs bP cT ia 1000000000000 (fun i x k l hll hi hx hli h0 hK2=>by
  have hw1:cT x=cT x:=rfl;have h1:decide ((i:Int)<(l.length:Int))=true:=decide_eq_true (by omega);have h2:0<=(i:Int)/\(i:Int)<(l.length:Int):=by omega
  simp only[Dx,h1,cond_true,bu h2,Option.bind_some,Int.toNat_natCast,hli,bnd];rw[aF (n:=k+1) (by unfold cT at hK2;omega) (by unfold cT at hK2;omega),aF (n:=(i:Int)+1) (by unfold cT at hK2;omega) (by unfold cT at hK2;omega)];rfl) (fun k l hll=>by simp[Dx,hll]) k0 hk hK (by omega)]
 rfl
theorem qu(xs:(List Int))(k0:Int)(hk:0<=k0)(hK:k0+((xs.map cT).sum:Nat)<=1000000000000)(hl:cq xs<=1048576):uZ (aD bP k0 xs).2 k0=some (aD bP k0 xs).1:=by
 unfold uZ;have hlen:xs.length<=1048576:=by unfold cq at hl;omega
 rw[lf (f:=FL (aD bP k0 xs).2) xs bP cT ia 1000000000000 k0 (fun i x k hx hm h0 hK2=>by
  have hi:=(List.getElem?_eq_some_iff.1 hx).1;have h1:decide ((i:Int)<((aD bP k0 xs).2.length:Int))=true:=decide_eq_true (by rw[bU];omega);simp only[FL,h1,cond_true,aU,hm,Option.bind_some,bP,bne_self_eq_false,cond_false];rw[aF (n:=k+1) (by unfold cT at hK2;omega) (by unfold cT at hK2;omega),aF (n:=(i:Int)+1) (by unfold cT at hK2;omega) (by unfold cT at hK2;omega)];rfl) (fun k=>by simp[FL,bU]) hk hK (by omega)]
 rfl
def aQ(k:Int)(x:aq):Int×aq:=((aD bP (k+1+1) x.Route.Fibers).1+1+1,⟨k,⟨k+1,(aD bP (k+1+1) x.Route.Fibers).2⟩,⟨(aD bP (k+1+1) x.Route.Fibers).1,(aD bP (k+1+1) x.Route.Fibers).1+1⟩⟩)
def w_p(x:aq):Nat:=4+(x.Route.Fibers.map cT).sum
theorem eJ(k:Int)(x:aq):(aQ k x).1=k+(w_p x:Int):=by
 unfold aQ w_p;simp only[bA bP cT ia];omega
theorem w_ih(xs:(List aq)):(xs.map w_p).sum<=16*bb xs:=by
 unfold bb;induction xs with
 |nil=>simp
 | cons x xs ih =>
   have t0:=Ow x.Route.Fibers;simp only[cq] at t0;simp only[List.map_cons,List.sum_cons,List.length_cons,w_p,ck,dH,cq] at ih⊢;omega
theorem mI(xs:(List aq))(k0:Int)(hk:0<=k0)(hK:k0+((xs.map w_p).sum:Nat)<=1000000000000)(hl:bb xs<=1048576):Ej k0 xs=some (aD aQ k0 xs):=by
 unfold Ej;have hlen:xs.length<=1048576:=by unfold bb at hl;omega
 rw[lj (f:=Ck) xs aQ w_p eJ 1000000000000 (fun i x k l hll hi hx hli h0 hK2=>by
  have hw1:w_p x=w_p x:=rfl;have h1:decide ((i:Int)<(l.length:Int))=true:=decide_eq_true (by omega);have h2:0<=(i:Int)/\(i:Int)<(l.length:Int):=by omega
  have hb:ck x<=1048576:=by have:=my (fun x=>ck x) hx;unfold bb at hl;omega
  unfold ck dH cq at hb;unfold w_p at hK2;simp only[Ck,h1,cond_true,bu h2,Option.bind_some,Int.toNat_natCast,hli,bnd,List.getElem?_set_self (show i<l.length by omega),List.set_set];rw[aF (n:=k+1) (by omega) (by omega),aF (n:=k+1+1) (by omega) (by omega)];have f0:=bA bP cT ia x.Route.Fibers (k+1+1);have g0:=Ow x.Route.Fibers;unfold cq at g0;rw[pT x.Route.Fibers (k+1+1) (by omega) (by omega) (by unfold cq;omega)];simp only[Option.bind_some,List.getElem?_set_self (show i<l.length by omega),List.set_set];rw[aF (n:=(aD bP (k+1+1) x.Route.Fibers).1+1) (by omega) (by omega),aF (n:=(aD bP (k+1+1) x.Route.Fibers).1+1+1) (by omega) (by omega)];rw[aF (n:=(i:Int)+1) (by omega) (by omega)];rfl) (fun k l hll=>by simp[Ck,hll]) k0 hk hK (by omega)]
 rfl
theorem mS(xs:(List aq))(k0:Int)(hk:0<=k0)(hK:k0+((xs.map w_p).sum:Nat)<=1000000000000)(hl:bb xs<=1048576):xf (aD aQ k0 xs).2 k0=some (aD aQ k0 xs).1:=by
 unfold xf;have hlen:xs.length<=1048576:=by unfold bb at hl;omega
 rw[lf (f:=Dn (aD aQ k0 xs).2) xs aQ w_p eJ 1000000000000 k0 (fun i x k hx hm h0 hK2=>by
  have hi:=(List.getElem?_eq_some_iff.1 hx).1;have h1:decide ((i:Int)<((aD aQ k0 xs).2.length:Int))=true:=decide_eq_true (by rw[bU];omega);have hb:ck x<=1048576:=by have:=my (fun x=>ck x) hx;unfold bb at hl;omega
  unfold ck dH cq at hb;unfold w_p at hK2;simp only[Dn,h1,cond_true,aU,hm,Option.bind_some,aQ];rw[aF (n:=k+1) (by omega) (by omega),aF (n:=k+1+1) (by omega) (by omega)];have f0:=bA bP cT ia x.Route.Fibers (k+1+1);have g0:=Ow x.Route.Fibers;unfold cq at g0;have hh0:uZ (aD bP (k+1+1) x.Route.Fibers).2 (k+1+1)=some (aD bP (k+1+1) x.Route.Fibers).1:=qu x.Route.Fibers (k+1+1) (by omega) (by omega) (by unfold cq;omega);have hn0:decide ((aD bP (k+1+1) x.Route.Fibers).1<0)=false:=decide_eq_false (by omega);simp only[bne_self_eq_false,cond_false,hh0,Option.bind_some,hn0];rw[aF (n:=(aD bP (k+1+1) x.Route.Fibers).1+1) (by omega) (by omega),aF (n:=(aD bP (k+1+1) x.Route.Fibers).1+1+1) (by omega) (by omega)];rw[aF (n:=(i:Int)+1) (by omega) (by omega)];try simp only[bne_self_eq_false,cond_false]
  rfl) (fun k=>by simp[Dn,bU]) hk hK (by omega)]
 rfl
def qc(k:Int)(x:aK):Int×List ByteArray×List ay×List aq:=((aD aQ (aD aO (aD aC k x.Network.Nodes).1 x.Network.Fibers).1 x.Lights).1,(aD aC k x.Network.Nodes).2,(aD aO (aD aC k x.Network.Nodes).1 x.Network.Fibers).2,(aD aQ (aD aO (aD aC k x.Network.Nodes).1 x.Network.Fibers).1 x.Lights).2)
def lm(x:aK):Nat:=(x.Network.Nodes.map w_j).sum+(x.Network.Fibers.map w_c).sum+(x.Lights.map w_p).sum
def mV(k:Int)(x:aK):aK:=⟨⟨(aD aC k x.Network.Nodes).2,(aD aO (aD aC k x.Network.Nodes).1 x.Network.Fibers).2⟩,(aD aQ (aD aO (aD aC k x.Network.Nodes).1 x.Network.Fibers).1 x.Lights).2⟩
theorem yg(x:aK)(k0:Int)(hk:0<=k0)(hK:k0+(lm x:Int)<=1000000000000)(hl:cr x<=1048576):Oc k0 x.Network.Nodes x.Network.Fibers x.Lights=some (qc k0 x):=by
 unfold Oc;unfold lm at hK;have hz:cr x=bC x.Network.Nodes+bQ x.Network.Fibers+bb x.Lights:=by unfold cr aW;omega
 have f0:=bA aC w_j dR x.Network.Nodes k0;have f1:=bA aO w_c eG x.Network.Fibers ((aD aC k0 x.Network.Nodes).1);have f2:=bA aQ w_p eJ x.Lights ((aD aO (aD aC k0 x.Network.Nodes).1 x.Network.Fibers).1);rw[rM x.Network k0 (by omega) (by unfold fN;omega) (by unfold aW;omega)];simp only[Option.bind_some,jQ];rw[mI x.Lights ((aD aO (aD aC k0 x.Network.Nodes).1 x.Network.Fibers).1) (by omega) (by omega) (by omega)];simp only[Option.bind_some];rfl
theorem yc(x:aK)(k0:Int)(hk:0<=k0)(hK:k0+(lm x:Int)<=1000000000000)(hl:cr x<=1048576):Fw (mV k0 x) k0=some (qc k0 x).1:=by
 unfold lm at hK;have hz:cr x=bC x.Network.Nodes+bQ x.Network.Fibers+bb x.Lights:=by unfold cr aW;omega
 have f0:=bA aC w_j dR x.Network.Nodes k0;have f1:=bA aO w_c eG x.Network.Fibers ((aD aC k0 x.Network.Nodes).1);have f2:=bA aQ w_p eJ x.Lights ((aD aO (aD aC k0 x.Network.Nodes).1 x.Network.Fibers).1);have h0:EB (⟨(mV k0 x).Network.Nodes,(mV k0 x).Network.Fibers⟩:af) k0=some (aD aO (aD aC k0 x.Network.Nodes).1 x.Network.Fibers).1:=sf x.Network k0 (by omega) (by unfold fN;omega) (by unfold aW;omega);have n0:decide ((aD aO (aD aC k0 x.Network.Nodes).1 x.Network.Fibers).1<0)=false:=decide_eq_false (by omega);have h1:xf (mV k0 x).Lights ((aD aO (aD aC k0 x.Network.Nodes).1 x.Network.Fibers).1)=some (aD aQ (aD aO (aD aC k0 x.Network.Nodes).1 x.Network.Fibers).1 x.Lights).1:=mS x.Lights ((aD aO (aD aC k0 x.Network.Nodes).1 x.Network.Fibers).1) (by omega) (by omega) (by omega);have n1:decide ((aD aQ (aD aO (aD aC k0 x.Network.Nodes).1 x.Network.Fibers).1 x.Lights).1<0)=false:=decide_eq_false (by omega);unfold Fw;simp only[h0,n0,h1,n1,Option.bind_some,cond_false];rfl
def be(k:Int)(x:aj):Int×List ByteArray×List ay×List aq×List aq×List Int:=((aD bP (aD aQ (aD aQ (aD aO (aD aC k x.Plan.Network.Nodes).1 x.Plan.Network.Fibers).1 x.Plan.Lights).1 x.Home).1 x.Down).1,(aD aC k x.Plan.Network.Nodes).2,(aD aO (aD aC k x.Plan.Network.Nodes).1 x.Plan.Network.Fibers).2,(aD aQ (aD aO (aD aC k x.Plan.Network.Nodes).1 x.Plan.Network.Fibers).1 x.Plan.Lights).2,(aD aQ (aD aQ (aD aO (aD aC k x.Plan.Network.Nodes).1 x.Plan.Network.Fibers).1 x.Plan.Lights).1 x.Home).2,(aD bP (aD aQ (aD aQ (aD aO (aD aC k x.Plan.Network.Nodes).1 x.Plan.Network.Fibers).1 x.Plan.Lights).1 x.Home).1 x.Down).2)
theorem kb(k:Int)(x:aj):(be k x).2.1.length=x.Plan.Network.Nodes.length:=bU aC _ _
theorem kO(k:Int)(x:aj):(be k x).2.2.1.length=x.Plan.Network.Fibers.length:=bU aO _ _
theorem kq(k:Int)(x:aj):(be k x).2.2.2.1.length=x.Plan.Lights.length:=bU aQ _ _
theorem kx(k:Int)(x:aj):(be k x).2.2.2.2.1.length=x.Home.length:=bU aQ _ _
theorem kC(k:Int)(x:aj):(be k x).2.2.2.2.2.length=x.Down.length:=bU bP _ _
def cN(x:aj):Nat:=(x.Plan.Network.Nodes.map w_j).sum+(x.Plan.Network.Fibers.map w_c).sum+(x.Plan.Lights.map w_p).sum+(x.Home.map w_p).sum+(x.Down.map cT).sum
def dt(k:Int)(x:aj):aj:=⟨⟨⟨(aD aC k x.Plan.Network.Nodes).2,(aD aO (aD aC k x.Plan.Network.Nodes).1 x.Plan.Network.Fibers).2⟩,(aD aQ (aD aO (aD aC k x.Plan.Network.Nodes).1 x.Plan.Network.Fibers).1 x.Plan.Lights).2⟩,(aD aQ (aD aQ (aD aO (aD aC k x.Plan.Network.Nodes).1 x.Plan.Network.Fibers).1 x.Plan.Lights).1 x.Home).2,(aD bP (aD aQ (aD aQ (aD aO (aD aC k x.Plan.Network.Nodes).1 x.Plan.Network.Fibers).1 x.Plan.Lights).1 x.Home).1 x.Down).2⟩
theorem gj(k:Int)(x:aj):(be k x).1=k+(cN x:Int):=by
 unfold be cN;simp only[bA aC w_j dR,bA aO w_c eG,bA aQ w_p eJ,bA bP cT ia];try omega
theorem w_ii(x:aj):cN x<=16*aN x:=by
 unfold cN;have hz:aN x=bC x.Plan.Network.Nodes+bQ x.Plan.Network.Fibers+bb x.Plan.Lights+bb x.Home+cq x.Down:=by unfold aN cr aW;omega
 have:=w_ij x.Plan.Network.Nodes;have:=w_ik x.Plan.Network.Fibers;have:=w_ih x.Plan.Lights;have:=w_ih x.Home;have:=Ow x.Down;omega
theorem hZ(x:aj)(k0:Int)(hk:0<=k0)(hK:k0+(cN x:Int)<=1000000000000)(hl:aN x<=1048576):EN k0 x.Plan.Network.Nodes x.Plan.Network.Fibers x.Plan.Lights x.Home x.Down=some (be k0 x):=by
 unfold EN;unfold cN at hK;have hz:aN x=bC x.Plan.Network.Nodes+bQ x.Plan.Network.Fibers+bb x.Plan.Lights+bb x.Home+cq x.Down:=by unfold aN cr aW;omega
 have f0:=bA aC w_j dR x.Plan.Network.Nodes k0;have f1:=bA aO w_c eG x.Plan.Network.Fibers ((aD aC k0 x.Plan.Network.Nodes).1);have f2:=bA aQ w_p eJ x.Plan.Lights ((aD aO (aD aC k0 x.Plan.Network.Nodes).1 x.Plan.Network.Fibers).1);have f3:=bA aQ w_p eJ x.Home ((aD aQ (aD aO (aD aC k0 x.Plan.Network.Nodes).1 x.Plan.Network.Fibers).1 x.Plan.Lights).1);have f4:=bA bP cT ia x.Down ((aD aQ (aD aQ (aD aO (aD aC k0 x.Plan.Network.Nodes).1 x.Plan.Network.Fibers).1 x.Plan.Lights).1 x.Home).1);rw[yg x.Plan k0 (by omega) (by unfold lm;omega) (by unfold cr aW;omega)];simp only[Option.bind_some,qc];rw[mI x.Home ((aD aQ (aD aO (aD aC k0 x.Plan.Network.Nodes).1 x.Plan.Network.Fibers).1 x.Plan.Lights).1) (by omega) (by omega) (by omega)];simp only[Option.bind_some];rw[pT x.Down ((aD aQ (aD aQ (aD aO (aD aC k0 x.Plan.Network.Nodes).1 x.Plan.Network.Fibers).1 x.Plan.Lights).1 x.Home).1) (by omega) (by omega) (by omega)];simp only[Option.bind_some];rfl
theorem ik(x:aj)(k0:Int)(hk:0<=k0)(hK:k0+(cN x:Int)<=1000000000000)(hl:aN x<=1048576):uY (dt k0 x) k0=some (be k0 x).1:=by
 unfold cN at hK;have hz:aN x=bC x.Plan.Network.Nodes+bQ x.Plan.Network.Fibers+bb x.Plan.Lights+bb x.Home+cq x.Down:=by unfold aN cr aW;omega
 have f0:=bA aC w_j dR x.Plan.Network.Nodes k0;have f1:=bA aO w_c eG x.Plan.Network.Fibers ((aD aC k0 x.Plan.Network.Nodes).1);have f2:=bA aQ w_p eJ x.Plan.Lights ((aD aO (aD aC k0 x.Plan.Network.Nodes).1 x.Plan.Network.Fibers).1);have f3:=bA aQ w_p eJ x.Home ((aD aQ (aD aO (aD aC k0 x.Plan.Network.Nodes).1 x.Plan.Network.Fibers).1 x.Plan.Lights).1);have f4:=bA bP cT ia x.Down ((aD aQ (aD aQ (aD aO (aD aC k0 x.Plan.Network.Nodes).1 x.Plan.Network.Fibers).1 x.Plan.Lights).1 x.Home).1);have h0:Fw (⟨(⟨(dt k0 x).Plan.Network.Nodes,(dt k0 x).Plan.Network.Fibers⟩:af),(dt k0 x).Plan.Lights⟩:aK) k0=some (aD aQ (aD aO (aD aC k0 x.Plan.Network.Nodes).1 x.Plan.Network.Fibers).1 x.Plan.Lights).1:=yc x.Plan k0 (by omega) (by unfold lm;omega) (by unfold cr aW;omega);have n0:decide ((aD aQ (aD aO (aD aC k0 x.Plan.Network.Nodes).1 x.Plan.Network.Fibers).1 x.Plan.Lights).1<0)=false:=decide_eq_false (by omega);have h1:xf (dt k0 x).Home ((aD aQ (aD aO (aD aC k0 x.Plan.Network.Nodes).1 x.Plan.Network.Fibers).1 x.Plan.Lights).1)=some (aD aQ (aD aQ (aD aO (aD aC k0 x.Plan.Network.Nodes).1 x.Plan.Network.Fibers).1 x.Plan.Lights).1 x.Home).1:=mS x.Home ((aD aQ (aD aO (aD aC k0 x.Plan.Network.Nodes).1 x.Plan.Network.Fibers).1 x.Plan.Lights).1) (by omega) (by omega) (by omega);have n1:decide ((aD aQ (aD aQ (aD aO (aD aC k0 x.Plan.Network.Nodes).1 x.Plan.Network.Fibers).1 x.Plan.Lights).1 x.Home).1<0)=false:=decide_eq_false (by omega);have h2:uZ (dt k0 x).Down ((aD aQ (aD aQ (aD aO (aD aC k0 x.Plan.Network.Nodes).1 x.Plan.Network.Fibers).1 x.Plan.Lights).1 x.Home).1)=some (aD bP (aD aQ (aD aQ (aD aO (aD aC k0 x.Plan.Network.Nodes).1 x.Plan.Network.Fibers).1 x.Plan.Lights).1 x.Home).1 x.Down).1:=qu x.Down ((aD aQ (aD aQ (aD aO (aD aC k0 x.Plan.Network.Nodes).1 x.Plan.Network.Fibers).1 x.Plan.Lights).1 x.Home).1) (by omega) (by omega) (by omega);have n2:decide ((aD bP (aD aQ (aD aQ (aD aO (aD aC k0 x.Plan.Network.Nodes).1 x.Plan.Network.Fibers).1 x.Plan.Lights).1 x.Home).1 x.Down).1<0)=false:=decide_eq_false (by omega);unfold uY;simp only[h0,n0,h1,n1,h2,n2,Option.bind_some,cond_false];rfl
end Vs

namespace Vs
open Go
def wi(x a b:Int):Bool:=decide (a<=x)&&decide (x<=b)
theorem cg{x a b:Int}:wi x a b=true↔a<=x/\x<=b:=by simp[wi]
theorem pA{x a b:Int}:wi x a b=false↔¬(a<=x/\x<=b):=by rw[<-cg];simp
theorem el(x a b:Int):M_h x a b=some (wi x a b):=by
 unfold M_h wi;by_cases h:a<=x<;>simp[h]
theorem iv(x a b:Int):M_d x a b=some (wi x a b):=by
 unfold M_d wi;by_cases h:a<=x<;>simp[h]
def rF(c:UInt8):Bool:=decide (97<=c.toNat)&&decide (c.toNat<=122)
def vW(c:UInt8):Bool:=decide (48<=c.toNat)&&decide (c.toNat<=57)
def gA(i:Nat)(c:UInt8):Bool:=!rF c&&(!vW c||i==0)
def nU(s:ByteArray):Bool:=!eX gA s.data.toList&&wi s.size 1 8
theorem py(s:ByteArray)(i:Nat):uh s (i:Int)=s.data.toList[i]?:=by
 unfold uh;rw[if_pos (by omega),Int.toNat_natCast];by_cases h:i<s.size
 ·have h2:i<s.data.toList.length:=by simpa using h
  rw[getElem?_pos s i h,List.getElem?_eq_getElem h2];rfl
 ·have h2:¬i<s.data.toList.length:=by simpa using h
  rw[getElem?_neg s i h,List.getElem?_eq_none (Nat.le_of_not_lt h2)]
theorem fK(s:ByteArray):s.size=s.data.toList.length:=by show s.data.size=s.data.toList.length;rw[Array.length_toList]
theorem xW(c:UInt8):rF c=(decide (97<=(c.toNat:Int))&&decide ((c.toNat:Int)<=122)):=by
 unfold rF;congr 1<;>exact decide_eq_decide.2 (by omega)
theorem NC(c:UInt8):vW c=(decide (48<=(c.toNat:Int))&&decide ((c.toNat:Int)<=57)):=by
 unfold vW;congr 1<;>exact decide_eq_decide.2 (by omega)
theorem LY(s:ByteArray)(hl:s.size<=1048576):Hq s=some (nU s):=by
 unfold Hq nU;rw[fK] at*
 rw[ee (f:=Dc s) s.data.toList gA (.inr false) (.inl ()) (fun i c hc _=>by
  have hlt:=(List.getElem?_eq_some_iff.1 hc).1;have h1:decide ((i:Int)<s.size)=true:=decide_eq_true (by rw[fK];omega);simp only[Dc,h1,cond_true,py,hc,Option.bind_some,gA,xW,NC];rw[aF (by omega) (by omega)];have hi:((i:Int)==0)=(i==0):=by rw[Bool.eq_iff_iff];simp
  rw[hi];cases decide (97<=(c.toNat:Int))<;>cases decide ((c.toNat:Int)<=122)<;>cases decide (48<=(c.toNat:Int))<;>cases decide ((c.toNat:Int)<=57)<;>cases(i==0)<;>rfl) (by simp[Dc]) (by omega)]
 rw[<-fK];cases eX gA s.data.toList<;>simp[el]
theorem HB(c:UInt8):MC (c.toNat:Int)=some (rF c||vW c):=by
 unfold MC;simp only[xW,NC];cases decide (97<=(c.toNat:Int))<;>cases decide ((c.toNat:Int)<=122)<;>cases decide (48<=(c.toNat:Int))<;>rfl
theorem fstc(c:UInt8):(cond (decide ((c.toNat:Int)<97)) (some true) (some (decide (122<(c.toNat:Int)))):Option Bool)=some (!rF c):=by
 rw[xW];by_cases h1:(c.toNat:Int)<97
 ·have h2:¬97<=(c.toNat:Int):=by omega
  simp[h1,h2]
 ·have h2:97<=(c.toNat:Int):=by omega
  simp only[h1,decide_false,cond_false,h2,decide_true,Bool.true_and];by_cases h3:122<(c.toNat:Int)
  ·have h4:¬(c.toNat:Int)<=122:=by omega
   simp[h3,h4]
  ·have h4:(c.toNat:Int)<=122:=by omega
   simp[h3,h4]
theorem HH(s:ByteArray)(hl:s.size<=1048576):Jm s=some (nU s):=by
 unfold Jm nU;simp only[iv,Option.bind_some];rcases bt (wi s.size 1 8) with hw|hw
 ·simp only[hw,Bool.not_true,cond_false,Bool.and_true];have hs:0<s.data.toList.length:=by rw[<-fK];have:=(cg.1 hw).1;omega
  have h0:s.data.toList[0]?=some s.data.toList[0]:=List.getElem?_eq_getElem hs;have g0:uh s 0=some s.data.toList[0]:=by rw[<-h0];exact py s 0
  simp only[g0,Option.bind_some];have key:=ee (f:=M_a s) s.data.toList (fun _ c=>!(rF c||vW c)) (.inr false) (.inl ()) (fun i c hc _=>by
   have hlt:=(List.getElem?_eq_some_iff.1 hc).1;have h1:decide ((i:Int)<s.size)=true:=decide_eq_true (by rw[fK];omega);rw[fK] at hl;simp only[M_a,h1,cond_true,py,hc,Option.bind_some,HB];rw[aF (by omega) (by omega)];cases rF c<;>cases vW c<;>rfl) (by simp[M_a]) (by rw[fK] at hl;omega)
  rw[fstc];simp only[Option.bind_some,key];rcases bt (rF s.data.toList[0]) with hL|hL
  ·simp only[hL,Bool.not_true,cond_false];have e:eX (fun _ c=>!(rF c||vW c)) s.data.toList=eX gA s.data.toList:=by
    refine xw fun i c hc _=>?_;unfold gA;by_cases hi:i=0
    ·subst hi;rw[h0] at hc;cases hc;rw[hL];rfl
    ·have:(i==0)=false:=by simpa using hi
     rw[this];cases rF c<;>cases vW c<;>rfl
   rw[e];cases eX gA s.data.toList<;>rfl
  ·have:eX gA s.data.toList=true:=gR.2 ⟨0,_,h0,by unfold gA;rw[hL];simp⟩;simp only[hL,this,Bool.not_false,cond_true,Bool.not_true]
 ·simp[hw]
def UP(v:ByteArray)(xs:List ByteArray):Option (Nat×ByteArray):=cM (fun _ x=>x.toList==v.toList) xs
def RG(v:ByteArray)(xs:List ByteArray):Int:=match UP v xs with|some q=>(q.1:Int)|none=>-1
theorem HN(xs:List ByteArray)(v:ByteArray)(hl:xs.length<=1048576):Jt xs v=some (RG v xs):=by
 unfold Jt RG;rw[cz (f:=ER xs v) xs (fun _ x=>x.toList==v.toList) (fun i _=>(i:Int)) () (fun i x hx _=>by
  have hlt:=(List.getElem?_eq_some_iff.1 hx).1;have h1:decide ((i:Int)<xs.length)=true:=by simp[hlt]
  simp only[ER,h1,cond_true,aU,hx,Option.bind_some];rw[aF (by omega) (by omega)];cases x.toList==v.toList<;>rfl) (by simp[ER]) (by omega)]
 unfold UP;cases cM (fun _ x=>x.toList==v.toList) xs<;>rfl
theorem tG(xs:List ByteArray)(v:ByteArray)(hl:xs.length<=1048576):Mj xs v=some (xs.any fun x=>x.toList==v.toList):=by
 unfold Mj RU;rw[cz (f:=Dk xs v) xs (fun _ x=>x.toList==v.toList) (fun i _=>(i:Int)) () (fun i x hx _=>by
  have hlt:=(List.getElem?_eq_some_iff.1 hx).1;have h1:decide ((i:Int)<xs.length)=true:=by simp[hlt]
  simp only[Dk,h1,cond_true,aU,hx,Option.bind_some];rw[aF (by omega) (by omega),show(v.toList==x.toList)=(x.toList==v.toList) from Bool.beq_comm ..];cases x.toList==v.toList<;>rfl) (by simp[Dk]) (by omega)]
 cases e:cM (fun _ x=>x.toList==v.toList) xs with
 | none =>
   have:=eZ.1 e;have h:(xs.any fun x=>x.toList==v.toList)=false:=by
    rw[<-rq (fun x:ByteArray=>x.toList==v.toList),cR];exact this
   rw[h];rfl
 | some q =>
   obtain⟨i,x⟩:=q;obtain⟨h1,h2,_⟩:=db.1 e;have h:(xs.any fun x=>x.toList==v.toList)=true:=List.any_eq_true.2 ⟨x,List.mem_of_getElem? h1,h2⟩;rw[h];simp
def dB(x y:Int):Int:=if x<y then -1 else if y<x then 1 else 0
theorem JJ(x y:Int):M_u x y=some (dB x y):=by
 unfold M_u wI dB;by_cases h:x<y
 ·simp[h]
 ·by_cases h2:y<x<;>simp[h,h2]
def yY(f g:ay):Int:=if f.A≠g.A then dB f.A g.A else if f.B≠g.B then dB f.B g.B else if f.Length≠g.Length then dB f.Length g.Length else dB f.Risk g.Risk
theorem cB{x y:Int}:dB x y=0↔x=y:=by
 unfold dB;split
 ·simp;omega
 ·split
  ·simp;omega
  ·simp;omega
theorem oK(f g:ay):LD f g=some (yY f g):=by
 unfold LD;simp only[JJ,Option.bind_some,bnd];unfold xY;have key:=cz (f:=M_q [dB f.A g.A,dB f.B g.B,dB f.Length g.Length,dB f.Risk g.Risk]) [dB f.A g.A,dB f.B g.B,dB f.Length g.Length,dB f.Risk g.Risk] (fun _ x=>x !=0) (fun _ x=>x) () (fun i x hx _=>by
  have hlt:=(List.getElem?_eq_some_iff.1 hx).1;have h1:decide ((i:Int)<([dB f.A g.A,dB f.B g.B,dB f.Length g.Length,dB f.Risk g.Risk].length:Nat))=true:=decide_eq_true (by omega);simp only[List.length_cons,List.length_nil] at hlt;simp only[M_q,h1,cond_true,aU,hx,Option.bind_some];rw[aF (by omega) (by omega)];cases x !=0<;>rfl) (by simp[M_q]) (by simp)
 rw[key];unfold yY cM;simp only[List.zipIdx_cons,List.zipIdx_nil,List.find?_cons,List.find?_nil];by_cases h1:f.A=g.A
 ·rw[cB.2 h1];by_cases h2:f.B=g.B
  ·rw[cB.2 h2];by_cases h3:f.Length=g.Length
   ·rw[cB.2 h3];by_cases h4:f.Risk=g.Risk
    ·simp[h1,h2,h3,h4,cB.2]
    ·have:(dB f.Risk g.Risk !=0)=true:=bne_iff_ne.2 fun e=>h4 (cB.1 e);simp[h1,h2,h3,this]
   ·have:(dB f.Length g.Length !=0)=true:=bne_iff_ne.2 fun e=>h3 (cB.1 e);simp[h1,h2,h3,this]
  ·have:(dB f.B g.B !=0)=true:=bne_iff_ne.2 fun e=>h2 (cB.1 e);simp[h1,h2,this]
 ·have:(dB f.A g.A !=0)=true:=bne_iff_ne.2 fun e=>h1 (cB.1 e);simp[h1,this]
end Vs

namespace Vs
open Go
theorem Au{α:Type}(xs:List α)(i:Nat)(h:i<=xs.length):slT xs (i:Int)=some (xs.take i):=by
 unfold slT;rw[if_pos ⟨by omega,by simpa using h⟩];simp
theorem px{n:af}(h:aW n<=1048576):n.Nodes.length<=1048576/\n.Fibers.length<=1048576/\∀x∈n.Nodes,x.size<=1048576:=by
 unfold aW bC bQ at h;refine⟨by omega,by omega,fun x hx=>?_⟩;obtain⟨i,hi,rfl⟩:=List.getElem_of_mem hx;have:n.Nodes[i].size<=(n.Nodes.map fun x:ByteArray=>x.size).sum:=my (fun x:ByteArray=>x.size) (xs:=n.Nodes) (i:=i) (x:=n.Nodes[i]) (by simp[hi]);omega
def ic(n:af)(i:Nat)(x:ByteArray):Bool:=!nU x||(n.Nodes.take i).any fun y=>y.toList==x.toList
def zT(m:Nat)(f:ay):Bool:=decide (f.A<0)||decide (f.B<=f.A)||decide ((m:Int)<=f.B)||!wi f.Length 1 5000||!wi f.Risk 0 9
def iw(n:af)(i:Nat)(f:ay):Bool:=zT n.Nodes.length f||(decide (0<i)&&match n.Fibers[i-1]? with|some g=>decide (0<yY g f)|none=>false)
def bR(n:af):Bool:=!eX (ic n) n.Nodes&&!eX (iw n) n.Fibers&&wi n.Nodes.length 2 8&&decide (n.Fibers.length<=14)
theorem iA(n:af)(hz:aW n<=1048576):Fa n=some (bR n):=by
 obtain⟨h1,h2,h3⟩:=px hz;unfold Fa bR;rw[ee (f:=Cr n) n.Nodes (ic n) (.inr false) (.inl ()) (fun i x hx _=>by
  have hlt:=(List.getElem?_eq_some_iff.1 hx).1;have e1:decide ((i:Int)<n.Nodes.length)=true:=by simp[hlt]
  simp only[Cr,e1,cond_true,aU,hx,Option.bind_some,LY x (h3 x (List.mem_of_getElem? hx)),Au n.Nodes i (Nat.le_of_lt hlt),tG (n.Nodes.take i) x (by simp;omega),ic];rw[aF (by omega) (by omega)];rcases bt (nU x) with e|e<;>rcases bt ((n.Nodes.take i).any (fun y=>y.toList==x.toList)) with e'|e'<;>simp only[e,e']<;>rfl) (by simp[Cr]) (by omega)]
 rcases bt (eX (ic n) n.Nodes) with hN|hN
 ·simp[hN]
 ·simp only[hN,Bool.false_eq_true,if_false,Option.bind_some,Bool.not_false,Bool.true_and];rw[ee (f:=FR n) n.Fibers (iw n) (.inr false) (.inl ()) (fun i x hx _=>by
   have hlt:=(List.getElem?_eq_some_iff.1 hx).1;have e1:decide ((i:Int)<n.Fibers.length)=true:=by simp[hlt]
   simp only[FR,e1,cond_true,aU,hx,Option.bind_some,el];rw[aF (n:=(i:Int)+1) (by omega) (by omega)];unfold iw zT;cases decide (x.A<0)
   ·cases decide (x.B<=x.A)
    ·cases decide ((n.Nodes.length:Int)<=x.B)
     ·cases wi x.Length 1 5000
      ·rfl
      ·cases wi x.Risk 0 9
       ·rfl
       ·by_cases hi:0<i
        ·have hi':decide ((0:Int)<(i:Int))=true:=by simp[hi]
         have hp:n.Fibers[i-1]?=some n.Fibers[i-1]:=List.getElem?_eq_getElem (by omega);have hw:IntKind.wrap .i64 ((i:Int)-1)=((i-1:Nat):Int):=by rw[aF (by omega) (by omega)];omega
         simp only[hi',cond_true,cond_false,Bool.not_true,hw,aU,hp,Option.bind_some,oK,hi,decide_true,Bool.true_and,Bool.false_or];cases decide (0<yY n.Fibers[i-1] x)<;>rfl
        ·have hi':decide ((0:Int)<(i:Int))=false:=by simp;omega
         simp[hi',hi]
     ·rfl
    ·rfl
   ·rfl) (by simp[FR]) (by omega)]
  rcases bt (eX (iw n) n.Fibers) with hF|hF
  ·simp[hF]
  ·simp only[hF,Bool.false_eq_true,if_false,Option.bind_some,Bool.not_false,Bool.true_and,el];have e:decide ((n.Fibers.length:Int)<=14)=decide (n.Fibers.length<=14):=decide_eq_decide.2 (by omega);rw[e];cases wi n.Nodes.length 2 8<;>rfl
theorem KW(n:af)(i:Nat)(x:ByteArray)(hx:n.Nodes[i]?=some x):
 (RG x n.Nodes !=(i:Int))=(n.Nodes.take i).any fun y=>y.toList==x.toList:=by
 unfold RG;cases e:UP x n.Nodes with
 | none =>
   have:=eZ.1 e i x hx;simp at this
 | some q =>
   obtain⟨j,y⟩:=q;obtain⟨h1,h2,h3⟩:=db.1 e;simp only;by_cases hj:j=i
   ·subst hj;have:((n.Nodes.take j).any fun y=>y.toList==x.toList)=false:=by
     rw[List.any_eq_false];intro z hz;obtain⟨k,hk,rfl⟩:=List.getElem_of_mem hz;simp only[List.length_take] at hk;have:=h3 k (n.Nodes.take j)[k] (by omega) (by rw[List.getElem_take];exact List.getElem?_eq_getElem (by omega));rw[this];simp
    rw[this];simp
   ·have hji:j<i:=by
     rcases Nat.lt_trichotomy j i with h|h|h
     ·exact h
     ·exact(hj h).elim
     ·have:=h3 i x h hx;simp at this
    have:((n.Nodes.take i).any fun y=>y.toList==x.toList)=true:=List.any_eq_true.2 ⟨y,by
     have:(n.Nodes.take i)[j]?=some y:=by rw[List.getElem?_take,if_pos hji];exact h1
     exact List.mem_of_getElem? this,h2⟩
    rw[this];simp;omega
theorem Et(f:ay)(m:Nat)(hm:m<=8)(hm2:2<=m):HC f (m:Int)=some (!zT m f):=by
 unfold HC zT;simp only[iv,Option.bind_some];rw[aF (n:=(m:Int)-1) (by omega) (by omega)];rcases bt (wi f.A 0 ((m:Int)-1)) with h1|h1
 ·have h2:=cg.1 h1;rw[aF (n:=f.A+1) (by omega) (by omega)];rcases bt (wi f.B (f.A+1) ((m:Int)-1)) with h3|h3
  ·have h4:=cg.1 h3;have a1:decide (f.A<0)=false:=by simp;omega
   have a2:decide (f.B<=f.A)=false:=by simp;omega
   have a3:decide ((m:Int)<=f.B)=false:=by simp;omega
   simp only[h1,h3,a1,a2,a3,cond_true,Bool.false_or];cases wi f.Length 1 5000<;>cases wi f.Risk 0 9<;>rfl
  ·have h4:=pA.1 h3;simp only[h1,h3,cond_true,cond_false];by_cases a2:f.B<=f.A
   ·simp[a2]
   ·have a3:(m:Int)<=f.B:=by omega
    simp[a3]
 ·have h2:=pA.1 h1;simp only[h1,cond_false];by_cases a1:f.A<0
  ·simp[a1]
  ·by_cases a2:f.B<=f.A
   ·simp[a2]
   ·have a3:(m:Int)<=f.B:=by omega
    simp[a3]
structure wF(m:Int)(f:ay):Prop where
 a0:0<=f.A
 ab:f.A<f.B
 bm:f.B<m
 l1:1<=f.Length
 l2:f.Length<=5000
 r0:0<=f.Risk
 r9:f.Risk<=9
theorem oS{m:Nat}{f:ay}(h:zT m f=false):wF m f:=by
 unfold zT at h;simp only[Bool.or_eq_false_iff,decide_eq_false_iff_not,Bool.not_eq_false',cg] at h;obtain⟨⟨⟨⟨h1,h2⟩,h3⟩,h4,h5⟩,h6,h7⟩:=h;exact⟨by omega,by omega,by omega,h4,h5,h6,h7⟩
theorem Mn(f g:ay)(m:Nat)(hm:m<=8)(hf:wF m f)(hg:wF m g):∃r,NR f g=some r/\decide (0<r)=decide (0<yY f g):=by
 obtain⟨a1,a2,a3,a4,a5,a6,a7⟩:=hf;obtain⟨b1,b2,b3,b4,b5,b6,b7⟩:=hg;have sgn:∀x y:Int,decide (0<x-y)=decide (0<dB x y):=by
  intro x y;unfold dB;by_cases h:x<y
  ·rw[if_pos h];exact decide_eq_decide.2 (by omega)
  ·rw[if_neg h];by_cases h2:y<x
   ·rw[if_pos h2];exact decide_eq_decide.2 (by omega)
   ·rw[if_neg h2];exact decide_eq_decide.2 (by omega)
 unfold NR yY;rw[aF (n:=f.A-g.A) (by omega) (by omega),aF (n:=f.B-g.B) (by omega) (by omega),aF (n:=f.Length-g.Length) (by omega) (by omega),aF (n:=f.Risk-g.Risk) (by omega) (by omega)];by_cases h1:f.A=g.A
 ·have e1:(f.A !=g.A)=false:=by rw[h1];simp
  by_cases h2:f.B=g.B
  ·have e2:(f.B !=g.B)=false:=by rw[h2];simp
   by_cases h3:f.Length=g.Length
   ·have e3:(f.Length !=g.Length)=false:=by rw[h3];simp
    exact⟨f.Risk-g.Risk,by simp only[e1,e2,e3,cond_false],by simp only[h1,h2,h3,ne_eq,not_true,if_false];exact sgn _ _⟩
   ·have e3:(f.Length !=g.Length)=true:=bne_iff_ne.2 h3;exact⟨f.Length-g.Length,by simp only[e1,e2,e3,cond_false,cond_true],by simp only[h1,h2,h3,ne_eq,not_true,not_false_eq_true,if_false,if_true];exact sgn _ _⟩
  ·have e2:(f.B !=g.B)=true:=bne_iff_ne.2 h2;exact⟨f.B-g.B,by simp only[e1,e2,cond_false,cond_true],by simp only[h1,h2,ne_eq,not_true,not_false_eq_true,if_false,if_true];exact sgn _ _⟩
 ·have e1:(f.A !=g.A)=true:=bne_iff_ne.2 h1;exact⟨f.A-g.A,by simp only[e1,cond_true],by simp only[h1,ne_eq,not_false_eq_true,if_true];exact sgn _ _⟩
theorem qx(n:af)(hz:aW n<=1048576):Aa n=some (bR n):=by
 obtain⟨z1,z2,z3⟩:=px hz;unfold Aa bR;simp only[iv,Option.bind_some];rcases bt (wi n.Nodes.length 2 8) with hw|hw
 ·have hw2:=cg.1 hw;have e:decide (14<(n.Fibers.length:Int))=!decide (n.Fibers.length<=14):=by
   rw[<-decide_not];exact decide_eq_decide.2 (by omega)
  simp only[hw,e,Bool.not_true,cond_false,Option.bind_some,Bool.and_true];rcases bt (decide (n.Fibers.length<=14)) with h14|h14
  ·simp only[h14,Bool.not_true,cond_false,Bool.and_true];rw[ee (f:=M_g n) n.Nodes (ic n) (.inr false) (.inl ()) (fun i x hx _=>by
    have hlt:=(List.getElem?_eq_some_iff.1 hx).1;have e1:decide ((i:Int)<n.Nodes.length)=true:=by simp[hlt]
    simp only[M_g,e1,cond_true,aU,hx,Option.bind_some,HH x (z3 x (List.mem_of_getElem? hx)),HN n.Nodes x z1,KW n i x hx,ic];rw[aF (by omega) (by omega)];rcases bt (nU x) with e|e<;>rcases bt ((n.Nodes.take i).any (fun y=>y.toList==x.toList)) with e'|e'<;>simp only[e,e']<;>rfl) (by simp[M_g]) (by omega)]
   rcases bt (eX (ic n) n.Nodes) with hN|hN
   ·simp[hN]
   ·simp only[hN,Bool.false_eq_true,if_false,Option.bind_some,Bool.not_false,Bool.true_and];rw[ee (f:=Cl n) n.Fibers (iw n) (.inr false) (.inl ()) (fun i x hx hprev=>by
     have hlt:=(List.getElem?_eq_some_iff.1 hx).1;have e1:decide ((i:Int)<n.Fibers.length)=true:=by simp[hlt]
     simp only[Cl,e1,cond_true,aU,hx,Option.bind_some,Et x n.Nodes.length (by omega) (by omega),Bool.not_not];rw[aF (n:=(i:Int)+1) (by omega) (by omega)];unfold iw;rcases bt (zT n.Nodes.length x) with h1|h1
     ·simp[h1]
     ·simp only[h1,cond_false,Bool.false_or];by_cases hi:0<i
      ·have hi':decide ((0:Int)<(i:Int))=true:=by simp[hi]
       have hp:n.Fibers[i-1]?=some n.Fibers[i-1]:=List.getElem?_eq_getElem (by omega);have hw:IntKind.wrap .i64 ((i:Int)-1)=((i-1:Nat):Int):=by rw[aF (by omega) (by omega)];omega
       have hb:=hprev (i-1) n.Fibers[i-1] (by omega) hp;unfold iw at hb;simp only[Bool.or_eq_false_iff] at hb;obtain⟨r,r1,r2⟩:=Mn n.Fibers[i-1] x n.Nodes.length (by omega) (oS hb.1) (oS h1);simp only[hi',cond_true,hw,aU,hp,Option.bind_some,r1,r2,hi,decide_true,Bool.true_and];cases decide (0<yY n.Fibers[i-1] x)<;>rfl
      ·have hi':decide ((0:Int)<(i:Int))=false:=by simp;omega
       simp[hi',hi]) (by simp[Cl]) (by omega)]
    cases eX (iw n) n.Fibers<;>rfl
  ·simp[h14]
 ·simp[hw]
end Vs

namespace Vs
open Go
theorem gv{n:af}(h:bR n=true):2<=n.Nodes.length/\n.Nodes.length<=8/\n.Fibers.length<=14:=by
 unfold bR at h;simp only[Bool.and_eq_true,decide_eq_true_eq,cg] at h;omega
theorem DN{n:af}(h:bR n=true){i:Nat}{f:ay}(hf:n.Fibers[i]?=some f):wF n.Nodes.length f:=by
 unfold bR at h;simp only[Bool.and_eq_true,Bool.not_eq_true'] at h;have:=cR.1 h.1.1.2 i f hf;unfold iw at this;simp only[Bool.or_eq_false_iff] at this;exact oS this.1
end Vs

namespace Vs
open Go
theorem vE{n:af}(h:bR n=true):∀f∈n.Fibers,f.A<n.Nodes.length/\f.B<n.Nodes.length:=by
 intro f hf;obtain⟨i,hi⟩:=List.getElem?_of_mem hf;obtain⟨h1,h2,h3⟩:=DN h hi;omega
def fibI(n:af)(e:Int):Prop:=0<=e/\e<(n.Fibers.length:Int)
end Vs

namespace Vs
open Go
def jm(f:ay)(v:Int):Int:=if v=f.A then f.B else if v=f.B then f.A else -1
def cD(n:af)(e v:Int):Int:=match n.Fibers[e.toNat]? with|some f=>jm f v|none=>-1
end Vs

namespace Vs
open Go
theorem oY(l:List Int)(x:Int)(hl:l.length<=1048576):uI l x=some (l.any fun y=>y==x):=by
 unfold uI;rw[kD (f:=FM l x) l (fun y=>y==x) (.inr true) (.inl ()) (fun i y hy=>by
  have hlt:=(List.getElem?_eq_some_iff.1 hy).1;have h1:decide ((i:Int)<l.length)=true:=by simp[hlt]
  simp only[FM,h1,cond_true,aU,hy,Option.bind_some];rw[aF (by omega) (by omega)];cases y==x<;>rfl) (by simp[FM]) (by omega)]
 cases l.any fun y=>y==x<;>rfl
theorem qU{n:af}{e:Int}(h:wi e 0 ((n.Fibers.length:Int)-1)=true):∃f,bS n.Fibers e=some f/\n.Fibers[e.toNat]?=some f:=by
 rw[cg] at h;have hlt:e.toNat<n.Fibers.length:=by omega
 refine⟨n.Fibers[e.toNat],?_,List.getElem?_eq_getElem hlt⟩;have h3:=aU n.Fibers e.toNat;rw[Int.toNat_of_nonneg h.1] at h3;rw[h3];exact List.getElem?_eq_getElem hlt
theorem sG(n:af)(e v:Int)(h:wi e 0 ((n.Fibers.length:Int)-1)=true):zn n e v=some (cD n e v):=by
 obtain⟨f,h1,h2⟩:=qU h;unfold zn cD jm;rw[h1,h2];simp only[Option.bind_some];by_cases a:v=f.A
 ·rw[show(v==f.A)=true from by simpa using a,cond_true,if_pos a]
 ·rw[show(v==f.A)=false from by simpa using a,cond_false,if_neg a];by_cases b:v=f.B
  ·rw[show(v==f.B)=true from by simpa using b,cond_true,if_pos b]
  ·rw[show(v==f.B)=false from by simpa using b,cond_false,if_neg b]
end Vs

namespace Vs
open Go
theorem uz(xs:List Int)(v:Int)(hl:xs.length<=1048576):zk xs v=some (decide (v∈xs)):=by
 unfold zk Rq;rw[cz (f:=Ch xs v) xs (fun _ x=>v==x) (fun i _=>(i:Int)) () (fun i x hx _=>by
  have hlt:=(List.getElem?_eq_some_iff.1 hx).1;have h1:decide ((i:Int)<xs.length)=true:=by simp[hlt]
  simp only[Ch,h1,cond_true,aU,hx,Option.bind_some];rw[aF (by omega) (by omega)];cases v==x<;>rfl) (by simp[Ch]) (by omega)]
 cases e:cM (fun _ x=>v==x) xs with
 | none =>
   have:=eZ.1 e;have h:¬v∈xs:=fun hm=>by
    obtain⟨i,hi⟩:=List.getElem?_of_mem hm;have:=this i v hi;simp at this
   rw[decide_eq_false h];rfl
 | some q =>
   obtain⟨i,x⟩:=q;obtain⟨h1,h2,_⟩:=db.1 e;have h:v∈xs:=by
    have:=eq_of_beq h2;rw[this];exact List.mem_of_getElem? h1
   rw[decide_eq_true h];simp
theorem pK(f:ay)(v:Int):yK f v=some (jm f v):=by
 unfold yK jm;by_cases a:v=f.A
 ·rw[show(v==f.A)=true from by simpa using a,cond_true,if_pos a]
 ·rw[show(v==f.A)=false from by simpa using a,cond_false,if_neg a];by_cases b:v=f.B
  ·rw[show(v==f.B)=true from by simpa using b,cond_true,if_pos b]
  ·rw[show(v==f.B)=false from by simpa using b,cond_false,if_neg b]
theorem ug(l:List Int)(e:Int):decide (e∈l)=l.any fun x=>x==e:=by
 rw[Bool.eq_iff_iff,decide_eq_true_iff,List.any_eq_true];constructor
 ·intro h;exact⟨e,h,by simp⟩
 ·rintro⟨x,hx,he⟩;rw[<-eq_of_beq he];exact hx
end Vs

namespace Vs
open Go
theorem nN{α A B C:Type}(s1:Nat->α->A->A⊕B)(s2:Nat->α->A->A⊕C)(f1:A->B)(f2:A->C)(R:B->C->Prop)(h:∀i x a,(∃a',s1 i x a=.inl a'/\s2 i x a=.inl a')\/∃b c,s1 i x a=.inr b/\s2 i x a=.inr c/\R b c)(hf:∀a,R (f1 a) (f2 a)):
 ∀(xs:List α)(i:Nat)(a:A),R (cm s1 f1 i xs a) (cm s2 f2 i xs a)
 |[],_,a=>hf a
 | x :: xs, i, a => by
   simp only[cm];rcases h i x a with⟨a',h1,h2⟩|⟨b,c,h1,h2,h3⟩
   ·rw[h1,h2];exact nN s1 s2 f1 f2 R h hf xs (i+1) a'
   ·rw[h1,h2];exact h3
def pZ(n:af)(e:Int)(a:Int×List Int):Bool:=!wi e 0 ((n.Fibers.length:Int)-1)||decide (cD n e a.1<0)||decide (cD n e a.1∈a.2)
def ne(n:af)(_:Nat)(e:Int)(a:Int×List Int):(Int×List Int)⊕Option (List Int):=if pZ n e a then .inr none else .inl (cD n e a.1,a.2++[cD n e a.1])
def ix(n:af)(r:ar):Option (List Int):=if !wi r.Start 0 ((n.Nodes.length:Int)-1)||decide (r.Fibers.length=0) then none else cm (ne n) (fun a=>some a.2) 0 r.Fibers (r.Start,[r.Start])
def IZ(n:af)(_:Nat)(e:Int)(a:Int×List Int):(Int×List Int)⊕((List Int)⊕(List Int×Bool)):=if pZ n e a then .inr (.inr ([],false)) else .inl (cD n e a.1,a.2++[cD n e a.1])
def Jk(n:af)(_:Nat)(e:Int)(a:Int×List Int):(Int×List Int)⊕((List Int)⊕(List Int×Bool)):=if pZ n e a then .inr (.inr (a.2,false)) else .inl (cD n e a.1,a.2++[cD n e a.1])
theorem len0(l:List Int):((l.length:Int)==0)=decide (l.length=0):=by
 rw[Bool.eq_iff_iff];simp
theorem sO(n:af)(r:ar)(hN:n.Nodes.length<=1048576)(hF:n.Fibers.length<=1048576)(hr:r.Fibers.length<=1048576):Cg n r=some (match ix n r with|some l=>(l,true)|none=>([],false)):=by
 unfold Cg ix;simp only[el,Option.bind_some,len0];rw[aF (n:=(n.Nodes.length:Int)-1) (by omega) (by omega)];have hc:(cond (!wi r.Start 0 ((n.Nodes.length:Int)-1)) (some true) (some (decide (r.Fibers.length=0))):Option Bool)=some (!wi r.Start 0 ((n.Nodes.length:Int)-1)||decide (r.Fibers.length=0)):=by
  cases wi r.Start 0 ((n.Nodes.length:Int)-1)<;>rfl
 rw[hc];simp only[Option.bind_some];rcases bt (!wi r.Start 0 ((n.Nodes.length:Int)-1)||decide (r.Fibers.length=0)) with e|e
 ·rw[e];rfl
 rw[e];simp only[cond_false,bnd,Bool.false_eq_true,if_false];have key:=ef (f:=Fq n r) r.Fibers (fun i(a:Int×List Int)=>(a.1,(i:Int),a.2)) (IZ n) (fun a=>.inl a.2) (fun i a=>a.2.length=i+1) (fun i a x hx hI=>by
  have hlt:=(List.getElem?_eq_some_iff.1 hx).1;have h1:decide ((i:Int)<r.Fibers.length)=true:=by simp[hlt]
  simp only[Fq,h1,cond_true,aU,hx,Option.bind_some,el];rw[aF (n:=(n.Fibers.length:Int)-1) (by omega) (by omega),aF (n:=(i:Int)+1) (by omega) (by omega)];unfold IZ pZ;rcases bt (wi x 0 ((n.Fibers.length:Int)-1)) with e1|e1
  ·obtain⟨f,f1,f2⟩:=qU e1;have ho:cD n x a.1=jm f a.1:=by unfold cD;rw[f2]
   simp only[e1,Bool.not_true,cond_false,f1,Option.bind_some,pK,<-ho,uz a.2 (cD n x a.1) (by omega),Bool.false_or];by_cases h3:cD n x a.1<0
   ·exact .inr ⟨_,by simp[h3];rfl,by simp[h3]⟩
   ·by_cases h4:cD n x a.1∈a.2
    ·exact .inr ⟨_,by simp[h4];rfl,by simp[h3,h4]⟩
    ·refine .inl ⟨(cD n x a.1,a.2++[cD n x a.1]),by simp[h3,h4],by simp[hI],?_⟩;simp only[decide_eq_false h3,decide_eq_false h4,cond_false,Option.bind_some,bnd];rw[bu (by omega)];rfl
  ·exact .inr ⟨_,by simp[e1];rfl,by simp[e1]⟩) (fun a _=>by simp[Fq]) (r.Start,[r.Start]) rfl (by omega)
 have e0:((0:Nat):Int)=0:=rfl;simp only[e0] at key;rw[key];have:=nN (ne n) (IZ n) (fun a=>some a.2) (fun a=>(.inl a.2:(List Int)⊕(List Int×Bool))) (fun b c=>match b with|some l=>c=.inl l|none=>c=.inr ([],false)) (fun i x a=>by
  unfold ne IZ;cases pZ n x a
  ·exact .inl ⟨_,rfl,rfl⟩
  ·exact .inr ⟨_,_,rfl,rfl,rfl⟩) (fun a=>rfl) r.Fibers 0 (r.Start,[r.Start])
 revert this
 generalize cm (IZ n) (fun a=>(.inl a.2:(List Int)⊕(List Int×Bool))) 0 r.Fibers (r.Start,[r.Start])=c;cases cm (ne n) (fun a=>some a.2) 0 r.Fibers (r.Start,[r.Start]) with
 |none=>intro h;rw[h];rfl
 |some l=>intro h;rw[h];rfl
theorem vN(n:af)(r:ar)(hN:n.Nodes.length<=1048576)(hF:n.Fibers.length<=1048576)(hr:r.Fibers.length<=1048576):∃o,Ca n r=some (o,(ix n r).isSome)/\∀l,ix n r=some l->o=l:=by
 unfold Ca ix;simp only[iv,Option.bind_some,len0,bnd];rw[aF (n:=(n.Nodes.length:Int)-1) (by omega) (by omega)];have hc:(cond (!wi r.Start 0 ((n.Nodes.length:Int)-1)) (some true) (some (decide (r.Fibers.length=0))):Option Bool)=some (!wi r.Start 0 ((n.Nodes.length:Int)-1)||decide (r.Fibers.length=0)):=by
  cases wi r.Start 0 ((n.Nodes.length:Int)-1)<;>rfl
 rw[hc];simp only[Option.bind_some];rcases bt (!wi r.Start 0 ((n.Nodes.length:Int)-1)||decide (r.Fibers.length=0)) with e|e
 ·rw[e];exact⟨[r.Start],rfl,fun l h=>by simp at h⟩
 rw[e];simp only[cond_false,Bool.false_eq_true,if_false];have key:=ef (f:=M_k n r) r.Fibers (fun i(a:Int×List Int)=>((i:Int),a.2)) (Jk n) (fun a=>.inl a.2) (fun i a=>a.2.length=i+1/\a.2[i]?=some a.1) (fun i a x hx hI=>by
  have hlt:=(List.getElem?_eq_some_iff.1 hx).1;have h1:decide ((i:Int)<r.Fibers.length)=true:=by simp[hlt]
  simp only[M_k,h1,cond_true,aU,hx,Option.bind_some,iv];have hl1:IntKind.wrap .i64 ((a.2.length:Int)-1)=(i:Int):=by rw[aF (by omega) (by omega)];omega
  rw[aF (n:=(n.Fibers.length:Int)-1) (by omega) (by omega),aF (n:=(i:Int)+1) (by omega) (by omega),hl1];unfold Jk pZ;rcases bt (wi x 0 ((n.Fibers.length:Int)-1)) with e1|e1
  ·simp only[e1,Bool.not_true,cond_false,Option.bind_some,Bool.false_or,Int.toNat_natCast,hI.2];rw[bu (by omega)];simp only[Option.bind_some,sG n x a.1 e1,oY a.2 (cD n x a.1) (by omega)];have hm:(a.2.any fun y=>y==cD n x a.1)=decide (cD n x a.1∈a.2):=by
    rw[Bool.eq_iff_iff];simp
   rw[hm];by_cases h3:cD n x a.1<0
   ·exact .inr ⟨_,by simp[h3];rfl,by simp[h3]⟩
   ·by_cases h4:cD n x a.1∈a.2
    ·exact .inr ⟨_,by simp[h4];rfl,by simp[h3,h4]⟩
    ·refine .inl ⟨(cD n x a.1,a.2++[cD n x a.1]),by simp[h3,h4],⟨by simp[hI.1],by rw[<-hI.1];simp⟩,?_⟩;simp only[decide_eq_false h3,decide_eq_false h4,cond_false,Option.bind_some];rw[bu (by omega)];rfl
  ·exact .inr ⟨_,by simp[e1];rfl,by simp[e1]⟩) (fun a _=>by simp[M_k]) (r.Start,[r.Start]) ⟨rfl,rfl⟩ (by omega)
 have e0:((0:Nat):Int)=0:=rfl;simp only[e0] at key;rw[key];have:=nN (ne n) (Jk n) (fun a=>some a.2) (fun a=>(.inl a.2:(List Int)⊕(List Int×Bool))) (fun b c=>match b with|some l=>c=.inl l|none=>∃o,c=.inr (o,false)) (fun i x a=>by
  unfold ne Jk;cases pZ n x a
  ·exact .inl ⟨_,rfl,rfl⟩
  ·exact .inr ⟨_,_,rfl,rfl,_,rfl⟩) (fun a=>rfl) r.Fibers 0 (r.Start,[r.Start])
 revert this
 generalize cm (Jk n) (fun a=>(.inl a.2:(List Int)⊕(List Int×Bool))) 0 r.Fibers (r.Start,[r.Start])=c;cases cm (ne n) (fun a=>some a.2) 0 r.Fibers (r.Start,[r.Start]) with
 |none=>rintro⟨o,h⟩;rw[h];exact⟨o,rfl,fun l h=>by cases h⟩
 |some l=>intro h;rw[h];exact⟨l,rfl,fun l' h=>by cases h;rfl⟩
def Ny(n:af)(r:ar):Bool:=bR n&&(ix n r).isSome
theorem MU(n:af)(r:ar)(hz:aW n<=1048576)(hr:r.Fibers.length<=1048576):Df n r=some (Ny n r):=by
 obtain⟨h1,h2,_⟩:=px hz;unfold Df Ny;rw[qx n hz];simp only[Option.bind_some];rcases bt (bR n) with e|e
 ·obtain⟨o,o1,_⟩:=vN n r (by omega) (by omega) hr;rw[e];simp only[Bool.not_true,cond_false,o1,Option.bind_some,Bool.true_and]
 ·rw[e];rfl
theorem so{n:af}(hE:∀f∈n.Fibers,f.A<n.Nodes.length/\f.B<n.Nodes.length):∀(xs:List Int)(i:Nat)(a:Int×List Int)(l:List Int),cm (ne n) (fun a=>some a.2) i xs a=some l->a.2.Nodup->(∀v∈a.2,0<=v/\v<(n.Nodes.length:Int))->a.1∈a.2->
 l.Nodup/\(∀v∈l,0<=v/\v<(n.Nodes.length:Int))/\l.length=a.2.length+xs.length/\(∀e∈xs,0<=e/\e<(n.Fibers.length:Int))/\xs.Nodup/\∀e∈xs,∀f,n.Fibers[e.toNat]?=some f->¬(f.A∈a.2/\f.B∈a.2)
 |[],_,a,l,h,hd,hv,_=>by simp only[cm,Option.some.injEq] at h;subst h;exact⟨hd,hv,by simp,by simp,by simp,by simp⟩
 | x :: xs, i, a, l, h, hd, hv, ha => by
   simp only[cm,ne] at h;rcases bt (pZ n x a) with e|e
   ·rw[e] at h;cases h
   ·rw[e] at h;simp only[Bool.false_eq_true,if_false] at h;simp only[pZ,Bool.or_eq_false_iff,Bool.not_eq_false',decide_eq_false_iff_not,cg] at e;obtain⟨⟨e1,e2⟩,e3⟩:=e;have hi:x.toNat<n.Fibers.length:=by omega
    have hf:=hE _ (List.getElem_mem hi);have hg:=List.getElem?_eq_getElem hi;generalize n.Fibers[x.toNat]=f at hf hg;have ho:cD n x a.1=jm f a.1:=by unfold cD;rw[hg]
    have hend:(f.A=a.1/\f.B=cD n x a.1)\/(f.B=a.1/\f.A=cD n x a.1):=by
     rw[ho] at e2⊢;unfold jm at e2⊢;split
     ·rename_i h1;exact .inl ⟨h1.symm,rfl⟩
     ·split
      ·rename_i h1;exact .inr ⟨h1.symm,rfl⟩
      ·rename_i h1 h2;simp[h1,h2] at e2
    have hlt:cD n x a.1<n.Nodes.length:=by omega
    obtain⟨g1,g2,g3,g4,g5,g6⟩:=so hE xs (i+1) _ l h (by
     rw[List.nodup_append];exact⟨hd,by simp,fun u hu v hv=>by simp at hv;subst hv;intro e;subst e;exact e3 hu⟩) (fun v hv2=>by
     simp only[List.mem_append,List.mem_singleton] at hv2;rcases hv2 with h|h
     ·exact hv v h
     ·subst h;exact⟨by omega,hlt⟩) (by simp)
    refine⟨g1,g2,by rw[g3];simp;omega,fun e he=>?_,List.nodup_cons.2 ⟨fun hm=>?_,g5⟩,fun e he f' hf'=>?_⟩
    ·rcases List.mem_cons.1 he with rfl|he
     ·omega
     ·exact g4 e he
    ·refine g6 x hm f hg ?_;simp only[List.mem_append,List.mem_singleton];rcases hend with⟨h1,h2⟩|⟨h1,h2⟩
     ·exact⟨.inl (h1▸ha),.inr h2⟩
     ·exact⟨.inr h2,.inl (h1▸ha)⟩
    ·rcases List.mem_cons.1 he with rfl|he
     ·rw[hg] at hf';cases hf';rcases hend with⟨h1,h2⟩|⟨h1,h2⟩
      ·exact fun h=>e3 (h2▸h.2)
      ·exact fun h=>e3 (h2▸h.1)
     ·exact fun h=>g6 e he f' hf' ⟨List.mem_append_left _ h.1,List.mem_append_left _ h.2⟩
theorem sJ{n:af}{r:ar}(hE:∀f∈n.Fibers,f.A<n.Nodes.length/\f.B<n.Nodes.length){l:List Int}(h:ix n r=some l):l.Nodup/\(∀v∈l,0<=v/\v<(n.Nodes.length:Int))/\l.length=r.Fibers.length+1/\(∀e∈r.Fibers,0<=e/\e<(n.Fibers.length:Int))/\r.Fibers.Nodup:=by
 unfold ix at h;split at h
 ·cases h
 ·rename_i hc;simp only[Bool.or_eq_true,Bool.not_eq_true',decide_eq_true_eq,not_or,Bool.not_eq_false,cg] at hc;obtain⟨g1,g2,g3,g4,g5,_⟩:=so hE _ _ _ _ h (by simp) (fun v hv=>by simp at hv;subst hv;omega) (by simp);exact⟨g1,g2,by rw[g3];simp;omega,g4,g5⟩
theorem kF:∀(m:Nat)(l:List Int),l.Nodup->(∀x∈l,0<=x/\x<(m:Int))->l.length<=m
 | 0, l, _, h => by
   cases l with
   |nil=>simp
   |cons x l=>have:=h x (by simp);omega
 | m + 1, l, hn, h => by
   by_cases hm:(m:Int)∈l
   ·have:=kF m (l.erase (m:Int)) (hn.erase _) (fun x hx=>by
     have h1:=(hn.mem_erase_iff).1 hx;have:=h x h1.2;have h3:=h1.1;omega)
    rw[List.length_erase_of_mem hm] at this;omega
   ·have:=kF m l hn (fun x hx=>by
     have:=h x hx;have:x≠(m:Int):=fun e=>hm (e▸hx);omega)
    omega
end Vs

namespace Vs
open Go
def gz(l:List Int)(p:Nat):Int:=(l[p]?).getD 0
theorem pn{l:List Int}{p:Nat}(h:p<l.length):l[p]?=some (gz l p):=by
 unfold gz;rw[List.getElem?_eq_getElem h];rfl
theorem kJ{l:List Int}{p q:Nat}{x:Int}(h:p<l.length):gz (l.set p x) q=if q=p then x else gz l q:=by
 unfold gz;rw[List.getElem?_set];by_cases e:p=q
 ·rw[if_pos e,if_pos h,if_pos e.symm];rfl
 ·rw[if_neg e,if_neg (Ne.symm e)]
theorem HX(x y:Int):HY x y=some (decide (x<y)):=by
 unfold HY wI;simp
theorem DW{l:List Int}{i j:Nat}(hi:i<l.length)(hj:j<l.length):((l.set i (gz l j)).set j (gz l i)).Perm l:=by
 by_cases e:i=j
 ·subst e;have:(l.set i (gz l i)).set i (gz l i)=l:=by
   apply List.ext_getElem?;intro k;rw[List.getElem?_set,List.getElem?_set];by_cases h:i=k
   ·subst h;simp[hi];unfold gz;rw[List.getElem?_eq_getElem hi];rfl
   ·simp[h]
  rw[this]
 ·have g1:gz l j=l[j]:=by unfold gz;rw[List.getElem?_eq_getElem hj];rfl
  have g2:gz l i=l[i]:=by unfold gz;rw[List.getElem?_eq_getElem hi];rfl
  rw[g1,g2];exact List.set_set_perm hi hj
def SrtI(i j:Nat)(l:List Int):Prop:=(∀p q,p<q->q<=i->p≠j->q≠j->gz l p<=gz l q)/\∀q,j<q->q<=i->gz l j<=gz l q
def EW(n:Nat)(l:List Int):Prop:=∀p q,p<q->q<n->gz l p<=gz l q
theorem Ga(n i:Nat)(l0:List Int)(hl:l0.length=n)(hn:n<=1048576)(hi:i<n)(hs:EW i l0):
 ∃l,bz (M_n 0) N0 ((i:Int),l0)=some l/\l.Perm l0/\EW (i+1) l:=by
 refine ea (f:=M_n 0) (fun s=>∃j:Nat,s.1=j/\j<=i/\s.2.length=n/\s.2.Perm l0/\SrtI i j s.2) (fun s=>s.1.toNat) (fun l=>l.Perm l0/\EW (i+1) l) (fun s hI=>?_) N0 ((i:Int),l0)
  ⟨i,rfl,Nat.le_refl _,hl,List.Perm.refl _,fun p q h1 h2 h3 h4=>hs p q h1 (by omega),fun q h1 h2=>by omega⟩ (gP (by simp;omega))
 obtain⟨j',l⟩:=s;obtain⟨j,rfl,hj,hll,hp,hA,hB⟩:=hI;simp only at hll hp hA hB;by_cases h0:0<j
 ·have e1:decide ((0:Int)<(j:Int))=true:=decide_eq_true (by omega);have ew:IntKind.wrap .i64 ((j:Int)-1)=((j-1:Nat):Int):=by rw[aF (by omega) (by omega)];omega
  have g1:l[j]?=some (gz l j):=pn (by omega);have g2:l[j-1]?=some (gz l (j-1)):=pn (by omega);have d1:grd (0<=(j:Int)/\(j:Int)<(l.length:Int))=some ():=bu (by omega);have d2:grd (0<=((j-1:Nat):Int)/\((j-1:Nat):Int)<(l.length:Int))=some ():=bu (by omega);by_cases hlt:gz l j<gz l (j-1)
  ·left;have e2:decide (gz l j<gz l (j-1))=true:=decide_eq_true hlt;have g3:(l.set j (gz l (j-1)))[j-1]?=some (gz l (j-1)):=by
    rw[List.getElem?_set,if_neg (by omega)];exact g2
   refine⟨(((j-1:Nat):Int),(l.set j (gz l (j-1))).set (j-1) (gz l j)),?_,⟨j-1,rfl,by omega,by simp[hll],?_,?_,?_⟩,?_⟩
   ·simp only[M_n,e1,cond_true,Int.toNat_natCast,ew,d1,d2,g1,g2,HX,e2,Option.bind_some,bnd,g3]
   ·exact(DW (by omega) (by omega)).trans hp
   ·intro p q h1 h2 h3 h4;simp only at*
    rw[kJ (by simp;omega),kJ (by omega),kJ (by simp;omega),kJ (by omega),if_neg h3,if_neg h4];by_cases c1:p=j
    ·rw[if_pos c1,if_neg (by omega)];exact hA (j-1) q (by omega) h2 (by omega) (by omega)
    ·rw[if_neg c1];by_cases c2:q=j
     ·rw[if_pos c2];exact hA p (j-1) (by omega) (by omega) c1 (by omega)
     ·rw[if_neg c2];exact hA p q h1 h2 c1 c2
   ·intro q h1 h2;simp only at*
    rw[kJ (by simp;omega),if_pos rfl,kJ (by simp;omega),if_neg (by omega),kJ (by omega)];by_cases c2:q=j
    ·rw[if_pos c2];omega
    ·rw[if_neg c2];exact hB q (by omega) h2
   ·simp only[Int.toNat_natCast];omega
  ·right;have e2:decide (gz l j<gz l (j-1))=false:=decide_eq_false hlt;refine⟨l,?_,hp,?_⟩
   ·simp only[M_n,e1,cond_true,Int.toNat_natCast,ew,d1,d2,g1,g2,Option.bind_some,HX,e2,cond_false]
   ·intro p q h1 h2;by_cases c1:p=j
    ·rw[c1];exact hB q (by omega) (by omega)
    ·by_cases c2:q=j
     ·rw[c2];by_cases c3:p=j-1
      ·rw[c3];omega
      ·have:=hA p (j-1) (by omega) (by omega) c1 (by omega);omega
     ·exact hA p q h1 (by omega) c1 c2
 ·right;have e1:decide ((0:Int)<(j:Int))=false:=decide_eq_false (by omega);refine⟨l,by simp only[M_n,e1,cond_false,Option.bind_some],hp,fun p q h1 h2=>?_⟩;by_cases c1:p=j
  ·rw[c1];exact hB q (by omega) (by omega)
  ·exact hA p q h1 (by omega) c1 (by omega)
theorem RO(n:Nat)(xs:List Int)(hl:xs.length=n)(hn:n<=1048576):∃l,NS 0 (n:Int) xs=some l/\l.Perm xs/\EW n l:=by
 unfold NS;obtain⟨l,h1,h2,h3⟩:=ea (f:=M_v 0 (n:Int)) (fun s=>∃i:Nat,s.1=i/\1<=i/\i<=n+1/\s.2.length=n/\s.2.Perm xs/\EW i s.2) (fun s=>n+1-s.1.toNat) (fun l=>l.Perm xs/\EW n l) (fun s hI=>by
  obtain⟨i',l⟩:=s;obtain⟨i,rfl,h0,hi,hll,hp,hs⟩:=hI;simp only at hll hp hs;by_cases h:i<n
  ·left;have e1:decide ((i:Int)<(n:Int))=true:=decide_eq_true (by omega);obtain⟨l',g1,g2,g3⟩:=Ga n i l hll hn h hs;refine⟨(((i+1:Nat):Int),l'),?_,⟨i+1,rfl,by omega,by omega,by rw[g2.length_eq];exact hll,g2.trans hp,g3⟩,by simp only[Int.toNat_natCast];omega⟩;simp only[M_v,e1,cond_true,g1,Option.bind_some];rw[aF (by omega) (by omega)];rfl
  ·right;have e1:decide ((i:Int)<(n:Int))=false:=decide_eq_false (by omega);exact⟨l,by simp only[M_v,e1,cond_false],hp,fun p q h1 h2=>hs p q h1 (by omega)⟩) N0 (((1:Nat):Int),xs) ⟨1,rfl,by omega,by omega,hl,List.Perm.refl _,fun p q h1 h2=>by omega⟩ (gP (by simp;omega))
 refine⟨l,?_,h2,h3⟩;have e:IntKind.wrap .i64 ((0:Int)+1)=((1:Nat):Int):=by rw[aF (by omega) (by omega)];rfl
 rw[e,h1];rfl
theorem BT:∀n:Fin 13,(NW (IntKind.wrap .u64 (n.val:Int))).isSome=true:=by decide+kernel
theorem OJ(xs:List Int)(h:xs.length<=12):∃l,Lj xs=some l/\l.Perm xs/\l.Pairwise (·<=·):=by
 obtain⟨l,h1,h2,h3⟩:=RO xs.length xs rfl (by omega);refine⟨l,?_,h2,?_⟩
 ·have hb:=BT ⟨xs.length,by omega⟩;simp only at hb;unfold Lj;cases hx:NW (IntKind.wrap .u64 (xs.length:Int)) with
  |none=>rw[hx] at hb;cases hb
  | some r =>
    simp only[Option.bind_some];unfold RH;have hN:N0=(N0-1)+1:=by unfold N0;omega
    rw[hN,bz];have e1:decide (IntKind.wrap .i64 ((xs.length:Int)-0)<=12)=true:=by rw[aF (by omega) (by omega)];exact decide_eq_true (by omega)
    simp only[Rz,e1,cond_true,h1,Option.bind_some]
 ·rw[List.pairwise_iff_getElem];intro i j hi hj hij;have:=h3 i j hij (by rw[<-h2.length_eq];exact hj);unfold gz at this;rw[List.getElem?_eq_getElem hi,List.getElem?_eq_getElem hj] at this;exact this
end Vs

namespace Vs
open Go
def Pj(a bW:List Int):List Int:=a.filter fun x=>decide (x∈bW)
theorem pz(p:Int->Bool):∀(xs:List Int)(i:Nat)(l:List Int),cm (fun(_:Nat)(x:Int)(l:List Int)=>(.inl (if p x then l++[x] else l):List Int⊕List Int)) (fun l=>l) i xs l=l++xs.filter p
 |[],_,l=>by simp[cm]
 | x :: xs, i, l => by
   simp only[cm];rw[pz p xs (i+1)];by_cases h:p x=true
   ·simp[h]
   ·simp[h]
theorem VU(a bW:List Int)(ha:a.length<=1048576)(hg:bW.length<=1048576):bz (zU a bW) N0 (0,[])=some (Pj a bW):=by
 have key:=ef (f:=zU a bW) a (fun i(l:List Int)=>((i:Int),l)) (fun _ x l=>.inl (if decide (x∈bW) then l++[x] else l)) (fun l=>l) (fun i l=>l.length<=i) (fun i l x hx hI=>by
  have hlt:=(List.getElem?_eq_some_iff.1 hx).1;have h1:decide ((i:Int)<a.length)=true:=by simp[hlt]
  refine .inl ⟨_,rfl,by split<;>(try simp only[List.length_append,List.length_cons,List.length_nil])<;>omega,?_⟩;simp only[zU,h1,cond_true,aU,hx,Option.bind_some,uz bW x hg,bnd];rw[aF (n:=(i:Int)+1) (by omega) (by omega)];by_cases h:x∈bW
  ·rw[decide_eq_true h,cond_true,bu (by omega),if_pos rfl];rfl
  ·rw[decide_eq_false h,cond_false,if_neg (by simp)];rfl) (fun l _=>by simp[zU]) [] (Nat.le_refl 0) (by omega)
 have e0:((0:Nat):Int)=0:=rfl;simp only[e0] at key;rw[key,pz];rfl
def ddp(ys:List Int):Nat->List Int
 |0=>[]
 |j+1=>if 0<j/\ys[j]?=ys[j-1]? then ddp ys j else ddp ys j++(ys[j]?).toList
theorem rx(ys:List Int):∀k,(∀i,1<=i->i<k->ys[i]?≠ys[i-1]?)->ddp ys k=ys.take k
 |0,_=>by simp[ddp]
 | k + 1, h => by
   unfold ddp;rw[if_neg (fun e=>h k (by omega) (by omega) e.2),rx ys k (fun i h1 h2=>h i h1 (by omega)),List.take_add_one]
theorem Cw{l:List Int}{k:Nat}(y:Int)(h:k<l.length):(l.set k y).take (k+1)=l.take k++[y]:=by
 rw[List.take_add_one,List.getElem?_set_self h,List.take_set_of_le (Nat.le_refl k)];rfl
theorem rf{ys:List Int}(hs:ys.Pairwise (·<=·)):∀j,j<=ys.length->(ddp ys j).Pairwise (·<·)/\(∀x∈ddp ys j,∀y,ys[j-1]?=some y->x<=y)/\∀x,x∈ddp ys j↔x∈ys.take j
 |0,_=>by simp[ddp]
 | j + 1, h => by
   obtain⟨h1,h2,h3⟩:=rf hs j (by omega);have hy:ys[j]?=some (ys[j]'(by omega)):=List.getElem?_eq_getElem (by omega);generalize ys[j]'(by omega)=y at hy;unfold ddp;rw[List.take_add_one,hy];by_cases c:0<j/\some y=ys[j-1]?
   ·rw[if_pos c];refine⟨h1,fun x hx z hz=>?_,fun x=>?_⟩
    ·simp only[Nat.add_sub_cancel,hy,Option.some.injEq] at hz;subst hz;exact h2 x hx y c.2.symm
    ·have hm:y∈ys.take j:=by
      rw[List.mem_take_iff_getElem];obtain⟨q1,q2⟩:=List.getElem?_eq_some_iff.1 c.2.symm;exact⟨j-1,by omega,q2⟩
     simp only[Option.toList_some,List.mem_append,List.mem_singleton,h3];exact⟨.inl,fun q=>q.elim id fun e=>e▸hm⟩
   ·rw[if_neg c];have hlt:∀x∈ddp ys j,x<y:=fun x hx=>by
     by_cases hj:0<j
     ·have hz:ys[j-1]?=some (ys[j-1]'(by omega)):=List.getElem?_eq_getElem (by omega);have:=h2 x hx _ hz;have h5:ys[j-1]'(by omega)<=ys[j]'(by omega):=List.pairwise_iff_getElem.1 hs (j-1) j (by omega) (by omega) (by omega);have h6:ys[j]'(by omega)=y:=(List.getElem?_eq_some_iff.1 hy).2;have h7:ys[j-1]'(by omega)≠y:=fun e=>c ⟨hj,by rw[hz,e]⟩;omega
     ·have:j=0:=by omega
      subst this;simp[ddp] at hx
    refine⟨?_,fun x hx z hz=>?_,fun x=>?_⟩
    ·rw[List.pairwise_append];exact⟨h1,by simp,fun a ha b hb=>by simp at hb;subst hb;exact hlt a ha⟩
    ·simp only[Nat.add_sub_cancel,hy,Option.some.injEq] at hz;subst hz;simp only[Option.toList_some,List.mem_append,List.mem_singleton] at hx;rcases hx with hx|hx
     ·have:=hlt x hx;omega
     ·omega
    ·simp only[List.mem_append,h3]
theorem LI(ys:List Int)(hl:ys.length<=1048576)(k0:Nat)(h0:1<=k0)(hk:k0<ys.length)(hd:ddp ys (k0+1)=ys.take k0):
 ∃(k:Nat)(l:List Int),bz (M_w 0 ys.length (k0:Int)) N0 ((k0:Int),1,ys)=some ((k:Int),l)/\l.length=ys.length/\k<=ys.length/\l.take k=ddp ys ys.length:=by
 obtain⟨o,o1,o2⟩:=ea (f:=M_w 0 ys.length (k0:Int)) (fun s=>∃(k k2:Nat)(l:List Int),s=((k:Int),(k2:Int),l)/\1<=k2/\k0+k2<=ys.length/\l.length=ys.length/\k+1<=k0+k2/\(∀p,k0+k2<=p+1->l[p]?=ys[p]?)/\l.take k=ddp ys (k0+k2))
  (fun s=>ys.length-s.2.1.toNat) (fun o=>∃(k:Nat)(l:List Int),o=((k:Int),l)/\l.length=ys.length/\k<=ys.length/\l.take k=ddp ys ys.length) (fun s hI=>by
  obtain⟨k,k2,l,rfl,i1,i2,i3,i4,i5,i6⟩:=hI;by_cases hc:k0+k2<ys.length
  ·left;have e1:decide ((k2:Int)<((ys.length-k0:Nat):Int))=true:=decide_eq_true (by omega);have ew:IntKind.wrap .i64 ((k2:Int)-1)=((k2-1:Nat):Int):=by rw[aF (by omega) (by omega)];omega
   have g1:l[0+k0+k2]?=some (ys[k0+k2]'hc):=by rw[Nat.zero_add,i5 _ (by omega)];exact List.getElem?_eq_getElem hc
   have g2:l[0+k0+(k2-1)]?=some (ys[k0+k2-1]'(by omega)):=by
    rw[show 0+k0+(k2-1)=k0+k2-1 by omega,i5 _ (by omega)];exact List.getElem?_eq_getElem (by omega)
   have g3:l[0+k]?=some (l[k]'(by omega)):=by rw[Nat.zero_add];exact List.getElem?_eq_getElem (by omega)
   have hddp:ddp ys (k0+k2+1)=if ys[k0+k2]'hc=ys[k0+k2-1]'(by omega) then ddp ys (k0+k2) else ddp ys (k0+k2)++[ys[k0+k2]'hc]:=by
    rw[ddp,List.getElem?_eq_getElem hc,List.getElem?_eq_getElem (show k0+k2-1<ys.length by omega)];by_cases e:ys[k0+k2]'hc=ys[k0+k2-1]'(by omega)
    ·rw[if_pos ⟨by omega,by rw[e]⟩,if_pos e]
    ·rw[if_neg (fun q=>e (Option.some.inj q.2)),if_neg e];rfl
   simp only[M_w,Int.toNat_natCast,e1,cond_true,ew,g1,g2,g3];rw[bu (by omega),bu (by omega),bu (by omega)];simp only[Option.bind_some,bnd];rw[aF (n:=(k:Int)+1) (by omega) (by omega),aF (n:=(k2:Int)+1) (by omega) (by omega)];by_cases e:ys[k0+k2]'hc=ys[k0+k2-1]'(by omega)
   ·rw[if_pos e] at hddp;rw[show(ys[k0+k2]'hc !=ys[k0+k2-1]'(by omega))=false by simpa using e,cond_false];exact⟨_,rfl,⟨k,k2+1,l,by simp,by omega,by omega,i3,by omega,fun p hp=>i5 p (by omega),by rw[show k0+(k2+1)=k0+k2+1 by omega,hddp];exact i6⟩,by simp only[];omega⟩
   ·rw[if_neg e] at hddp;rw[show(ys[k0+k2]'hc !=ys[k0+k2-1]'(by omega))=true by simpa using e,cond_true];refine⟨_,rfl,⟨k+1,k2+1,l.set k (ys[k0+k2]'hc),by simp,by omega,by omega,by simpa using i3,by omega,fun p hp=>?_,?_⟩,by simp only[];omega⟩
    ·rw[List.getElem?_set_ne (by omega)];exact i5 p (by omega)
    ·rw[show k0+(k2+1)=k0+k2+1 by omega,hddp,Cw _ (by omega),i6]
  ·right;have e1:decide ((k2:Int)<((ys.length-k0:Nat):Int))=false:=decide_eq_false (by omega);refine⟨_,by simp only[M_w,Int.toNat_natCast,e1,cond_false],k,l,rfl,i3,by omega,?_⟩;rw[i6,show k0+k2=ys.length by omega]) N0 ((k0:Int),((1:Nat):Int),ys) ⟨k0,1,ys,rfl,by omega,by omega,rfl,by omega,fun p _=>rfl,hd.symm⟩ (gP (by simp;omega))
 obtain⟨k,l,rfl,q1,q2,q3⟩:=o2;exact⟨k,l,o1,q1,q2,q3⟩
theorem Cx(ys:List Int)(hl:ys.length<=1048576):∃k l,Ks 0 ys.length ys=some (0,k,l)/\fR l 0 k=ddp ys ys.length:=by
 unfold Ks;by_cases h:(ys.length:Int)<2
 ·rw[decide_eq_true h,cond_true];refine⟨_,_,rfl,?_⟩;rw[iY,rx ys _ (fun i h1 h2=>by omega),List.take_length]
 rw[decide_eq_false h,cond_false];obtain⟨o,o1,o2⟩:=ea (f:=M_z 0 ys.length ys) (fun s=>∃i:Nat,s=i/\1<=i/\i<=ys.length/\ddp ys i=ys.take i) (fun s=>ys.length-s.toNat)
  (fun o=>(o=.inl ()/\ddp ys ys.length=ys)\/∃k l,o=.inr (0,k,l)/\fR l 0 k=ddp ys ys.length) (fun s hI=>by
  obtain⟨i,rfl,h1,h2,h3⟩:=hI;by_cases hi:i<ys.length
  ·have e1:decide ((i:Int)<(ys.length:Int))=true:=decide_eq_true (by omega);have ew:IntKind.wrap .i64 ((i:Int)-1)=((i-1:Nat):Int):=by rw[aF (by omega) (by omega)];omega
   have g1:ys[0+i]?=some (ys[i]'hi):=by rw[Nat.zero_add];exact List.getElem?_eq_getElem hi
   have g2:ys[0+(i-1)]?=some (ys[i-1]'(by omega)):=by rw[Nat.zero_add];exact List.getElem?_eq_getElem (by omega)
   simp only[M_z,e1,cond_true,Int.toNat_natCast,g1,ew,g2];rw[bu (by omega),bu (by omega)];simp only[Option.bind_some];by_cases e:ys[i]'hi=ys[i-1]'(by omega)
   ·right;have hd:ddp ys (i+1)=ys.take i:=by
     rw[ddp,if_pos ⟨by omega,by rw[List.getElem?_eq_getElem hi,List.getElem?_eq_getElem (show i-1<ys.length by omega),e]⟩,h3]
    obtain⟨k,l,k1,k2,k3,k4⟩:=LI ys hl i h1 hi hd;rw[show(ys[i]'hi==ys[i-1]'(by omega))=true by simpa using e,cond_true];simp only[Int.toNat_natCast,and_true,true_and];rw[bu (by omega)];simp only[Option.bind_some,k1,bnd,Int.toNat_natCast,and_true,true_and];rw[bu (by omega)];simp only[Option.bind_some];refine⟨_,rfl,.inr ⟨k,_,rfl,?_⟩⟩;rw[<-k4,fQ,List.drop_zero];unfold dZ;rw[if_pos (by simp;omega),Nat.zero_add];rw[List.append_assoc,List.take_append_of_le_length (by simp;omega),List.take_take,Nat.min_self]
   ·left;rw[show(ys[i]'hi==ys[i-1]'(by omega))=false by simpa using e,cond_false,aF (by omega) (by omega)];refine⟨_,rfl,⟨i+1,rfl,by omega,by omega,?_⟩,by omega⟩;rw[ddp,if_neg (fun q=>e (by
     have:=q.2;rw[List.getElem?_eq_getElem hi,List.getElem?_eq_getElem (show i-1<ys.length by omega)] at this;exact Option.some.inj this)),h3,List.take_add_one]
  ·right;have e1:decide ((i:Int)<(ys.length:Int))=false:=decide_eq_false (by omega);refine⟨_,by simp only[M_z,e1,cond_false],.inl ⟨rfl,?_⟩⟩;rw[show ys.length=i by omega,h3,show i=ys.length by omega,List.take_length]) N0 ((1:Nat):Int) ⟨1,rfl,by omega,by omega,by
    rw[rx ys 1 (fun i h1 h2=>by omega)]⟩ (gP (by simp;omega))
 have e1:((1:Nat):Int)=1:=rfl;rw[e1] at o1;rw[o1];rcases o2 with⟨rfl,q⟩|⟨k,l,rfl,q⟩
 ·exact⟨_,_,rfl,by rw[iY,q]⟩
 ·exact⟨k,l,rfl,q⟩
theorem ng(a bW:List Int)(ha:a.length<=12)(hg:bW.length<=1048576):∃l,wv a bW=some l/\l.Pairwise (·<·)/\∀x,x∈l↔x∈a/\x∈bW:=by
 unfold wv;have hc:(Pj a bW).length<=a.length:=List.length_filter_le ..;rw[VU a bW (by omega) hg];simp only[Option.bind_some];obtain⟨l,l1,l2,l3⟩:=OJ (Pj a bW) (by omega);have hln:=l2.length_eq;obtain⟨k,l',k1,k2⟩:=Cx l (by omega);rw[l1];simp only[Option.bind_some];rw[<-hln,k1];simp only[Option.bind_some,bnd,k2];obtain⟨s1,_,s3⟩:=rf l3 l.length (Nat.le_refl _);refine⟨_,rfl,s1,fun x=>?_⟩;rw[s3,List.take_length,l2.mem_iff];simp[Pj]
def gJ(a bW:List Int):Bool:=!a.any fun x=>decide (x∈bW)
theorem Ao{a bW l:List Int}(h:∀x,x∈l↔x∈a/\x∈bW):((l.length:Int)==0)=gJ a bW:=by
 rw[Bool.eq_iff_iff];simp only[beq_iff_eq,gJ,Bool.not_eq_true',List.any_eq_false,decide_eq_true_eq];constructor
 ·intro e x hx hg;have:=(h x).2 ⟨hx,hg⟩;have h0:l=[]:=List.length_eq_zero_iff.1 (by omega);rw[h0] at this;cases this
 ·intro hn;cases l with
  |nil=>rfl
  |cons x l=>exact(hn x ((h x).1 (by simp)).1 ((h x).1 (by simp)).2).elim
theorem yD{a bW l:List Int}(h:∀x,x∈l↔x∈a/\x∈bW):decide ((0:Int)<(l.length:Int))=!gJ a bW:=by
 rw[<-Ao h,Bool.eq_iff_iff];simp only[decide_eq_true_eq,Bool.not_eq_true',beq_eq_false_iff_ne];omega
end Vs

namespace Vs
open Go
def jS(b:bc):Bool:=wi b.First 0 23&&wi b.Count 1 (24-b.First)
theorem GD(b:bc):MR b=some (jS b):=by
 unfold MR jS;simp only[iv,Option.bind_some];rcases bt (wi b.First 0 23) with e|e
 ·have:=cg.1 e;rw[e,cond_true,aF (by omega) (by omega),Bool.true_and]
 ·rw[e];rfl
theorem pR(b:bc):IE b=some (jS b):=by
 unfold IE jS;simp only[el,Option.bind_some];by_cases h1:0<=b.First
 ·rw[decide_eq_true h1,cond_true];rcases bt (wi b.Count 1 24) with e|e
  ·have:=cg.1 e;rw[e,cond_true,aF (by omega) (by omega)];congr 1;rw[Bool.eq_iff_iff];simp only[decide_eq_true_eq,Bool.and_eq_true,cg];omega
  ·rw[e,cond_false];congr 1;symm;rw[Bool.eq_false_iff];intro h;simp only[Bool.and_eq_true,cg] at h;have:=pA.1 e;omega
 ·rw[decide_eq_false h1,cond_false];congr 1;symm;rw[Bool.eq_false_iff];intro h;simp only[Bool.and_eq_true,cg] at h;omega
def kf(b:bc):Prop:=(0<=b.First/\b.First<=24)/\0<=b.Count/\b.Count<=24
theorem UO{b:bc}(h:jS b=true):kf b:=by
 unfold jS at h;simp only[Bool.and_eq_true,cg] at h;unfold kf;omega
def dE(b:bc):Int:=IntKind.wrap .i64 ((IntKind.wrap .i64 ((IntKind.wrap .i64 (1*2^(min (Int.toNat b.Count) (IntKind.bits .i64))))-1))*2^(min (Int.toNat b.First) (IntKind.bits .i64)))
theorem mW{b:bc}(h:kf b):vm b=some (dE b):=by
 unfold vm;rw[bu h.2.1];simp only[Option.bind_some];rw[bu h.1.1];rfl
theorem kc{b:bc}(h:kf b):rT b=some (dE b):=by
 unfold rT;have h1:=h.1;have h2:=h.2;rw[AB (n:=b.Count) (by omega) (by omega),AB (n:=b.First) (by omega) (by omega),bu h2.1];simp only[Option.bind_some];rw[bu h1.1];rfl
theorem and0(y:Int):bits .and .i64 0 y=0:=by
 show IntKind.wrap .i64 ((BitVec.ofInt 64 0 &&& BitVec.ofInt 64 y).toNat:Int)=0;have:BitVec.ofInt 64 0=0#64:=rfl;rw[this,BitVec.zero_and];rfl
theorem mM(r:ar)(g:List Int)(hr:r.Fibers.length<=1048576)(hg:g.length<=1048576):xb r g=some (!gJ r.Fibers g):=by
 unfold xb;rw[kD (f:=EC r g) r.Fibers (fun x=>decide (x∈g)) (.inr true) (.inl ()) (fun i y hy=>by
  have hlt:=(List.getElem?_eq_some_iff.1 hy).1;have h1:decide ((i:Int)<r.Fibers.length)=true:=by simp[hlt]
  simp only[EC,h1,cond_true,aU,hy,Option.bind_some,oY g y hg,<-ug];rw[aF (by omega) (by omega)];cases decide (y∈g)<;>rfl) (by simp[EC]) (by omega)]
 unfold gJ;rw[Bool.not_not];cases(r.Fibers.any fun x=>decide (x∈g))<;>rfl
def dd(a:ar)(x:bc)(b:ar)(y:bc):Bool:=(bits .and .i64 (dE x) (dE y) !=0)&&!gJ a.Fibers b.Fibers
end Vs

namespace Vs
open Go
def fu(n:af)(r:ar):Int:=match ix n r with|some l=>gz l (l.length-1)|none=>0
structure MY(n:af)(r:ar):Prop where
 len:r.Fibers.length<=12
 fib:∀x∈r.Fibers,fibI n x
 nod:r.Fibers.Nodup
theorem uA{n:af}(h:bR n=true){r:ar}{l:List Int}(hl:ix n r=some l):MY n r/\l.length=r.Fibers.length+1:=by
 obtain⟨g1,g2,g3,g4,g5⟩:=sJ (vE h) hl;have:=kF n.Nodes.length l g1 g2;have:=gv h;exact⟨⟨by omega,g4,g5⟩,g3⟩
theorem ue{n:af}{r:ar}{l:List Int}(h:bR n=true)(hr:r.Fibers.length<=1048576)(hl:ix n r=some l):yx n r=some (fu n r):=by
 have hb:=gv h;obtain⟨o,o1,o2⟩:=vN n r (by omega) (by omega) hr;obtain rfl:=o2 l hl;obtain⟨hi,hlen⟩:=uA h hl;have:=hi.len;unfold yx PK fu;rw[o1,hl];simp only[Option.bind_some];have e:IntKind.wrap .i64 ((o.length:Int)-1)=((o.length-1:Nat):Int):=by rw[aF (by omega) (by omega)];omega
 rw[e,bu (by omega)];simp only[Option.bind_some,Int.toNat_natCast];rw[pn (by omega)];rfl
end Vs

namespace Vs
open Go
def jy(l:List Int)(N:Int)(i:Nat)(k:Int):Bool:=!wi k 0 (N-1)||(decide (0<i)&&match l[i-1]? with|some p=>decide (k<=p)|none=>false)
def qV(l:List Int)(N:Int):Bool:=!eX (jy l N) l
theorem Rf(l:List Int)(N:Nat)(hN:N<=1048576)(hl:l.length<=1048576):JR l (N:Int)=some (qV l N):=by
 unfold JR qV;rw[ee (f:=Eo l (N:Int)) l (jy l N) (.inr false) (.inl ()) (fun i x hx hprev=>by
  have hlt:=(List.getElem?_eq_some_iff.1 hx).1;have h1:decide ((i:Int)<l.length)=true:=by simp[hlt]
  simp only[Eo,h1,cond_true,aU,hx,Option.bind_some,el];rw[aF (n:=(N:Int)-1) (by omega) (by omega),aF (n:=(i:Int)+1) (by omega) (by omega)];unfold jy;by_cases h0:0<i
  ·have e0:decide ((0:Int)<(i:Int))=true:=decide_eq_true (by omega);have ew:IntKind.wrap .i64 ((i:Int)-1)=((i-1:Nat):Int):=by rw[aF (by omega) (by omega)];omega
   have hg:l[i-1]?=some (l[i-1]'(by omega)):=List.getElem?_eq_getElem (by omega);rw[e0,ew,aU,hg,decide_eq_true h0];simp only[cond_true,Option.bind_some,Bool.true_and];cases wi x 0 ((N:Int)-1)<;>cases decide (x<=l[i-1]'(by omega))<;>rfl
  ·have e0:decide ((0:Int)<(i:Int))=false:=decide_eq_false (by omega);rw[e0,decide_eq_false h0];cases wi x 0 ((N:Int)-1)<;>rfl) (by simp[Eo]) (by omega)]
 cases eX (jy l N) l<;>rfl
theorem xq(l:List Int)(N:Int)(hl:l.length<=1048576):Ko l 0 (N-1)=some (qV l N):=by
 unfold Ko qV;rw[ee (f:=EV l 0 (N-1)) l (jy l N) (.inr false) (.inl ()) (fun i x hx hprev=>by
  have hlt:=(List.getElem?_eq_some_iff.1 hx).1;have h1:decide ((i:Int)<l.length)=true:=by simp[hlt]
  simp only[EV,h1,cond_true,aU,hx,Option.bind_some,iv];rw[aF (n:=(i:Int)+1) (by omega) (by omega)];unfold jy;by_cases h0:0<i
  ·have e0:decide ((0:Int)<(i:Int))=true:=decide_eq_true (by omega);have ew:IntKind.wrap .i64 ((i:Int)-1)=((i-1:Nat):Int):=by rw[aF (by omega) (by omega)];omega
   have hg:l[i-1]?=some (l[i-1]'(by omega)):=List.getElem?_eq_getElem (by omega);rw[e0,ew,aU,hg,decide_eq_true h0];simp only[cond_true,Option.bind_some,Bool.true_and];cases wi x 0 (N-1)<;>cases decide (x<=l[i-1]'(by omega))<;>rfl
  ·have e0:decide ((0:Int)<(i:Int))=false:=decide_eq_false (by omega);rw[e0,decide_eq_false h0];cases wi x 0 (N-1)<;>rfl) (by simp[EV]) (by omega)]
 cases eX (jy l N) l<;>rfl
theorem Bo{l:List Int}(h:∀(i:Nat)(a b:Int),l[i]?=some a->l[i+1]?=some b->a<b):l.Pairwise (·<·):=by
 rw[List.pairwise_iff_getElem];intro i j hi hj hij;obtain⟨d,rfl⟩:∃d,j=i+1+d:=⟨j-i-1,by omega⟩;induction d with
 |zero=>exact h i _ _ (List.getElem?_eq_getElem hi) (List.getElem?_eq_getElem hj)
 | succ d ih =>
   have h1:=ih (by omega) (by omega);have h2:=h (i+1+d) _ _ (List.getElem?_eq_getElem (by omega)) (List.getElem?_eq_getElem (by omega));have h3:l[i+1+(d+1)]'hj=l[i+1+d+1]'(by omega):=rfl;omega
theorem VF{l:List Int}{N:Int}(h:qV l N=true):l.Pairwise (·<·)/\∀x∈l,0<=x/\x<N:=by
 unfold qV at h;have h2:=cR.1 (by simpa using h);refine⟨Bo fun i a b ha hb=>?_,fun x hx=>?_⟩
 ·have:=h2 (i+1) b hb;unfold jy at this;simp only[Nat.add_sub_cancel,ha,Bool.or_eq_false_iff,Bool.and_eq_false_iff,decide_eq_false_iff_not] at this;omega
 ·obtain⟨i,hi⟩:=List.getElem?_of_mem hx;have:=h2 i x hi;unfold jy at this;simp only[Bool.or_eq_false_iff,Bool.not_eq_false',cg] at this;omega
theorem rd{l:List Int}(h:l.Pairwise (·<·)):l.Nodup:=h.imp fun h=>by omega
theorem QH{l:List Int}{N:Nat}(h:qV l N=true):l.length<=N:=by
 obtain⟨h1,h2⟩:=VF h;exact kF N l (rd h1) h2
end Vs

namespace Vs
open Go
def ec(n:af)(x:aq):Bool:=wi x.Id 1 999&&(ix n x.Route).isSome&&jS x.Block
structure jc(n:af)(x:aq):Prop where
 r:MY n x.Route
 b:kf x.Block
theorem gY{n:af}{x:aq}(h:bR n=true)(hx:ec n x=true):jc n x:=by
 unfold ec at hx;simp only[Bool.and_eq_true] at hx;obtain⟨⟨_,h2⟩,h3⟩:=hx;obtain⟨l,hl⟩:=Option.isSome_iff_exists.1 h2;exact⟨(uA h hl).1,UO h3⟩
theorem Cv(n:af)(x:aq)(h:bR n=true)(hr:x.Route.Fibers.length<=1048576):MF n x=some (ec n x):=by
 have hb:=gv h;unfold MF ec;simp only[el,pR,sO n x.Route (by omega) (by omega) hr,Option.bind_some];cases ix n x.Route with
 |none=>simp
 |some l=>cases wi x.Id 1 999<;>cases jS x.Block<;>rfl
theorem BV(n:af)(x:aq)(h:bR n=true)(hz:aW n<=1048576)(hr:x.Route.Fibers.length<=1048576):Kq n x=some (ec n x):=by
 unfold Kq ec;have hg:Df n x.Route=some (ix n x.Route).isSome:=by
  rw[MU n x.Route hz hr];unfold Ny;rw[h,Bool.true_and]
 simp only[iv,GD,hg,Option.bind_some];cases wi x.Id 1 999<;>cases(ix n x.Route).isSome<;>rfl
theorem ti(n:af)(a b:aq)(ha:jc n a)(hb:jc n b):DJ a b=some (dd a.Route a.Block b.Route b.Block):=by
 have h1:=ha.r.len;have h2:=hb.r.len;unfold DJ dd;obtain⟨l,l1,_,l3⟩:=ng a.Route.Fibers b.Route.Fibers h1 (by omega);simp only[mW ha.b,mW hb.b,Option.bind_some,l1,yD l3];cases bits .and .i64 (dE a.Block) (dE b.Block) !=0<;>rfl
theorem wl(n:af)(a b:aq)(ha:jc n a)(hb:jc n b):Nf a b=some (dd a.Route a.Block b.Route b.Block):=by
 have h1:=ha.r.len;have h2:=hb.r.len;unfold Nf dd;simp only[mM a.Route b.Route.Fibers (by omega) (by omega),kc ha.b,kc hb.b,Option.bind_some];cases gJ a.Route.Fibers b.Route.Fibers<;>simp
theorem wy{list:List aq}(h:bb list<=1048576){s:aq}(hs:s∈list):s.Route.Fibers.length<=1048576:=by
 obtain⟨i,hi⟩:=List.getElem?_of_mem hs;have h2:s.Route.Fibers.length<=(list.map fun x=>ck x).sum:=my (fun x=>ck x) hi;unfold bb at h;omega
theorem ru{list:List aq}(h:bb list<=1048576):list.length<=1048576:=by unfold bb at h;omega
def gU(n:af)(list:List aq)(i:Nat)(s:aq):Bool:=
 !ec n s||(decide (0<i)&&match list[i-1]? with|some g=>decide (s.Id<=g.Id)|none=>false)||(list.take i).any fun o=>dd o.Route o.Block s.Route s.Block
def io(p:aK):Bool:=bR p.Network&&decide (p.Lights.length<=12)&&!eX (gU p.Network p.Lights) p.Lights
theorem MX(xs:List aq)(f:aq->Option Bool)(p:aq->Bool)(hf:∀x∈xs,f x=some (p x))(hl:xs.length<=1048576):tN xs f=some (xs.any p):=by
 unfold tN vF;rw[cz (f:=tx xs f) xs (fun _ x=>p x) (fun i _=>(i:Int)) () (fun i x hx _=>by
  have hlt:=(List.getElem?_eq_some_iff.1 hx).1;have h1:decide ((i:Int)<xs.length)=true:=by simp[hlt]
  simp only[tx,h1,cond_true,aU,hx,hf x (List.mem_of_getElem? hx),Option.bind_some];rw[aF (by omega) (by omega)];cases p x<;>rfl) (by simp[tx]) (by omega)]
 rw[<-rq];cases e:cM (fun _ x=>p x) xs with
 | none =>
   have h:eX (fun _ x=>p x) xs=false:=cR.2 (eZ.1 e);rw[h];rfl
 | some q =>
   obtain⟨i,x⟩:=q;obtain⟨h1,h2,_⟩:=db.1 e;have h:eX (fun _ x=>p x) xs=true:=gR.2 ⟨i,x,h1,h2⟩;rw[h];simp
def iE(xs:List aq)(id:Int):Option (Nat×aq):=cM (fun _ x=>x.Id==id) xs
def fY(xs:List aq)(id:Int):Int:=match iE xs id with|some q=>(q.1:Int)|none=>-1
theorem SR(xs:List aq)(f:aq->Option Bool)(p:aq->Bool)(hf:∀x∈xs,f x=some (p x))(hl:xs.length<=1048576):vF xs f=some (match cM (fun _ x=>p x) xs with|some q=>(q.1:Int)|none=>-1):=by
 unfold vF;rw[cz (f:=tx xs f) xs (fun _ x=>p x) (fun i _=>(i:Int)) () (fun i x hx _=>by
  have hlt:=(List.getElem?_eq_some_iff.1 hx).1;have h1:decide ((i:Int)<xs.length)=true:=by simp[hlt]
  simp only[tx,h1,cond_true,aU,hx,hf x (List.mem_of_getElem? hx),Option.bind_some];rw[aF (by omega) (by omega)];cases p x<;>rfl) (by simp[tx]) (by omega)]
 cases cM (fun _ x=>p x) xs<;>rfl
theorem qC{n:af}(h:bR n=true){list:List aq}{i:Nat}(hprev:∀j y,j<i->list[j]?=some y->gU n list j y=false):∀o∈list.take i,jc n o:=by
 intro o ho;obtain⟨j,hj⟩:=List.getElem?_of_mem ho;rw[List.getElem?_take] at hj;split at hj
 ·rename_i hji;have:=hprev j o hji hj;unfold gU at this;simp only[Bool.or_eq_false_iff,Bool.not_eq_false'] at this;exact gY h this.1.1
 ·cases hj
theorem lN(p:aK)(hz:aW p.Network<=1048576)(hl:bb p.Lights<=1048576):zi p=some (io p):=by
 have hll:=ru hl;unfold zi io;rw[iA p.Network hz];simp only[Option.bind_some];rcases bt (bR p.Network) with hn|hn
 ·rw[hn];simp only[Bool.not_true,cond_false,Option.bind_some,Bool.true_and];by_cases h8:p.Lights.length<=12
  ·have e8:decide ((12:Int)<(p.Lights.length:Int))=false:=decide_eq_false (by omega);rw[e8,cond_false,decide_eq_true h8,Bool.true_and];rw[ee (f:=Cj p) p.Lights (gU p.Network p.Lights) (.inr false) (.inl ()) (fun i x hx hprev=>by
    have hlt:=(List.getElem?_eq_some_iff.1 hx).1;have h1:decide ((i:Int)<p.Lights.length)=true:=by simp[hlt]
    have w1:=wy hl (List.mem_of_getElem? hx);simp only[Cj,h1,cond_true,aU,hx,Option.bind_some,Cv p.Network x hn w1,Au p.Lights i (by omega)];unfold gU;rcases bt (ec p.Network x) with e|e
    ·have hin:=gY hn e;have hcf:tN (p.Lights.take i) (fun x0=>CF x0 x)=some ((p.Lights.take i).any fun o=>dd o.Route o.Block x.Route x.Block):=MX _ _ _ (fun o ho=>by
      unfold CF;rw[ti p.Network o x (qC hn hprev o ho) hin];rfl) (by simp;omega)
     rw[e];simp only[Bool.not_true,cond_false,Bool.false_or,hcf,Option.bind_some];rw[aF (n:=(i:Int)+1) (by omega) (by omega)];by_cases h0:0<i
     ·have e0:decide ((0:Int)<(i:Int))=true:=decide_eq_true (by omega);have ew:IntKind.wrap .i64 ((i:Int)-1)=((i-1:Nat):Int):=by rw[aF (by omega) (by omega)];omega
      have hg:p.Lights[i-1]?=some (p.Lights[i-1]'(by omega)):=List.getElem?_eq_getElem (by omega);rw[e0,cond_true,ew,aU,hg,decide_eq_true h0];simp only[Option.bind_some,Bool.true_and];cases decide (x.Id<=(p.Lights[i-1]'(by omega)).Id)<;>cases((p.Lights.take i).any fun o=>dd o.Route o.Block x.Route x.Block)<;>rfl
     ·have e0:decide ((0:Int)<(i:Int))=false:=decide_eq_false (by omega);rw[e0,cond_false,decide_eq_false h0];simp only[Bool.false_and,Bool.false_or];cases((p.Lights.take i).any fun o=>dd o.Route o.Block x.Route x.Block)<;>rfl
    ·rw[e];rfl) (by simp[Cj]) (by omega)]
   cases eX (gU p.Network p.Lights) p.Lights<;>rfl
  ·have e8:decide ((12:Int)<(p.Lights.length:Int))=true:=decide_eq_true (by omega);rw[e8,cond_true,decide_eq_false h8];rfl
 ·rw[hn];rfl
theorem vC(p:aK)(hz:aW p.Network<=1048576)(hl:bb p.Lights<=1048576):xZ p=some (io p):=by
 have hll:=ru hl;unfold xZ io;rw[qx p.Network hz];simp only[Option.bind_some];rcases bt (bR p.Network) with hn|hn
 ·rw[hn];simp only[Bool.not_true,cond_false,Option.bind_some,Bool.true_and];by_cases h8:p.Lights.length<=12
  ·have e8:decide ((12:Int)<(p.Lights.length:Int))=false:=decide_eq_false (by omega);rw[e8,cond_false,decide_eq_true h8,Bool.true_and];rw[ee (f:=Er p) p.Lights (gU p.Network p.Lights) (.inr false) (.inl ()) (fun i x hx hprev=>by
    have hlt:=(List.getElem?_eq_some_iff.1 hx).1;have h1:decide ((i:Int)<p.Lights.length)=true:=by simp[hlt]
    have w1:=wy hl (List.mem_of_getElem? hx);simp only[Er,h1,cond_true,aU,hx,Option.bind_some,BV p.Network x hn hz w1];rw[aF (n:=(i:Int)+1) (by omega) (by omega)];unfold gU;rcases bt (ec p.Network x) with e|e
    ·have hin:=gY hn e;have hcf:bz (M_r p (i:Int)) N0 0=some (if(p.Lights.take i).any (fun o=>dd o.Route o.Block x.Route x.Block) then .inr false else .inl ()):=by
      refine kD (f:=M_r p (i:Int)) (p.Lights.take i) (fun o=>dd o.Route o.Block x.Route x.Block) (.inr false) (.inl ()) (fun k o ho=>?_) ?_ (by simp;omega)
      ·have hin2:=qC hn hprev o (List.mem_of_getElem? ho);rw[List.getElem?_take] at ho;split at ho
       ·rename_i hki;have h1:decide ((k:Int)<(i:Int))=true:=decide_eq_true (by omega);simp only[M_r,h1,cond_true,aU,ho,hx,Option.bind_some,wl p.Network o x hin2 hin];rw[aF (by omega) (by omega)];cases dd o.Route o.Block x.Route x.Block<;>rfl
       ·cases ho
      ·have h1:decide ((((p.Lights.take i).length:Nat):Int)<(i:Int))=false:=decide_eq_false (by simp;omega);simp only[M_r,h1,cond_false]
     rw[e];simp only[Bool.not_true,cond_false,Bool.false_or,hcf,Option.bind_some];by_cases h0:0<i
     ·have e0:decide ((0:Int)<(i:Int))=true:=decide_eq_true (by omega);have ew:IntKind.wrap .i64 ((i:Int)-1)=((i-1:Nat):Int):=by rw[aF (by omega) (by omega)];omega
      have hg:p.Lights[i-1]?=some (p.Lights[i-1]'(by omega)):=List.getElem?_eq_getElem (by omega);rw[e0,cond_true,ew,aU,hg,decide_eq_true h0];simp only[Option.bind_some,Bool.true_and];cases decide (x.Id<=(p.Lights[i-1]'(by omega)).Id)<;>cases((p.Lights.take i).any fun o=>dd o.Route o.Block x.Route x.Block)<;>rfl
     ·have e0:decide ((0:Int)<(i:Int))=false:=decide_eq_false (by omega);rw[e0,cond_false,decide_eq_false h0];simp only[Option.bind_some,cond_false,Bool.false_and,Bool.false_or];cases((p.Lights.take i).any fun o=>dd o.Route o.Block x.Route x.Block)<;>rfl
    ·rw[e];rfl) (by simp[Er]) (by omega)]
   cases eX (gU p.Network p.Lights) p.Lights<;>rfl
  ·have e8:decide ((12:Int)<(p.Lights.length:Int))=true:=decide_eq_true (by omega);rw[e8,cond_true,decide_eq_false h8];rfl
 ·rw[hn];rfl
structure tn(p:aK):Prop where
 net:bR p.Network=true
 len:p.Lights.length<=12
 lgt:∀s∈p.Lights,jc p.Network s
 ok:∀s∈p.Lights,ec p.Network s=true
 asc:∀(i:Nat)(a b:aq),p.Lights[i]?=some a->p.Lights[i+1]?=some b->a.Id<b.Id
theorem nP{p:aK}(h:io p=true):tn p:=by
 unfold io at h;simp only[Bool.and_eq_true,decide_eq_true_eq,Bool.not_eq_true'] at h;obtain⟨⟨h1,h2⟩,h3⟩:=h;have key:∀s∈p.Lights,ec p.Network s=true:=fun s hs=>by
  obtain⟨i,hi⟩:=List.getElem?_of_mem hs;have:=cR.1 h3 i s hi;unfold gU at this;simp only[Bool.or_eq_false_iff,Bool.not_eq_false'] at this;exact this.1.1
 refine⟨h1,h2,fun s hs=>gY h1 (key s hs),key,fun i a b ha hb=>?_⟩;have:=cR.1 h3 (i+1) b hb;unfold gU at this;simp only[Nat.add_sub_cancel,ha,Bool.or_eq_false_iff,Bool.and_eq_false_iff,decide_eq_false_iff_not] at this;omega
theorem gM{n:af}{x:aq}(h:ec n x=true):∃l,ix n x.Route=some l:=by
 unfold ec at h;simp only[Bool.and_eq_true] at h;exact Option.isSome_iff_exists.1 h.1.2
end Vs

namespace Vs
open Go
theorem tI{n:af}{r:ar}{l:List Int}(h:bR n=true)(hr:r.Fibers.length<=1048576)(hl:ix n r=some l):xO n r=some (fu n r):=by
 have hb:=gv h;obtain⟨hi,hlen⟩:=uA h hl;have:=hi.len;unfold xO fu;rw[sO n r (by omega) (by omega) hr,hl];simp only[Option.bind_some];have e:IntKind.wrap .i64 ((l.length:Int)-1)=((l.length-1:Nat):Int):=by rw[aF (by omega) (by omega)];omega
 rw[e,bu (by omega)];simp only[Option.bind_some,Int.toNat_natCast];rw[pn (by omega)];rfl
def kt(r:aj)(x:aq):Bool:=match iE r.Home x.Id with
 |none=>true
 |some q=>!gJ x.Route.Fibers r.Down||(q.2.Route.Start !=x.Route.Start||(fu r.Plan.Network q.2.Route !=fu r.Plan.Network x.Route||q.2.Block.Count !=x.Block.Count))
def kE(r:aj):Bool:=(io r.Plan&&io ⟨r.Plan.Network,r.Home⟩&&qV r.Down r.Plan.Network.Fibers.length)&&!r.Plan.Lights.any fun x=>kt r x
theorem AD{r:aj}(h:aN r<=1048576):aW r.Plan.Network<=1048576/\bb r.Plan.Lights<=1048576/\bb r.Home<=1048576/\r.Down.length<=1048576:=by
 have e:aN r=aW r.Plan.Network+bb r.Plan.Lights+bb r.Home+r.Down.length:=by
  unfold aN cr cq;omega
 omega
theorem vS(r:aj)(id:Int)(hl:r.Home.length<=1048576):Fu r id=some (fY r.Home id):=by
 unfold Fu fY iE;rw[SR r.Home (fun x0=>Po x0 id) (fun x=>x.Id==id) (fun x _=>rfl) hl];rfl
theorem tm(xs:List aq)(id:Int)(hl:xs.length<=1048576):yB xs id=some (fY xs id):=by
 unfold yB fY iE;rw[cz (f:=FN xs id) xs (fun _ x=>x.Id==id) (fun i _=>(i:Int)) () (fun i x hx _=>by
  have hlt:=(List.getElem?_eq_some_iff.1 hx).1;have h1:decide ((i:Int)<xs.length)=true:=by simp[hlt]
  simp only[FN,h1,cond_true,aU,hx,Option.bind_some];rw[aF (by omega) (by omega)];cases x.Id==id<;>rfl) (by simp[FN]) (by omega)]
 cases cM (fun _(x:aq)=>x.Id==id) xs<;>rfl
theorem WJ(a b:Int):(a !=b)=(b !=a):=by
 rw[Bool.eq_iff_iff];simp only[bne_iff_ne];exact⟨Ne.symm,Ne.symm⟩
theorem oU{xs:List aq}{id:Int}{i:Nat}{y:aq}(h:iE xs id=some (i,y)):xs[i]?=some y/\y.Id=id:=by
 obtain⟨h1,h2,_⟩:=db.1 h;exact⟨h1,by simpa using h2⟩
theorem TT(r:aj)(x:aq)(hP:tn r.Plan)(hH:tn ⟨r.Plan.Network,r.Home⟩)(hD:r.Down.length<=1048576)(hx:ec r.Plan.Network x=true):Kb x r r.Plan.Network=some (kt r x):=by
 have h12:r.Home.length<=12:=hH.len;have hin:=gY hP.net hx;have w1:=hin.r.len;unfold Kb kt;obtain⟨a,a1,_,a3⟩:=ng x.Route.Fibers r.Down w1 hD;simp only[vS r x.Id (by omega),Option.bind_some,a1,yD a3];unfold fY;cases hf:iE r.Home x.Id with
 |none=>rfl
 | some q =>
   obtain⟨i,y⟩:=q;obtain⟨f1,f2⟩:=oU hf;have hy:ec r.Plan.Network y=true:=hH.ok y (List.mem_of_getElem? f1);obtain⟨lx,hlx⟩:=gM hx;obtain⟨ly,hly⟩:=gM hy;have w2:=(gY hP.net hy).r.len;have e0:decide ((i:Int)<0)=false:=decide_eq_false (by omega);simp only[e0,cond_false,Option.bind_some,aU,f1,tI hP.net (by omega) hlx,tI hP.net (by omega) hly];cases gJ x.Route.Fibers r.Down<;>cases y.Route.Start !=x.Route.Start<;>cases fu r.Plan.Network y.Route !=fu r.Plan.Network x.Route<;>rfl
theorem c3n(a b c:Bool):(cond (!a) (some true) (cond (!b) (some true) (some (!c))):Option Bool)=some (!(a&&b&&c)):=by
 cases a<;>cases b<;>cases c<;>rfl
theorem ki(r:aj)(hz:aN r<=1048576):HD r=some (kE r):=by
 obtain⟨z1,z2,z3,z4⟩:=AD hz;unfold HD kE;rw[lN r.Plan z1 z2];have e:zi (⟨(⟨r.Plan.Network.Nodes,r.Plan.Network.Fibers⟩:af),r.Home⟩:aK)=some (io ⟨r.Plan.Network,r.Home⟩):=lN ⟨r.Plan.Network,r.Home⟩ z1 z3;obtain⟨_,hF,_⟩:=px z1;rw[e,Rf r.Down r.Plan.Network.Fibers.length hF z4];simp only[Option.bind_some,c3n];rcases bt (io r.Plan&&io ⟨r.Plan.Network,r.Home⟩&&qV r.Down r.Plan.Network.Fibers.length) with e2|e2
 ·rw[e2];simp only[Bool.and_eq_true] at e2;have hP:=nP e2.1.1;have hH:=nP e2.1.2;have h12:=hP.len;rw[MX r.Plan.Lights _ (fun x=>kt r x) (fun x hx=>TT r x hP hH z4 (hP.ok x hx)) (by omega)];rfl
 ·rw[e2];rfl
theorem Fc(r:aj)(hz:aN r<=1048576):CQ r=some (kE r):=by
 obtain⟨z1,z2,z3,z4⟩:=AD hz;unfold CQ kE;rw[vC r.Plan z1 z2];have e:xZ (⟨(⟨r.Plan.Network.Nodes,r.Plan.Network.Fibers⟩:af),r.Home⟩:aK)=some (io ⟨r.Plan.Network,r.Home⟩):=vC ⟨r.Plan.Network,r.Home⟩ z1 z3;obtain⟨_,hF,_⟩:=px z1;rw[e,aF (by omega) (by omega),xq r.Down _ z4];simp only[Option.bind_some,c3n];rcases bt (io r.Plan&&io ⟨r.Plan.Network,r.Home⟩&&qV r.Down r.Plan.Network.Fibers.length) with e2|e2
 ·rw[e2];simp only[Bool.and_eq_true] at e2;have hP:=nP e2.1.1;have hH:=nP e2.1.2;have h12:=hP.len;have h12':r.Home.length<=12:=hH.len;simp only[Bool.not_true,cond_false];rw[kD (f:=FP r) r.Plan.Lights (fun x=>kt r x) (.inr false) (.inl ()) (fun i x hx=>by
   have hlt:=(List.getElem?_eq_some_iff.1 hx).1;have h1:decide ((i:Int)<r.Plan.Lights.length)=true:=by simp[hlt]
   have hxo:=hP.ok x (List.mem_of_getElem? hx);have hin:=gY hP.net hxo;have w1:=hin.r.len;simp only[FP,h1,cond_true,aU,hx,Option.bind_some,tm r.Home x.Id (by omega),mM x.Route r.Down (by omega) z4];rw[aF (n:=(i:Int)+1) (by omega) (by omega)];unfold fY kt;cases hf:iE r.Home x.Id with
   |none=>rfl
   | some q =>
     obtain⟨k,y⟩:=q;obtain⟨f1,f2⟩:=oU hf;have hy:ec r.Plan.Network y=true:=hH.ok y (List.mem_of_getElem? f1);obtain⟨lx,hlx⟩:=gM hxo;obtain⟨ly,hly⟩:=gM hy;have w2:=(gY hP.net hy).r.len;have e0:decide ((k:Int)<0)=false:=decide_eq_false (by omega);simp only[e0,cond_false,Option.bind_some,aU,f1,ue hP.net (by omega) hlx,ue hP.net (by omega) hly,WJ x.Route.Start,WJ (fu r.Plan.Network x.Route),WJ x.Block.Count];rcases bt (gJ x.Route.Fibers r.Down) with q1|q1<;>rcases bt (y.Route.Start !=x.Route.Start) with q2|q2<;>rcases bt (fu r.Plan.Network y.Route !=fu r.Plan.Network x.Route) with q3|q3<;>rcases bt (y.Block.Count !=x.Block.Count) with q4|q4<;>simp only[q1,q2,q3,q4]<;>rfl) (by simp[FP]) (by omega)]
  cases(r.Plan.Lights.any fun x=>kt r x)<;>rfl
 ·rw[e2];rfl
structure WU(r:aj):Prop where
 pl:tn r.Plan
 hm:tn ⟨r.Plan.Network,r.Home⟩
 dn:qV r.Down r.Plan.Network.Fibers.length=true
theorem tX{r:aj}(h:kE r=true):WU r:=by
 unfold kE at h;simp only[Bool.and_eq_true] at h;exact⟨nP h.1.1.1,nP h.1.1.2,h.1.2⟩
def wtB(r:aj)(x:aq):Bool:=decide (fY r.Plan.Lights x.Id<0)
def wtL(r:aj):List Int:=cm (fun(_:Nat)(x:aq)(a:List Int)=>(.inl (if wtB r x then a++[x.Id] else a):List Int⊕List Int)) (fun a=>a) 0 r.Home []
theorem EX(p:aK)(id:Int)(hl:p.Lights.length<=1048576):MO p id=some (fY p.Lights id):=by
 unfold MO fY iE;rw[SR p.Lights (fun x0=>Qg x0 id) (fun x=>x.Id==id) (fun x _=>rfl) hl];rfl
theorem NG(p:aK)(id:Int)(hl:p.Lights.length<=1048576):Eb p id=some (fY p.Lights id):=by
 unfold Eb fY iE;rw[cz (f:=Ey p id) p.Lights (fun _ x=>x.Id==id) (fun i _=>(i:Int)) () (fun i x hx _=>by
  have hlt:=(List.getElem?_eq_some_iff.1 hx).1;have h1:decide ((i:Int)<p.Lights.length)=true:=by simp[hlt]
  simp only[Ey,h1,cond_true,aU,hx,Option.bind_some];rw[aF (by omega) (by omega)];cases x.Id==id<;>rfl) (by simp[Ey]) (by omega)]
 cases cM (fun _(x:aq)=>x.Id==id) p.Lights<;>rfl
theorem Da(r:aj)(h1:r.Home.length<=12)(h2:r.Plan.Lights.length<=12):Oh r=some (wtL r):=by
 unfold Oh wtL;have:=ef (f:=EK r) r.Home (fun i(a:List Int)=>((i:Int),a)) (fun _ x a=>.inl (if wtB r x then a++[x.Id] else a)) (fun a=>a) (fun i a=>a.length<=i) (fun i a x hx hI=>by
  have hlt:=(List.getElem?_eq_some_iff.1 hx).1;have e1:decide ((i:Int)<r.Home.length)=true:=by simp[hlt]
  refine .inl ⟨_,rfl,by split<;>(try simp only[List.length_append,List.length_cons,List.length_nil])<;>omega,?_⟩;simp only[EK,e1,cond_true,aU,hx,Option.bind_some,EX r.Plan x.Id (by omega),bnd];rw[bu (by omega),aF (by omega) (by omega)];unfold wtB;cases decide (fY r.Plan.Lights x.Id<0)<;>rfl) (fun a _=>by simp[EK]) [] (Nat.le_refl 0) (by omega)
 have e0:((0:Nat):Int)=0:=rfl;simp only[e0] at this;rw[this];rfl
theorem uk{f:Int×List aq->Option ((Int×List aq)⊕List aq)}(xs:List aq)(hl:xs.length<=1048576)
 (h1:∀(i:Nat) x(a:List aq),xs[i]?=some x->a.length=i->f ((i:Int),a)=some (.inl (((i+1:Nat):Int),a++[x]))) (h2:∀a,f ((xs.length:Int),a)=some (.inr a)):bz f N0 (0,[])=some xs:=by
 have:=ef (f:=f) xs (fun i(a:List aq)=>((i:Int),a)) (fun _ x a=>.inl (a++[x])) (fun a=>a) (fun i a=>a.length=i) (fun i a x hx hI=>.inl ⟨_,rfl,by simp[hI],h1 i x a hx hI⟩) (fun a _=>h2 a) [] rfl (by omega);have e0:((0:Nat):Int)=0:=rfl;simp only[e0] at this;rw[this];have gen:∀(ys:List aq)(i:Nat)(a:List aq),cm (fun(_:Nat)(x:aq)(a:List aq)=>(.inl (a++[x]):List aq⊕List aq)) (fun a=>a) i ys a=a++ys:=by
  intro ys;induction ys with
  |nil=>intro i a;simp[cm]
  |cons y ys ih=>intro i a;simp only[cm];rw[ih];simp
 rw[gen];rfl
theorem mr(p:aK)(h1:aW p.Network<=1048576)(h2:bb p.Lights<=1048576):yl p=some p:=by
 obtain⟨a1,a2,_⟩:=px h1;have hl:=ru h2;unfold yl Qu;rw[bu (by omega),bu (by omega)];simp only[Option.bind_some];rw[uk (f:=EG p) p.Lights hl (fun i x a hx ha=>by
  have hlt:=(List.getElem?_eq_some_iff.1 hx).1;have e1:decide ((i:Int)<p.Lights.length)=true:=by simp[hlt]
  have hr:=wy h2 (List.mem_of_getElem? hx);simp only[EG,e1,cond_true,aU,hx,Option.bind_some,Cb,bnd];rw[bu (by omega)];simp only[Option.bind_some];rw[bu (by omega),aF (by omega) (by omega)];rfl) (fun a=>by simp[EG])]
 rfl
theorem nj(x:aq)(h:x.Route.Fibers.length<=1048576):tU x=some x:=by
 unfold tU Cp M_o;rw[bu (by omega)];rfl
theorem AC(p:aK)(h1:aW p.Network<=1048576)(h2:bb p.Lights<=1048576):xQ p=some p:=by
 obtain⟨a1,a2,_⟩:=px h1;have hl:=ru h2;unfold xQ Qe;rw[bu (by omega),bu (by omega)];simp only[Option.bind_some];rw[uk (f:=M_l p) p.Lights hl (fun i x a hx ha=>by
  have hlt:=(List.getElem?_eq_some_iff.1 hx).1;have e1:decide ((i:Int)<p.Lights.length)=true:=by simp[hlt]
  have hr:=wy h2 (List.mem_of_getElem? hx);simp only[M_l,e1,cond_true,aU,hx,Option.bind_some,nj x hr,bnd];rw[bu (by omega),aF (by omega) (by omega)];rfl) (fun a=>by simp[M_l])]
 rfl
theorem DC(xs:List aq)(h2:bb xs<=1048576):Ns xs=some xs:=by
 have hl:=ru h2;unfold Ns;rw[uk (f:=Cc xs) xs hl (fun i x a hx ha=>by
  have hlt:=(List.getElem?_eq_some_iff.1 hx).1;have e1:decide ((i:Int)<xs.length)=true:=by simp[hlt]
  have hr:=wy h2 (List.mem_of_getElem? hx);simp only[Cc,e1,cond_true,aU,hx,Option.bind_some,nj x hr,bnd];rw[bu (by omega),aF (by omega) (by omega)];rfl) (fun a=>by simp[Cc])]
 rfl
theorem mL(r:aj)(h1:aW r.Plan.Network<=1048576)(h2:bb r.Plan.Lights<=1048576)(h3:bb r.Home<=1048576)(h4:r.Down.length<=1048576):LK r=some r:=by
 unfold LK PL;rw[mr r.Plan h1 h2,mr ⟨⟨[],[]⟩,r.Home⟩ (by show aW ⟨[],[]⟩<=1048576;decide) h3,bu (by omega)];rfl
def QL:aj:=⟨⟨⟨[],[]⟩,[]⟩,[],[]⟩
theorem za{α:Type}(g:α->Nat)(c:Nat):∀(xs:List α),(∀x∈xs,g x<=c)->(xs.map g).sum<=xs.length*c
 |[],_=>by simp
 | x :: xs, h => by
   have h1:=h x (by simp);have h2:=za g c xs fun y hy=>h y (List.mem_cons_of_mem _ hy);simp only[List.map_cons,List.sum_cons,List.length_cons,Nat.succ_mul];omega
theorem jk{n:af}(h:bR n=true):aW n<=200:=by
 have hb:=gv h;unfold bR at h;simp only[Bool.and_eq_true,Bool.not_eq_true'] at h;have hn:=cR.1 h.1.1.1;have:(n.Nodes.map fun x=>x.size).sum<=n.Nodes.length*8:=za _ 8 _ fun x hx=>by
  obtain⟨i,hi⟩:=List.getElem?_of_mem hx;have:=hn i x hi;unfold ic at this;simp only[Bool.or_eq_false_iff,Bool.not_eq_false'] at this;have h2:=this.1;unfold nU at h2;simp only[Bool.and_eq_true,cg] at h2;omega
 unfold aW bC bQ;omega
theorem iq{n:af}{xs:List aq}(hl:xs.length<=12)(h:∀x∈xs,jc n x):bb xs<=200:=by
 have:(xs.map fun x=>ck x).sum<=xs.length*12:=za _ 12 _ fun x hx=>(h x hx).r.len;unfold bb;omega
end Vs

namespace Vs
open Go
def IsN(z:Int):Prop:=∃m:Nat,z=(m:Int)/\m<2^62
theorem isN0:IsN 0:=⟨0,rfl,by decide⟩
theorem uR{b:bc}(h:kf b):IsN (dE b):=by
 obtain⟨⟨f1,f2⟩,c1,c2⟩:=h;have hc:(2:Nat)^b.Count.toNat<=2^24:=Nat.pow_le_pow_right (by omega) (by omega);have hf:(2:Nat)^b.First.toNat<=2^24:=Nat.pow_le_pow_right (by omega) (by omega);have hc1:1<=(2:Nat)^b.Count.toNat:=Nat.one_le_two_pow;have e1:IntKind.wrap .i64 (1*2^(min (Int.toNat b.Count) (IntKind.bits .i64)))=((2^b.Count.toNat:Nat):Int):=by
  have e:min b.Count.toNat (IntKind.bits .i64)=b.Count.toNat:=by show min _ 64=_;omega
  rw[e,Int.one_mul,show(2:Int)^b.Count.toNat=((2^b.Count.toNat:Nat):Int) by rw[Int.natCast_pow];rfl,aF (by omega) (by omega)]
 have e2:min b.First.toNat (IntKind.bits .i64)=b.First.toNat:=by show min _ 64=_;omega
 have e3:((((2:Nat)^b.Count.toNat:Nat):Int)-1)*2^b.First.toNat=(((2^b.Count.toNat-1)*2^b.First.toNat:Nat):Int):=by
  rw[Int.natCast_mul,Int.natCast_sub hc1,Int.natCast_pow 2 b.First.toNat];rfl
 have hm:(2^b.Count.toNat-1)*2^b.First.toNat<=2^24*2^24:=Nat.mul_le_mul (by omega) hf;refine⟨(2^b.Count.toNat-1)*2^b.First.toNat,?_,by omega⟩;unfold dE;rw[e1,aF (n:=(((2:Nat)^b.Count.toNat:Nat):Int)-1) (by omega) (by omega),e2,e3,aF (by omega) (by omega)]
theorem ud(a:Nat):BitVec.ofInt 64 (a:Int)=BitVec.ofNat 64 a:=by
 apply BitVec.eq_of_toNat_eq;simp[BitVec.toNat_ofInt]
theorem Wu(a b:Nat)(ha:a<2^62)(hb:b<2^62):bits .or .i64 (a:Int) (b:Int)=((a ||| b:Nat):Int):=by
 have h:=Nat.or_lt_two_pow ha hb;unfold bits;show IntKind.wrap .i64 (((BitVec.ofInt 64 (a:Int) ||| BitVec.ofInt 64 (b:Int)).toNat:Nat):Int)=_;rw[ud,ud,BitVec.toNat_or,BitVec.toNat_ofNat,BitVec.toNat_ofNat,Nat.mod_eq_of_lt (by omega),Nat.mod_eq_of_lt (by omega),aF (by omega) (by omega)]
theorem Nx(a b:Nat)(ha:a<2^62)(hb:b<2^62):bits .and .i64 (a:Int) (b:Int)=((a &&& b:Nat):Int):=by
 have h:a &&& b<=a:=Nat.and_le_left;unfold bits;show IntKind.wrap .i64 (((BitVec.ofInt 64 (a:Int) &&& BitVec.ofInt 64 (b:Int)).toNat:Nat):Int)=_;rw[ud,ud,BitVec.toNat_and,BitVec.toNat_ofNat,BitVec.toNat_ofNat,Nat.mod_eq_of_lt (by omega),Nat.mod_eq_of_lt (by omega),aF (by omega) (by omega)]
theorem or_N{a b:Int}(ha:IsN a)(hb:IsN b):IsN (bits .or .i64 a b):=by
 obtain⟨m,rfl,hm⟩:=ha;obtain⟨k,rfl,hk⟩:=hb;exact⟨m ||| k,Wu m k hm hk,Nat.or_lt_two_pow hm hk⟩
theorem Pp{a b c:Int}(ha:IsN a)(hb:IsN b)(hc:IsN c):bits .and .i64 (bits .or .i64 a b) c=0↔bits .and .i64 a c=0/\bits .and .i64 b c=0:=by
 obtain⟨m,rfl,hm⟩:=ha;obtain⟨k,rfl,hk⟩:=hb;obtain⟨j,rfl,hj⟩:=hc;rw[Wu m k hm hk,Nx _ j (Nat.or_lt_two_pow hm hk) hj,Nx m j hm hj,Nx k j hk hj,Nat.and_or_distrib_right];have:(m &&& j) ||| (k &&& j)=0↔(m &&& j)=0/\(k &&& j)=0:=Nat.or_eq_zero_iff;omega
theorem oQ{α:Type}(g:α->Int)(p:α->Bool){c:Int}(hc:IsN c):∀(xs:List α)(k:Nat)(a:Int),IsN a->(∀x∈xs,p x=true->IsN (g x))->
 IsN (da (fun _ x(a:Int)=>if p x then bits .or .i64 a (g x) else a) k xs a)/\(bits .and .i64 (da (fun _ x(a:Int)=>if p x then bits .or .i64 a (g x) else a) k xs a) c=0↔bits .and .i64 a c=0/\∀x∈xs,p x=true->bits .and .i64 (g x) c=0)
 |[],_,a,ha,_=>⟨ha,by simp[da]⟩
 | x :: xs, k, a, ha, hg => by
   simp only[da];rcases bt (p x) with e|e
   ·have hx:=hg x (by simp) e;obtain⟨h1,h2⟩:=oQ g p hc xs (k+1) _ (or_N ha hx) fun y hy=>hg y (by simp[hy]);rw[if_pos e];refine⟨h1,?_⟩;rw[h2,Pp ha hx hc];simp only[List.mem_cons,forall_eq_or_imp,e,true_imp_iff];exact⟨fun⟨⟨q1,q2⟩,q3⟩=>⟨q1,q2,q3⟩,fun⟨q1,q2,q3⟩=>⟨⟨q1,q2⟩,q3⟩⟩
   ·obtain⟨h1,h2⟩:=oQ g p hc xs (k+1) a ha fun y hy=>hg y (by simp[hy]);rw[if_neg (by rw[e];simp)];refine⟨h1,?_⟩;rw[h2];simp[e]
def oe(L:List aq)(f:Int):Int:=da (fun _(o:aq)(a:Int)=>if(o.Route.Fibers.any fun y=>y==f) then bits .or .i64 a (dE o.Block) else a) 0 L 0
def iU(L:List aq)(fs:List Int):Int:=da (fun _(f:Int)(a:Int)=>if true then bits .or .i64 a (oe L f) else a) 0 fs 0
def nL(n:af)(L:List aq):Prop:=L.length<=12/\∀o∈L,jc n o
theorem Fz{n:af}{L:List aq}(hL:nL n L){y:aq}(hy:jc n y):(bits .and .i64 (iU L y.Route.Fibers) (dE y.Block)==0)=!(L.any fun o=>dd o.Route o.Block y.Route y.Block):=by
 have hc:=uR hy.b;have h1:=fun f=>oQ (fun o:aq=>dE o.Block) (fun o:aq=>o.Route.Fibers.any fun y=>y==f) hc L 0 0 isN0 fun o ho _=>uR (hL.2 o ho).b;have h2:=(oQ (oe L) (fun _=>true) hc y.Route.Fibers 0 0 isN0 fun f _ _=>(h1 f).1).2;have e0:bits .and .i64 0 (dE y.Block)=0:=and0 _;have key:bits .and .i64 (iU L y.Route.Fibers) (dE y.Block)=0↔∀f∈y.Route.Fibers,∀o∈L,(o.Route.Fibers.any fun z=>z==f)=true->bits .and .i64 (dE o.Block) (dE y.Block)=0:=by
  show bits .and .i64 (da _ _ _ _) _=0↔_;rw[h2];constructor
  ·rintro⟨_,h⟩ f hf o ho hof;exact((h1 f).2.1 (h f hf rfl)).2 o ho hof
  ·intro h;exact⟨e0,fun f hf _=>(h1 f).2.2 ⟨e0,fun o ho hof=>h f hf o ho hof⟩⟩
 rw[Bool.eq_iff_iff,beq_iff_eq,key,Bool.not_eq_true',List.any_eq_false];constructor
 ·intro h o ho;unfold dd gJ;simp only[Bool.not_not,Bool.and_eq_true,bne_iff_ne,List.any_eq_true,decide_eq_true_eq,not_and,not_exists];rintro hne z hz hzy;exact hne (h z hzy o ho (List.any_eq_true.2 ⟨z,hz,by simp⟩))
 ·intro h f hf o ho hof;have:=h o ho;unfold dd gJ at this;simp only[Bool.not_not,Bool.and_eq_true,bne_iff_ne,List.any_eq_true,decide_eq_true_eq,not_and,not_exists] at this;obtain⟨z,hz,e⟩:=List.any_eq_true.1 hof;rw[beq_iff_eq] at e;subst e;exact Classical.byContradiction fun hne=>this hne z hz hf
theorem JS{n:af}{p:aK}(hL:nL n p.Lights)(f:Int):Ho p f=some (oe p.Lights f):=by
 unfold Ho;have:bz (M_e p f) N0 (0,0)=some (oe p.Lights f):=by
  refine eY (f:=M_e p f) p.Lights (fun i(a:Int)=>(a,(i:Int))) _ id (fun _ _=>True) (fun i a x hx _=>?_) (fun a _=>by simp[M_e]) 0 trivial (by have:=hL.1;omega);have hlt:=(List.getElem?_eq_some_iff.1 hx).1;have hin:=hL.2 x (List.mem_of_getElem? hx);have:=hL.1;refine⟨trivial,?_⟩;simp only[M_e,decide_eq_true (show(i:Int)<(p.Lights.length:Int) by omega),cond_true,aU,hx,Option.bind_some,oY x.Route.Fibers f (by have:=hin.r.len;omega)];rw[aF (n:=(i:Int)+1) (by omega) (by omega)];rcases bt (x.Route.Fibers.any fun y=>y==f) with e|e
  ·rw[e,cond_true,kc hin.b];rfl
  ·rw[e];rfl
 rw[this];rfl
theorem sV{n:af}{p:aK}(hL:nL n p.Lights)(r:ar)(hr:r.Fibers.length<=12):zZ p r=some (iU p.Lights r.Fibers):=by
 unfold zZ;have:bz (Ag p r) N0 (0,0)=some (iU p.Lights r.Fibers):=by
  refine eY (f:=Ag p r) r.Fibers (fun i(a:Int)=>(a,(i:Int))) _ id (fun _ _=>True) (fun i a x hx _=>?_) (fun a _=>by simp[Ag]) 0 trivial (by omega);have hlt:=(List.getElem?_eq_some_iff.1 hx).1;refine⟨trivial,?_⟩;simp only[Ag,decide_eq_true (show(i:Int)<(r.Fibers.length:Int) by omega),cond_true,aU,hx,Option.bind_some,JS hL x];rw[aF (n:=(i:Int)+1) (by omega) (by omega)];rfl
 rw[this];rfl
def OT(L:List aq)(y:aq):Bool:=L.any fun o=>o.Id !=y.Id&&dd o.Route o.Block y.Route y.Block
theorem Om{n:af}(r:aj)(hL:nL n r.Plan.Lights)(y:aq)(hy:jc n y)(hD:r.Down.length<=1048576):Ln r y=some (gJ y.Route.Fibers r.Down&&!OT r.Plan.Lights y):=by
 unfold Ln OT;obtain⟨a,a1,_,a3⟩:=ng y.Route.Fibers r.Down hy.r.len hD;have h12:=hL.1;simp only[a1,Option.bind_some,Ao a3];rw[MX r.Plan.Lights _ (fun o=>o.Id !=y.Id&&dd o.Route o.Block y.Route y.Block) (fun o ho=>by
  unfold QY;cases o.Id !=y.Id
  ·rfl
  ·simp only[cond_true,ti n o y (hL.2 o ho) hy,Option.bind_some,Bool.true_and]) (by omega)]
 cases gJ y.Route.Fibers r.Down<;>rfl
end Vs

namespace Vs
open Go
theorem eO{n:af}(h:bR n=true):2<=n.Nodes.length/\n.Nodes.length<=8/\n.Fibers.length<=14:=by
 unfold bR at h;simp only[Bool.and_eq_true,decide_eq_true_eq,cg] at h;omega
theorem qY{n:af}(h:bR n=true){i:Nat}{f:ay}(hf:n.Fibers[i]?=some f):wF n.Nodes.length f:=by
 unfold bR at h;simp only[Bool.and_eq_true,Bool.not_eq_true'] at h;have:=cR.1 h.1.1.2 i f hf;unfold iw at this;simp only[Bool.or_eq_false_iff] at this;exact oS this.1
end Vs

namespace Vs
open Go
def rD(n:af)(y:Int):Int:=match n.Fibers[y.toNat]? with|some f=>f.Length|none=>0
def fw(n:af)(r:ar):Int:=da (fun _ y s=>IntKind.wrap .i64 (s+rD n y)) 0 r.Fibers 0
def RtB(n:af)(r:ar):Prop:=r.Fibers.length<=20/\(∀e∈r.Fibers,0<=e/\e<n.Fibers.length)/\0<=r.Start/\r.Start<8
theorem ko{n:af}{r:ar}(h:RtB n r):DE n r=some (fw n r):=by
 have h1:=h.1;unfold DE fw;have:=eY (f:=EI n r) r.Fibers (fun i(s:Int)=>(s,(i:Int))) (fun _ y s=>IntKind.wrap .i64 (s+rD n y)) id (fun _ _=>True) (fun i s y hy _=>by
  have hlt:=(List.getElem?_eq_some_iff.1 hy).1;have e1:decide ((i:Int)<r.Fibers.length)=true:=by simp[hlt]
  obtain⟨g1,g2⟩:=h.2.1 y (List.mem_of_getElem? hy);have hf:bS n.Fibers y=n.Fibers[y.toNat]?:=by unfold bS;rw[if_pos g1]
  have hs:n.Fibers[y.toNat]?=some (n.Fibers[y.toNat]'(by omega)):=List.getElem?_eq_getElem _;refine⟨trivial,?_⟩;simp only[EI,e1,cond_true,aU,hy,Option.bind_some,hf,rD];rw[hs];simp only[Option.bind_some];rw[aF (n:=(i:Int)+1) (by omega) (by omega)];rfl) (fun s _=>by simp[EI]) 0 trivial (by omega)
 have e0:((0:Nat):Int)=0:=rfl;simp only[e0] at this;rw[this];rfl
theorem rh{n:af}{r:ar}(h:RtB n r):Nh n r=some (fw n r):=ko h
theorem AU{n:af}(hn:bR n=true){r:ar}(h:RtB n r):0<=fw n r/\fw n r<=100000:=by
 have gen:∀(ys:List Int)(i:Nat)(s:Int),(∀e∈ys,0<=e/\e<n.Fibers.length)->i+ys.length<=20->0<=s->s<=5000*i->0<=da (fun _ y s=>IntKind.wrap .i64 (s+rD n y)) i ys s/\da (fun _ y s=>IntKind.wrap .i64 (s+rD n y)) i ys s<=5000*(i+ys.length:Nat):=by
  intro ys;induction ys with
  |nil=>intro i s _ _ h1 h2;exact⟨h1,by simpa[da] using h2⟩
  | cons y ys ih =>
    intro i s hy hi h1 h2;simp only[List.length_cons] at hi;obtain⟨g1,g2⟩:=hy y (by simp);have hs:n.Fibers[y.toNat]?=some (n.Fibers[y.toNat]'(by omega)):=List.getElem?_eq_getElem _;obtain⟨_,_,_,f4,f5,_⟩:=qY hn hs;have hf:rD n y=(n.Fibers[y.toNat]'(by omega)).Length:=by unfold rD;rw[hs]
    have hw:IntKind.wrap .i64 (s+rD n y)=s+rD n y:=aF (by omega) (by omega);simp only[da];rw[hw];have:=ih (i+1) (s+rD n y) (fun e he=>hy e (by simp[he])) (by omega) (by omega) (by omega);refine⟨this.1,?_⟩;have h3:=this.2;simp only[List.length_cons];omega
 have h1:=h.1;have:=gen r.Fibers 0 0 h.2.1 (by omega) (by omega) (by omega);unfold fw;omega
theorem Xc(a b c d:Int):xY [a,b,c,d]=some (if a≠0 then a else if b≠0 then b else if c≠0 then c else d):=by
 unfold xY;have key:=cz (f:=M_q [a,b,c,d]) [a,b,c,d] (fun _ x=>x !=0) (fun _ x=>x) () (fun i x hx _=>by
  have hlt:=(List.getElem?_eq_some_iff.1 hx).1;have h1:decide ((i:Int)<([a,b,c,d].length:Nat))=true:=decide_eq_true (by omega);simp only[List.length_cons,List.length_nil] at hlt;simp only[M_q,h1,cond_true,aU,hx,Option.bind_some];rw[aF (by omega) (by omega)];cases x !=0<;>rfl) (by simp[M_q]) (by simp)
 rw[key];unfold cM;simp only[List.zipIdx_cons,List.zipIdx_nil,List.find?_cons,List.find?_nil];by_cases h1:a=0
 ·by_cases h2:b=0
  ·by_cases h3:c=0
   ·by_cases h4:d=0
    ·simp[h1,h2,h3,h4]
    ·have:(d !=0)=true:=bne_iff_ne.2 h4;simp[h1,h2,h3,this]
   ·have:(c !=0)=true:=bne_iff_ne.2 h3;simp[h1,h2,h3,this]
  ·have:(b !=0)=true:=bne_iff_ne.2 h2;simp[h1,h2,this]
 ·have:(a !=0)=true:=bne_iff_ne.2 h1;simp[h1,this]
def ri(b:List Int)(i:Nat)(x:Int):Int:=match b[i]? with|some y=>dB x y|none=>1
def hM(a b:List Int):Int:=match cM (fun i x=>b[i]? !=some x) a with
 |some q=>ri b q.1 q.2
 |none=>if a.length<b.length then -1 else 0
theorem yS(a b:List Int)(hl:a.length<=1048576):Ge a b=some (hM a b):=by
 unfold Ge;rw[cz (f:=M_t a b) a (fun i x=>b[i]? !=some x) (fun i x=>ri b i x) () (fun i x hx _=>by
  have hlt:=(List.getElem?_eq_some_iff.1 hx).1;have h3:decide ((i:Int)<a.length)=true:=by simp[hlt]
  simp only[M_t,h3,cond_true,aU,hx,Option.bind_some,ri];by_cases hb:b.length<=i
  ·have h4:decide ((b.length:Int)<=(i:Int))=true:=by simp;omega
   have h5:b[i]?=none:=List.getElem?_eq_none (by omega);rw[h4,h5];rfl
  ·have h4:decide ((b.length:Int)<=(i:Int))=false:=by simp;omega
   have h5:b[i]?=some (b[i]'(by omega)):=List.getElem?_eq_getElem _;simp only[h4,cond_false,h5,Option.bind_some,JJ];rw[aF (by omega) (by omega)];by_cases e:x=b[i]'(by omega)
   ·have e1:(dB x (b[i]'(by omega)) !=0)=false:=by rw[cB.2 e];rfl
    have e2:(some (b[i]'(by omega)) !=some x)=false:=by rw[<-e];simp
    rw[e1,e2];rfl
   ·have e1:(dB x (b[i]'(by omega)) !=0)=true:=bne_iff_ne.2 fun e'=>e (cB.1 e');have e2:(some (b[i]'(by omega)) !=some x)=true:=bne_iff_ne.2 fun e'=>e (Option.some.inj e').symm;rw[e1,e2];rfl) (by simp[M_t]) (by omega)]
 unfold hM;cases hf:cM (fun i x=>b[i]? !=some x) a with
 | none =>
   simp only[Option.bind_some];by_cases h:a.length<b.length
   ·have e:decide ((a.length:Int)<(b.length:Int))=true:=by simp[h]
    simp[e,h]
   ·have e:decide ((a.length:Int)<(b.length:Int))=false:=by simp;omega
    rw[e,if_neg h];rfl
 |some q=>rfl
def fy(n:af)(a b:ar):Int:=if fw n a≠fw n b then dB (fw n a) (fw n b) else if a.Fibers.length≠b.Fibers.length then dB a.Fibers.length b.Fibers.length else
 if hM a.Fibers b.Fibers≠0 then hM a.Fibers b.Fibers else dB a.Start b.Start
theorem oE{n:af}{a b:ar}(ha:RtB n a)(hb:RtB n b):Mq n a b=some (fy n a b):=by
 have h1:=ha.1;unfold Mq;rw[rh ha,Option.bind_some,rh hb,Option.bind_some];simp only[JJ,Option.bind_some,yS a.Fibers b.Fibers (by omega),bnd,Xc];unfold fy;simp only[ne_eq,cB,Int.natCast_inj]
theorem wm(x:Int):vq x=some (dB x 0):=by
 unfold vq dB;by_cases h1:x<0
 ·simp[h1]
 ·by_cases h2:0<x<;>simp[h1,h2]
theorem mY(x y:Int):dB (x-y) 0=dB x y:=by
 unfold dB;by_cases h1:x<y
 ·rw[if_pos (by omega),if_pos h1]
 ·by_cases h2:y<x
  ·rw[if_neg (by omega),if_pos (by omega),if_neg h1,if_pos h2]
  ·rw[if_neg (by omega),if_neg (by omega),if_neg h1,if_neg h2]
theorem AK(x y:Int):(x-y !=0)=decide (x≠y):=by
 by_cases h:x=y
 ·subst h;simp
 ·have:(x-y !=0)=true:=bne_iff_ne.2 (by omega);rw[this,decide_eq_true h]
theorem wY{n:af}(hn:bR n=true){a b:ar}(ha:RtB n a)(hb:RtB n b):DY n a b=some (fy n a b):=by
 obtain⟨b1,b2,b3⟩:=eO hn;have hla:=AU hn ha;have hlb:=AU hn hb;have h1:=ha.1;have h2:=hb.1;obtain⟨s1,s2⟩:=ha.2.2;obtain⟨s3,s4⟩:=hb.2.2;unfold DY fy;rw[ko ha,Option.bind_some,ko hb,Option.bind_some];simp only[wm,Option.bind_some];rw[aF (n:=fw n a-fw n b) (by omega) (by omega),aF (n:=(a.Fibers.length:Int)-(b.Fibers.length:Int)) (by omega) (by omega),aF (n:=a.Start-b.Start) (by omega) (by omega),AK,AK,mY,mY,mY];by_cases e1:fw n a=fw n b
 ·rw[if_neg (by simpa using e1),decide_eq_false (by simpa using e1),cond_false];by_cases e2:a.Fibers.length=b.Fibers.length
  ·rw[if_neg (by simpa using e2),decide_eq_false (by simp[e2]),cond_false];rw[cz (f:=EP a b) a.Fibers (fun i x=>b.Fibers[i]? !=some x) (fun i x=>ri b.Fibers i x) () (fun i x hx _=>by
    have hlt:=(List.getElem?_eq_some_iff.1 hx).1;have h3:decide ((i:Int)<a.Fibers.length)=true:=by simp[hlt]
    have h5:b.Fibers[i]?=some (b.Fibers[i]'(by omega)):=List.getElem?_eq_getElem _;obtain⟨x1,x2⟩:=ha.2.1 x (List.mem_of_getElem? hx);obtain⟨y1,y2⟩:=hb.2.1 _ (List.mem_of_getElem? h5);simp only[EP,h3,cond_true,aU,hx,Option.bind_some,ri,h5,wm];rw[aF (n:=(i:Int)+1) (by omega) (by omega),aF (n:=x-b.Fibers[i]'(by omega)) (by omega) (by omega),mY];by_cases e:x=b.Fibers[i]'(by omega)
    ·have e3:(x !=b.Fibers[i]'(by omega))=false:=by rw[<-e];simp
     have e4:(some (b.Fibers[i]'(by omega)) !=some x)=false:=by rw[<-e];simp
     rw[e3,e4];rfl
    ·have e3:(x !=b.Fibers[i]'(by omega))=true:=bne_iff_ne.2 e;have e4:(some (b.Fibers[i]'(by omega)) !=some x)=true:=bne_iff_ne.2 fun e'=>e (Option.some.inj e').symm;rw[e3,e4];rfl) (by simp[EP]) (by omega)]
   unfold hM;cases hf:cM (fun i x=>b.Fibers[i]? !=some x) a.Fibers with
   | none =>
     simp only[Option.bind_some];rw[if_neg (show¬a.Fibers.length<b.Fibers.length by omega),if_neg (by simp)]
   | some q =>
     obtain⟨g1,g2,_⟩:=db.1 (show cM (fun i x=>b.Fibers[i]? !=some x) a.Fibers=some (q.1,q.2) from hf);have hlt:=(List.getElem?_eq_some_iff.1 g1).1;have h5:b.Fibers[q.1]?=some (b.Fibers[q.1]'(by omega)):=List.getElem?_eq_getElem _;have hz:ri b.Fibers q.1 q.2≠0:=by
      unfold ri;rw[h5] at g2⊢;exact fun e=>bne_iff_ne.1 g2 (by rw[cB.1 e])
     simp only[Option.bind_some];rw[if_pos hz]
  ·rw[if_pos (by simpa using e2),decide_eq_true (by simp;omega),cond_true]
 ·rw[if_pos (by simpa using e1),decide_eq_true (by simpa using e1),cond_true]
theorem mJ(x y:Int):dB y x=- dB x y:=by
 unfold dB;by_cases h1:x<y
 ·rw[if_neg (show¬y<x by omega),if_pos h1,if_pos h1];rfl
 ·by_cases h2:y<x
  ·rw[if_pos h2,if_neg h1,if_pos h2]
  ·rw[if_neg h2,if_neg h1,if_neg h1,if_neg h2];rfl
theorem NU{a b:List Int}(h:a.length=b.length):hM b a=- hM a b:=by
 have key:∀{a b:List Int}{i:Nat}{x:Int},a.length=b.length->cM (fun i x=>b[i]? !=some x) a=some (i,x)->∃y,cM (fun i x=>a[i]? !=some x) b=some (i,y)/\a[i]?=some x/\b[i]?=some y:=by
  intro a b i x h hf;obtain⟨g1,g2,g3⟩:=db.1 hf;have hlt:=(List.getElem?_eq_some_iff.1 g1).1;have h5:b[i]?=some (b[i]'(by omega)):=List.getElem?_eq_getElem _;refine⟨b[i]'(by omega),db.2 ⟨h5,?_,fun j y hj hy=>?_⟩,g1,h5⟩
  ·rw[g1];rw[h5] at g2;exact bne_iff_ne.2 fun e=>bne_iff_ne.1 g2 e.symm
  ·have hlj:a[j]?=some (a[j]'(by omega)):=List.getElem?_eq_getElem _;have:=g3 j _ hj hlj;rw[hlj];rw[hy] at this;simp only[bne_eq_false_iff_eq] at this⊢;exact this.symm
 unfold hM;cases hf:cM (fun i x=>b[i]? !=some x) a with
 | some q =>
   obtain⟨y,h1,h2,h3⟩:=key h (show cM (fun i x=>b[i]? !=some x) a=some (q.1,q.2) from hf);rw[h1];simp only[ri,h2,h3];exact mJ _ _
 | none =>
   cases hg:cM (fun i x=>a[i]? !=some x) b with
   | some q =>
     obtain⟨y,h1,_⟩:=key h.symm (show cM (fun i x=>a[i]? !=some x) b=some (q.1,q.2) from hg);rw[hf] at h1;cases h1
   | none =>
     simp only;rw[if_neg (by omega),if_neg (by omega)];rfl
theorem iC(n:af)(a b:ar):fy n b a=- fy n a b:=by
 unfold fy;by_cases e1:fw n a=fw n b
 ·rw[if_neg (show¬fw n b≠fw n a from fun h=>h e1.symm),if_neg (show¬fw n a≠fw n b from fun h=>h e1)];by_cases e2:a.Fibers.length=b.Fibers.length
  ·rw[if_neg (show¬b.Fibers.length≠a.Fibers.length from fun h=>h e2.symm),if_neg (show¬a.Fibers.length≠b.Fibers.length from fun h=>h e2),NU e2];by_cases e3:hM a.Fibers b.Fibers=0
   ·rw[if_neg (show¬ -hM a.Fibers b.Fibers≠0 by omega),if_neg (show¬hM a.Fibers b.Fibers≠0 from fun h=>h e3)];exact mJ _ _
   ·rw[if_pos (show -hM a.Fibers b.Fibers≠0 by omega),if_pos e3]
  ·rw[if_pos (show b.Fibers.length≠a.Fibers.length from fun e=>e2 e.symm),if_pos e2];exact mJ _ _
 ·rw[if_pos (show fw n b≠fw n a from fun e=>e1 e.symm),if_pos e1];exact mJ _ _
theorem sq{n:af}{a b:ar}(h:fy n a b=0):a=b:=by
 unfold fy at h;by_cases e1:fw n a=fw n b
 ·rw[if_neg (by simp[e1])] at h;by_cases e2:a.Fibers.length=b.Fibers.length
  ·rw[if_neg (by simp[e2])] at h;by_cases e3:hM a.Fibers b.Fibers=0
   ·rw[if_neg (by simp[e3])] at h;have hs:=cB.1 h;have hf:a.Fibers=b.Fibers:=by
     unfold hM at e3;cases hf:cM (fun i x=>b.Fibers[i]? !=some x) a.Fibers with
     | none =>
       have:=eZ.1 hf;apply List.ext_getElem?;intro i;rcases Nat.lt_or_ge i a.Fibers.length with hi|hi
       ·have:=this i _ (List.getElem?_eq_getElem hi);simp only[bne_eq_false_iff_eq] at this;rw[this,List.getElem?_eq_getElem hi]
       ·rw[List.getElem?_eq_none hi,List.getElem?_eq_none (by omega)]
     | some q =>
       rw[hf] at e3;obtain⟨g1,g2,_⟩:=db.1 (show cM (fun i x=>b.Fibers[i]? !=some x) a.Fibers=some (q.1,q.2) from hf);have hlt:=(List.getElem?_eq_some_iff.1 g1).1;have h5:b.Fibers[q.1]?=some (b.Fibers[q.1]'(by omega)):=List.getElem?_eq_getElem _;exfalso;simp only[ri,h5] at e3;rw[h5] at g2;exact bne_iff_ne.1 g2 (by rw[cB.1 e3])
    cases a;cases b;simp only at hs hf;rw[hs,hf]
   ·rw[if_pos e3] at h;exact absurd h e3
  ·rw[if_pos e2] at h;have:=cB.1 h;omega
 ·rw[if_pos e1] at h;exact absurd (cB.1 h) e1
end Vs

namespace Vs
open Go
theorem nf{α:Type}(xs:List α)(k:Nat)(h:k<=xs.length):fR xs 0 k=xs.take k:=by rw[fQ,List.drop_zero]
theorem wH{α:Type}(xs:List α)(k:Nat)(h:k<=xs.length):fR xs k (xs.length-k)=xs.drop k:=by
 rw[fQ,List.take_of_length_le (by simp)]
structure GT(n:af)(s:Int)(p q:List Int):Prop where
 len:q.length=p.length+1
 nd:q.Nodup
 rg:∀x∈q,0<=x/\x<(n.Nodes.length:Int)
 pr:∀e∈p,0<=e/\e<(n.Fibers.length:Int)
 st:0<=s/\s<8
theorem GT.le{n:af}{s:Int}{p q:List Int}(h:GT n s p q):q.length<=n.Nodes.length:=kF _ q h.nd h.rg
theorem GT.rt{n:af}(hn:bR n=true){s:Int}{p q:List Int}(h:GT n s p q):RtB n ⟨s,p⟩:=by
 obtain⟨b1,b2,b3⟩:=eO hn;have h1:=h.le;have h2:=h.len;exact⟨by show p.length<=20;omega,h.pr,h.st⟩
end Vs

namespace Vs
open Go
theorem BP{α:Type}(p:Nat->α->Bool):∀(xs:List α)(k:Nat),((xs.zipIdx (k+1)).find? fun q=>p q.2 q.1)=((xs.zipIdx k).find? fun q=>p (q.2+1) q.1).map fun q=>(q.1,q.2+1)
 |[],k=>rfl
 | x :: xs, k => by
   rw[List.zipIdx_cons,List.zipIdx_cons,List.find?_cons,List.find?_cons];simp only;cases p (k+1) x with
   |true=>rfl
   |false=>exact BP p xs (k+1)
theorem Ll{α:Type}(p:Nat->α->Bool)(x:α)(xs:List α):
 cM p (x::xs)=if p 0 x then some (0,x) else(cM (fun i=>p (i+1)) xs).map fun q=>(q.1+1,q.2):=by
 unfold cM;rw[List.zipIdx_cons,List.find?_cons];by_cases h:p 0 x=true
 ·simp[h]
 ·simp only[Bool.not_eq_true] at h;simp only[h,Bool.false_eq_true,if_false];rw[BP p xs 0,Option.map_map,Option.map_map];rfl
theorem gy{x y:Int}:dB x y<0↔x<y:=by
 unfold dB;by_cases h1:x<y
 ·simp[h1]
 ·by_cases h2:y<x<;>simp[h1,h2]
theorem Cn(x y:Int)(a b:List Int):hM (x::a) (y::b)=if x=y then hM a b else dB x y:=by
 unfold hM;rw[Ll];by_cases h:x=y
 ·subst h;simp only[List.getElem?_cons_zero,bne_self_eq_false,Bool.false_eq_true,if_false,List.getElem?_cons_succ,if_true];cases cM (fun i x=>b[i]? !=some x) a with
  |none=>simp
  |some q=>simp[ri]
 ·have:((some y:Option Int) !=some x)=true:=bne_iff_ne.2 fun e=>h (Option.some.inj e).symm;simp only[List.getElem?_cons_zero,this,if_true,if_neg h];simp[ri]
theorem AY:∀a b c:List Int,a.length=b.length->b.length=c.length->hM a b<0->hM b c<0->hM a c<0
 |[],[],[],_,_,h,_=>h
 | x :: a, y :: b, z :: c, h1, h2, h3, h4 => by
   rw[Cn] at h3 h4⊢;by_cases e1:x=y
   ·rw[if_pos e1] at h3;by_cases e2:y=z
    ·rw[if_pos e2] at h4;rw[if_pos (e1.trans e2)];exact AY a b c (by simpa using h1) (by simpa using h2) h3 h4
    ·rw[if_neg e2,gy] at h4;rw[if_neg (by omega),gy];omega
   ·rw[if_neg e1,gy] at h3;by_cases e2:y=z
    ·rw[if_neg (by omega),gy];omega
    ·rw[if_neg e2,gy] at h4;rw[if_neg (by omega),gy];omega
theorem uD{n:af}{a b:ar}(hs:a.Start=b.Start):fy n a b<0↔fw n a<fw n b\/(fw n a=fw n b/\(a.Fibers.length<b.Fibers.length\/(a.Fibers.length=b.Fibers.length/\hM a.Fibers b.Fibers<0))):=by
 unfold fy;by_cases e1:fw n a=fw n b
 ·rw[if_neg (fun h=>h e1)];by_cases e2:a.Fibers.length=b.Fibers.length
  ·rw[if_neg (fun h=>h e2)];by_cases e3:hM a.Fibers b.Fibers=0
   ·rw[if_neg (fun h=>h e3),gy];omega
   ·rw[if_pos e3];omega
  ·rw[if_pos e2,gy];omega
 ·rw[if_pos e1,gy];omega
theorem LL(n:af)(a:ar):¬fy n a a<0:=by
 have:=iC n a a;omega
theorem Ay{n:af}{a b c:ar}(h1:a.Start=b.Start)(h2:b.Start=c.Start)(h3:fy n a b<0)(h4:fy n b c<0):fy n a c<0:=by
 rw[uD h1] at h3;rw[uD h2] at h4;rw[uD (h1.trans h2)];rcases h3 with h3|⟨h3,h3'|⟨h3',h3''⟩⟩<;>rcases h4 with h4|⟨h4,h4'|⟨h4',h4''⟩⟩
 ·omega
 ·omega
 ·omega
 ·omega
 ·omega
 ·omega
 ·omega
 ·omega
 ·exact .inr ⟨by omega,.inr ⟨by omega,AY _ _ _ h3' h4' h3'' h4''⟩⟩
theorem wr{n:af}{a b:ar}(h:¬fy n a b<0):fy n b a<0\/a=b:=by
 by_cases e:fy n a b=0
 ·exact .inr (sq e)
 ·left;rw[iC];omega
theorem vH{n:af}{a b c:ar}(h1:a.Start=b.Start)(h2:b.Start=c.Start)(h3:¬fy n a b<0)(h4:¬fy n b c<0):¬fy n a c<0:=by
 rcases wr h3 with h3|rfl
 ·rcases wr h4 with h4|rfl
  ·have:=Ay h2.symm h1.symm h4 h3;rw[iC] at this;omega
  ·rw[iC] at h3;omega
 ·exact h4
def mi(n:af)(l:List ar):Prop:=l.Pairwise fun a b=>¬fy n b a<0
theorem AX{n:af}:∀(xs ys:List ar),xs.Perm ys->mi n xs->mi n ys->xs=ys
 |[],ys,h,_,_=>(List.nil_perm.1 h).symm
 |x::xs,[],h,_,_=>by have:=h.length_eq;simp at this
 | x :: xs, y :: ys, h, h1, h2 => by
   unfold mi at h1 h2;rw[List.pairwise_cons] at h1 h2;have e:x=y:=by
    have m1:x∈y::ys:=h.mem_iff.1 List.mem_cons_self;have m2:y∈x::xs:=h.mem_iff.2 List.mem_cons_self;rw[List.mem_cons] at m1 m2;rcases m1 with e|m1
    ·exact e
    ·rcases m2 with e|m2
     ·exact e.symm
     ·have a1:=h2.1 x m1;have a2:=h1.1 y m2;have:=iC n x y;exact sq (n:=n) (by omega)
   subst e;rw[AX xs ys (List.Perm.cons_inv h) h1.2 h2.2]
def Ti(s:Int)(L:List ar):Prop:=∀r∈L,r.Start=s
theorem Sy{n:af}{s:Int}{L:List ar}{r:ar}{k:Nat}(hs:Ti s L)(hr:r.Start=s)(hk:k<=L.length)(h:mi n L)(h1:∀j y,k<=j->L[j]?=some y->fy n r y<0)
 (h2:∀y,0<k->L[k-1]?=some y->¬fy n r y<0):mi n (L.take k++[r]++L.drop k):=by
 have hkL:L.take k++L.drop k=L:=List.take_append_drop k L;have hpw:mi n (L.take k++L.drop k):=by rw[hkL];exact h
 unfold mi at hpw⊢;rw[List.pairwise_append] at hpw;obtain⟨p1,p2,p3⟩:=hpw;have before:∀y∈L.take k,¬fy n r y<0:=fun y hy=>by
  obtain⟨j,hj⟩:=List.getElem?_of_mem hy;rw[List.getElem?_take] at hj;split at hj
  ·rename_i hjk;have hz:L[k-1]?=some (L[k-1]'(by omega)):=List.getElem?_eq_getElem _;have q:=h2 _ (by omega) hz;by_cases e:j=k-1
   ·subst e;rw[hz] at hj;cases hj;exact q
   ·have hyz:¬fy n (L[k-1]'(by omega)) y<0:=by
     have:=List.pairwise_iff_getElem.1 h j (k-1) (by omega) (by omega) (by omega);rw[(List.getElem?_eq_some_iff.1 hj).2] at this;exact this
    exact vH (hr.trans (hs _ (List.getElem_mem _)).symm) ((hs _ (List.getElem_mem _)).trans (hs _ (List.mem_of_mem_take hy)).symm) q hyz
  ·cases hj
 have after:∀y∈L.drop k,fy n r y<0:=fun y hy=>by
  obtain⟨j,hj⟩:=List.getElem?_of_mem hy;rw[List.getElem?_drop] at hj;exact h1 _ y (by omega) hj
 rw[List.append_assoc,List.pairwise_append,List.singleton_append,List.pairwise_cons];refine⟨p1,⟨fun y hy=>?_,p2⟩,fun x hx y hy=>?_⟩
 ·have:=after y hy;rw[iC];omega
 ·rw[List.mem_cons] at hy;rcases hy with rfl|hy
  ·exact before x hx
  ·exact p3 x hx y hy
theorem BR{f:Int->Option (Int⊕Int)}{L:List ar}(hl:L.length<=1000)(g:ar->Int)
 (h1:∀(i:Nat)(y:ar),L[i]?=some y->f ((i+1:Nat):Int)=some (if decide (g y<0) then .inl (i:Int) else .inr ((i+1:Nat):Int))) (h2:f 0=some (.inr 0)):
 ∃k:Nat,bz f N0 (L.length:Int)=some (k:Int)/\k<=L.length/\(∀j y,k<=j->L[j]?=some y->g y<0)/\∀y,0<k->L[k-1]?=some y->¬g y<0:=by
 obtain⟨b,b1,b2⟩:=ea (f:=f) (fun s=>∃i:Nat,s=(i:Int)/\i<=L.length/\∀j y,i<=j->L[j]?=some y->g y<0) (fun s=>s.toNat) (fun b=>∃k:Nat,b=(k:Int)/\k<=L.length/\(∀j y,k<=j->L[j]?=some y->g y<0)/\∀y,0<k->L[k-1]?=some y->¬g y<0) (fun s⟨i,e,hi,hj⟩=>by
  subst e;cases i with
  |zero=>exact .inr ⟨0,h2,0,rfl,Nat.zero_le _,hj,fun y h=>by omega⟩
  | succ i =>
    have hat:=List.getElem?_eq_getElem (show i<L.length by omega);have hs:=h1 i _ hat;rw[hs];by_cases c:g L[i]<0
    ·rw[if_pos (by simpa using c)];refine .inl ⟨_,rfl,⟨i,rfl,by omega,fun j y hij hy=>?_⟩,by simp⟩;by_cases e:j=i
     ·subst e;rw[hat] at hy;cases hy;exact c
     ·exact hj j y (by omega) hy
    ·rw[if_neg (by simpa using c)];refine .inr ⟨_,rfl,i+1,rfl,hi,hj,fun y _ hy=>?_⟩;rw[show i+1-1=i by omega,hat] at hy;cases hy;exact c) N0 (L.length:Int) ⟨L.length,rfl,Nat.le_refl _,fun j y hj hy=>by have:=(List.getElem?_eq_some_iff.1 hy).1;omega⟩ (gP (by omega))
 obtain⟨k,e,hk⟩:=b2;exact⟨k,by rw[b1,e],hk⟩
theorem Ua{n:af}(hn:bR n=true){d:Int}{L:List ar}{r:ar}(hr:RtB n r)(hL:∀r∈L,RtB n r)(hl:L.length<=500)(hsm:Ti r.Start L)(hsr:mi n L):
 ∃L',Gs r n.Nodes n.Fibers d L=some (n.Nodes,n.Fibers,d,L',L)/\L'.Perm (r::L)/\mi n L':=by
 obtain⟨k,k1,k2,k3,k4⟩:=BR (f:=Fi r n.Nodes n.Fibers L) (L:=L) (by omega) (fy n r) (fun i y hy=>by
  have hlt:=(List.getElem?_eq_some_iff.1 hy).1;have e1:decide (0<((i+1:Nat):Int))=true:=by simp only[decide_eq_true_eq];omega
  have e2:IntKind.wrap .i64 (((i+1:Nat):Int)-1)=(i:Int):=by rw[aF (by omega) (by omega)];omega
  unfold Fi;rw[e1,cond_true,e2,bu ⟨by omega,by omega⟩,Option.bind_some,Int.toNat_natCast,hy,Option.bind_some,wY hn hr (hL y (List.mem_of_getElem? hy)),Option.bind_some];cases decide (fy n r y<0)<;>rfl) (by simp[Fi])
 unfold Gs;rw[k1,Option.bind_some,bu ⟨trivial,by omega,trivial,by simpa using k2⟩];simp only[Option.bind_some,bnd,Int.toNat_natCast];rw[bu (by rw[nf _ _ k2];simp;omega),Option.bind_some,bu (by rw[nf _ _ k2];simp;omega),Option.bind_some,bu ⟨by omega,trivial,k2,trivial⟩,Option.bind_some,bu (by rw[nf _ _ k2,wH _ _ k2];simp;omega),Option.bind_some,nf _ _ k2,wH _ _ k2];refine⟨_,rfl,?_,Sy hsm rfl k2 hsr k3 k4⟩;have hp:(L.take k++r::L.drop k).Perm (r::(L.take k++L.drop k)):=List.perm_middle;rw[List.take_append_drop] at hp;rw[List.append_assoc];exact hp
end Vs

namespace Vs
open Go
def dM(q:List Int):Int:=(q[q.length-1]?).getD 0
def gc(n:af)(D:List Int->List Int->List ar)(v:Int)(p q:List Int)(i:Nat):List ar:=
 if 0<=cD n (i:Int) v/\cD n (i:Int) v∉q then D (p++[(i:Int)]) (q++[cD n (i:Int) v]) else []
def flS(n:af)(D:List Int->List Int->List ar)(v:Int)(p q:List Int)(k:Nat):List ar:=(List.range k).flatMap (gc n D v p q)
def ib(n:af)(s d:Int)(D:List Int->List Int->List ar)(p q:List Int):List ar:=
 if dM q=d then [⟨s,p⟩] else flS n D (dM q) p q n.Fibers.length
def mN(n:af)(s d:Int):Nat->List Int->List Int->List ar
 |0,p,q=>ib n s d (fun _ _=>[]) p q
 |k+1,p,q=>ib n s d (mN n s d k) p q
structure lD(n:af)(s:Int)(p q:List Int):Prop where
 S:GT n s p q
 V:∀ext,cm (ne n) (fun a=>some a.2) 0 (p++ext) (s,[s])=cm (ne n) (fun a=>some a.2) p.length ext (dM q,q)
theorem qG(q:List Int)(w:Int):dM (q++[w])=w:=by unfold dM;simp
theorem Hr{q:List Int}(h:0<q.length):q[q.length-1]?=some (dM q):=by
 unfold dM;rw[List.getElem?_eq_getElem (show q.length-1<q.length by omega)];rfl
theorem KP{n:af}(hn:bR n=true){i:Nat}(hi:i<n.Fibers.length){v:Int}(h0:0<=cD n (i:Int) v):cD n (i:Int) v<(n.Nodes.length:Int):=by
 have hwi:wi (i:Int) 0 ((n.Fibers.length:Int)-1)=true:=cg.2 (by omega);obtain⟨f,f1,f2⟩:=qU hwi;obtain⟨fa,fb,fc,_⟩:=qY hn f2;unfold cD at h0⊢;rw[f2] at h0⊢;simp only[jm] at h0⊢;by_cases c1:v=f.A
 ·rw[if_pos c1];omega
 ·rw[if_neg c1];by_cases c2:v=f.B
  ·rw[if_pos c2];omega
  ·rw[if_neg c2];omega
theorem lD.ext{n:af}(hn:bR n=true){s:Int}{p q:List Int}(h:lD n s p q){i:Nat}(hi:i<n.Fibers.length)(h1:0<=cD n (i:Int) (dM q))(h2:cD n (i:Int) (dM q)∉q):
 lD n s (p++[(i:Int)]) (q++[cD n (i:Int) (dM q)]):=by
 have hp:=h.S;have hlt:=KP hn hi h1;refine⟨⟨by have:=hp.len;simp;omega,?_,fun x hx=>?_,fun x hx=>?_,hp.st⟩,fun ext=>?_⟩
 ·rw[List.nodup_append];refine⟨hp.nd,by simp,fun x hx y hy e=>?_⟩;simp only[List.mem_singleton] at hy;exact h2 (by rw[<-hy,<-e];exact hx)
 ·rcases List.mem_append.1 hx with h|h
  ·exact hp.rg x h
  ·simp only[List.mem_singleton] at h;rw[h];exact⟨h1,hlt⟩
 ·rcases List.mem_append.1 hx with h|h
  ·exact hp.pr x h
  ·simp only[List.mem_singleton] at h;rw[h];omega
 ·rw[List.append_assoc,h.V,List.singleton_append,qG,List.length_append,List.length_singleton];rw[cm];have hb:pZ n (i:Int) (dM q,q)=false:=by
   unfold pZ;have e1:wi (i:Int) 0 ((n.Fibers.length:Int)-1)=true:=cg.2 (by omega);simp only[e1,decide_eq_false h2,decide_eq_false (show¬cD n (i:Int) (dM q)<0 by omega)];rfl
  unfold ne;rw[hb];rfl
structure RtV(n:af)(s:Int)(r:ar):Prop where
 st:r.Start=s
 b:RtB n r
 v:(ix n r).isSome=true
theorem AP{n:af}(hn:bR n=true){s d:Int}(hsd:s≠d)(hs:0<=s/\s<(n.Nodes.length:Int)){D:List Int->List Int->List ar}{p q:List Int}(hD:∀p1 q1,lD n s p1 q1->q1.length=q.length+1->∀r∈D p1 q1,RtV n s r)(h:lD n s p q):∀r∈ib n s d D p q,RtV n s r:=by
 intro r hr;unfold ib at hr;split at hr
 ·rename_i e;rw[List.mem_singleton] at hr;subst hr;refine⟨rfl,h.S.rt hn,?_⟩;have hp:p.length≠0:=fun e0=>by
   have e1:p=[]:=List.length_eq_zero_iff.1 e0;subst e1;have h1:=h.V [];have h2:=h.S.len;obtain⟨x,hx⟩:∃x,q=[x]:=by
    match q,h2 with
    |[x],_=>exact⟨x,rfl⟩
   subst hx;simp only[List.append_nil,cm,Option.some.injEq,List.cons.injEq,and_true] at h1;apply hsd;rw[h1,<-e];rfl
  unfold ix;have e1:wi s 0 ((n.Nodes.length:Int)-1)=true:=cg.2 (by omega);have h3:=h.V [];rw[List.append_nil] at h3;simp only[e1,decide_eq_false hp];rw[h3];rfl
 ·unfold flS at hr;rw[List.mem_flatMap] at hr;obtain⟨i,hi,hr⟩:=hr;rw[List.mem_range] at hi;unfold gc at hr;split at hr
  ·rename_i h1;exact hD _ _ (h.ext hn hi h1.1 h1.2) (by simp) r hr
  ·cases hr
theorem rA{n:af}(hn:bR n=true){s d:Int}(hsd:s≠d)(hs:0<=s/\s<(n.Nodes.length:Int)):∀(k:Nat)(p q:List Int),lD n s p q->∀r∈mN n s d k p q,RtV n s r
 |0,p,q,h=>AP hn hsd hs (fun _ _ _ _ _ hr=>by cases hr) h
 |k+1,p,q,h=>AP hn hsd hs (fun p1 q1 h1 _=>rA hn hsd hs k p1 q1 h1) h
structure GdL(n:af)(s:Int)(L:List ar):Prop where
 srt:mi n L
 rt:∀r∈L,RtV n s r
def lJ(n:af)(L D L':List ar):Prop:=mi n L'/\(∀r∈L',r∈L\/r∈D)/\L'.length<=201/\(if L.length+D.length<=201 then L'.Perm (L++D) else L'.length=201)
theorem lJ.refl{n:af}{L:List ar}(h:mi n L)(hl:L.length<=201):lJ n L [] L:=⟨h,fun r hr=>.inl hr,hl,by rw[if_pos (by simpa using hl),List.append_nil]⟩
theorem lJ.trans{n:af}{L D1 L1 D2 L2:List ar}(h1:lJ n L D1 L1)(hl:L1.length<=200)(h2:lJ n L1 D2 L2):lJ n L (D1++D2) L2:=by
 obtain⟨a1,a2,a3,a4⟩:=h1;obtain⟨b1,b2,b3,b4⟩:=h2;have c:L.length+D1.length<=201:=by
  apply Classical.byContradiction;intro h;rw[if_neg h] at a4;omega
 rw[if_pos c] at a4;have e:=a4.length_eq;rw[List.length_append] at e;refine⟨b1,fun r hr=>?_,b3,?_⟩
 ·rcases b2 r hr with h|h
  ·rcases a2 r h with h|h
   ·exact .inl h
   ·exact .inr (List.mem_append_left _ h)
  ·exact .inr (List.mem_append_right _ h)
 ·rw[List.length_append];by_cases c2:L1.length+D2.length<=201
  ·rw[if_pos c2] at b4;rw[if_pos (by omega),<-List.append_assoc];exact b4.trans (a4.append_right D2)
  ·rw[if_neg c2] at b4;rw[if_neg (by omega)];exact b4
theorem lJ.full{n:af}{L D1 L1:List ar}(D2:List ar)(h1:lJ n L D1 L1)(hl:¬L1.length<=200):lJ n L (D1++D2) L1:=by
 obtain⟨a1,a2,a3,a4⟩:=h1;refine⟨a1,fun r hr=>(a2 r hr).imp id (List.mem_append_left _),a3,?_⟩;rw[List.length_append];split
 ·rename_i c;rw[if_pos (by omega)] at a4;have e:=a4.length_eq;rw[List.length_append] at e;have:D2=[]:=List.length_eq_zero_iff.1 (by omega);rw[this,List.append_nil];exact a4
 ·omega
theorem GdL.put{n:af}{s:Int}{L D L':List ar}(h:GdL n s L)(hD:∀r∈D,RtV n s r)(hq:lJ n L D L'):GdL n s L':=⟨hq.1,fun r hr=>(hq.2.1 r hr).elim (h.rt r) (hD r)⟩
theorem fX(n:af)(D:List Int->List Int->List ar)(v:Int)(p q:List Int)(k:Nat):flS n D v p q (k+1)=flS n D v p q k++gc n D v p q k:=by
 unfold flS;rw[List.range_succ,List.flatMap_append];simp
theorem qr(n:af)(D:List Int->List Int->List ar)(v:Int)(p q:List Int){k:Nat}:∀m,k<=m->∃R,flS n D v p q m=flS n D v p q k++R
 | 0, h => ⟨[], by have : k = 0 := by omega
                   subst this;simp⟩
 | m + 1, h => by
   by_cases e:k=m+1
   ·subst e;exact⟨[],by simp⟩
   ·obtain⟨R,hR⟩:=qr n D v p q m (show k<=m by omega);exact⟨R++gc n D v p q m,by rw[fX,hR,List.append_assoc]⟩
theorem mz{n:af}(hn:bR n=true){s d:Int}(hsd:s≠d)(hs:0<=s/\s<(n.Nodes.length:Int)){D:List Int->List Int->List ar}{rc:Int->List ByteArray->List ay->Int->List ar->List Int->List Int->Option (List ByteArray×List ay×Int×List ar×List Int)}
 {L:List ar} {p q:List Int} (hrc:∀(L:List ar)(p1 q1:List Int),lD n s p1 q1->q1.length=q.length+1->GdL n s L->L.length<=200->∃L',rc s n.Nodes n.Fibers d L p1 q1=some (n.Nodes,n.Fibers,d,L',q1)/\lJ n L (D p1 q1) L')
 (hD:∀p1 q1,lD n s p1 q1->q1.length=q.length+1->∀r∈D p1 q1,RtV n s r) (hp:lD n s p q) (hL:GdL n s L) (hl:L.length<=200):
 ∃L',EE rc s n.Nodes n.Fibers d L p q=some (n.Nodes,n.Fibers,d,L',q)/\lJ n L (ib n s d D p q) L':=by
 obtain⟨b1,b2,b3⟩:=eO hn;have h1:=hp.S.le;have h2:=hp.S.len;have hix:IntKind.wrap .i64 ((q.length:Int)-1)=((q.length-1:Nat):Int):=by rw[aF (by omega) (by omega)];omega
 unfold EE ib;rw[hix,bu ⟨by omega,by omega⟩,Option.bind_some,Int.toNat_natCast,Hr (by omega),Option.bind_some];by_cases hv:dM q=d
 ·have e0:(dM q==d)=true:=by simpa using hv
  rw[e0,if_pos hv,cond_true];obtain⟨L',e1,e2,e3⟩:=Ua hn (d:=d) (r:=⟨s,p⟩) (hp.S.rt hn) (fun r hr=>(hL.rt r hr).b) (by omega) (fun r hr=>(hL.rt r hr).st) hL.srt;rw[e1,Option.bind_some];have hlen:=e2.length_eq;rw[List.length_cons] at hlen;refine⟨L',rfl,e3,fun r hr=>?_,by omega,?_⟩
  ·rcases List.mem_cons.1 (e2.mem_iff.1 hr) with h|h
   ·exact .inr (by rw[h];simp)
   ·exact .inl h
  ·rw[if_pos (by simp;omega)];have hp2:(L++(⟨s,p⟩:ar)::[]).Perm ((⟨s,p⟩:ar)::(L++[])):=List.perm_middle;rw[List.append_nil] at hp2;exact e2.trans hp2.symm
 ·have e0:(dM q==d)=false:=by simpa using hv
  rw[e0,if_neg hv,cond_false];generalize hvq:dM q=v at*
  obtain⟨b,o1,o2⟩:=ea (f:=Ii s p q rc v) (fun t=>∃(i:Nat)(L':List ar),t=((i:Int),n.Nodes,n.Fibers,d,L')/\i<=n.Fibers.length/\lJ n L (flS n D v p q i) L') (fun t=>n.Fibers.length-t.1.toNat) (fun b=>∃L',b=(n.Nodes,n.Fibers,d,L')/\lJ n L (flS n D v p q n.Fibers.length) L') (fun t⟨i,L',e,hi,hL'⟩=>by
   subst e;have hgd:GdL n s L':=hL.put (fun r hr=>by
    unfold flS at hr;rw[List.mem_flatMap] at hr;obtain⟨j,hj,hr⟩:=hr;rw[List.mem_range] at hj;unfold gc at hr;split at hr
    ·rename_i c;subst hvq;exact hD _ _ (hp.ext hn (by omega) c.1 c.2) (by simp) r hr
    ·cases hr) hL'
   unfold Ii;by_cases h3:i<n.Fibers.length/\L'.length<=200
   ·left;have e1:decide ((i:Int)<(n.Fibers.length:Int))=true:=by simp[h3.1]
    have e2:decide ((L'.length:Int)<=200)=true:=by simp only[decide_eq_true_eq];omega
    have hwi:wi (i:Int) 0 ((n.Fibers.length:Int)-1)=true:=cg.2 (by omega);simp only[e1,e2,cond_true,Option.bind_some,sG n (i:Int) v hwi,oY q _ (show q.length<=1048576 by omega)];by_cases h4:0<=cD n (i:Int) v/\cD n (i:Int) v∉q
    ·have e3:decide (0<=cD n (i:Int) v)=true:=by simp[h4.1]
     have e4:(q.any fun y=>y==cD n (i:Int) v)=false:=by rw[<-ug];exact decide_eq_false h4.2
     have hP:lD n s (p++[(i:Int)]) (q++[cD n (i:Int) v]):=by subst hvq;exact hp.ext hn h3.1 h4.1 h4.2
     have hle:=hP.S.le;simp only[List.length_append,List.length_singleton] at hle;obtain⟨L2,c1,c2⟩:=hrc L' (p++[(i:Int)]) (q++[cD n (i:Int) v]) hP (by simp) hgd h3.2;have ep:M_o p=some p:=by unfold M_o;rw[bu (by omega)];rfl
     have eq:M_o q=some q:=by unfold M_o;rw[bu (by omega)];rfl
     simp only[e3,e4,cond_true,Bool.not_false,Option.bind_some,ep,eq,bnd];rw[bu (by omega),Option.bind_some,bu (by omega),Option.bind_some,c1,Option.bind_some];have hst:gc n D v p q i=D (p++[(i:Int)]) (q++[cD n (i:Int) v]):=by unfold gc;rw[if_pos h4]
     refine⟨_,rfl,⟨i+1,L2,by rw[aF (by omega) (by omega)];rfl,by omega,by rw[fX,hst];exact hL'.trans h3.2 c2⟩,?_⟩;simp only;rw[aF (by omega) (by omega)];omega
    ·have e3:(cond (decide (0<=cD n (i:Int) v)) (some (!(q.any fun y=>y==cD n (i:Int) v))) (some false):Option Bool)=some false:=by
      by_cases h5:0<=cD n (i:Int) v
      ·have:(q.any fun y=>y==cD n (i:Int) v)=true:=by
        rw[<-ug,decide_eq_true_eq];exact Classical.byContradiction fun h6=>h4 ⟨h5,h6⟩
       simp[h5,this]
      ·simp[h5]
     rw[e3];simp only[Option.bind_some,cond_false];have hst:gc n D v p q i=[]:=by unfold gc;rw[if_neg h4]
     refine⟨_,rfl,⟨i+1,L',by rw[aF (by omega) (by omega)];rfl,by omega,by rw[fX,hst,List.append_nil];exact hL'⟩,?_⟩;simp only;rw[aF (by omega) (by omega)];omega
   ·right;have e1:(cond (decide ((i:Int)<(n.Fibers.length:Int))) (some (decide ((L'.length:Int)<=200))) (some false):Option Bool)=some false:=by
     by_cases h5:i<n.Fibers.length
     ·have:¬L'.length<=200:=fun h=>h3 ⟨h5,h⟩;have e6:decide ((L'.length:Int)<=200)=false:=by simp only[decide_eq_false_iff_not];omega
      simp[h5,e6]
     ·simp[h5]
    simp only[e1,Option.bind_some,cond_false];refine⟨_,rfl,L',rfl,?_⟩;by_cases h5:i<n.Fibers.length
    ·obtain⟨R,hR⟩:=qr n D v p q n.Fibers.length hi;rw[hR];exact hL'.full R fun h=>h3 ⟨h5,h⟩
    ·have:i=n.Fibers.length:=by omega
     rw[<-this];exact hL') N0 (0,n.Nodes,n.Fibers,d,L) ⟨0,L,rfl,Nat.zero_le _,lJ.refl hL.srt (by omega)⟩ (gP (by simp only;omega))
  obtain⟨L',e,hL'⟩:=o2;rw[o1,e];exact⟨L',rfl,hL'⟩
theorem vK{n:af}(hn:bR n=true){s d:Int}(hsd:s≠d)(hs:0<=s/\s<(n.Nodes.length:Int)):∀(k m:Nat),k<m->∀(L:List ar)(p q:List Int),lD n s p q->q.length+k=n.Nodes.length->GdL n s L->L.length<=200->
 ∃L',ye m s n.Nodes n.Fibers d L p q=some (n.Nodes,n.Fibers,d,L',q)/\lJ n L (mN n s d k p q) L'
 |0,0,h=>by omega
 |0,m+1,_=>fun L p q hp hq hL hl=>mz hn hsd hs (fun L1 p1 q1 hp1 e _ _=>by have:=hp1.S.le;omega) (fun _ _ _ _ _ hr=>by cases hr) hp hL hl
 | k + 1, m, hm => fun L p q hp hq hL hl => by
   obtain⟨m,rfl⟩:∃m',m=m'+1:=⟨m-1,by omega⟩;exact mz hn hsd hs (fun L1 p1 q1 hp1 e hL1 hl1=>vK hn hsd hs k m (by omega) L1 p1 q1 hp1 (by omega) hL1 hl1) (fun p1 q1 h1 _=>rA hn hsd hs k p1 q1 h1) hp hL hl
def jT(n:af)(s d:Int):List ar:=mN n s d (n.Nodes.length-1) [] [s]
theorem RA{n:af}(hn:bR n=true){s:Int}(hs:0<=s/\s<(n.Nodes.length:Int)):lD n s [] [s]:=by
 have:=eO hn;exact⟨⟨rfl,by simp,fun x hx=>by simp only[List.mem_singleton] at hx;rw[hx];exact hs,fun e he=>(by cases he),⟨hs.1,by omega⟩⟩,fun ext=>rfl⟩
theorem UR{n:af}(hn:bR n=true){s d:Int}(hsd:s≠d)(hs:0<=s/\s<(n.Nodes.length:Int)):∃L,(if(jT n s d).length<=200 then DK n s d=some (true,L)/\L.Perm (jT n s d)/\mi n L else DK n s d=some (false,[])):=by
 obtain⟨b1,b2,b3⟩:=eO hn;obtain⟨k,hk⟩:∃k,n.Nodes.length=k+2:=⟨n.Nodes.length-2,by omega⟩;have e:Qy s n.Nodes n.Fibers d [s]=EE (ye N0) s n.Nodes n.Fibers d [] [] [s]:=rfl;obtain⟨L,e1,e2,e3,e4,e5⟩:=mz hn hsd hs (D:=mN n s d k) (rc:=ye N0) (L:=[]) (p:=[]) (q:=[s]) (fun L1 p1 q1 hp1 e hL1 hl1=>vK hn hsd hs k N0 (gP (by omega)) L1 p1 q1 hp1 (by simp only[List.length_singleton] at e;omega) hL1 hl1) (fun p1 q1 h1 _=>rA hn hsd hs k p1 q1 h1) (RA hn hs) ⟨List.Pairwise.nil,fun r hr=>by cases hr⟩ (by simp);have hr:jT n s d=ib n s d (mN n s d k) [] [s]:=by unfold jT;rw[hk];rfl
 rw[<-hr] at e5;refine⟨L,?_⟩;unfold DK;simp only[bnd,List.length_nil,Nat.zero_add,List.nil_append] at e5⊢;rw[e,e1,Option.bind_some];by_cases h:(jT n s d).length<=200
 ·rw[if_pos (by omega)] at e5;have hl:=e5.length_eq;have e7:decide ((200:Int)<(L.length:Int))=false:=by simp only[decide_eq_false_iff_not];omega
  rw[if_pos h];refine⟨?_,e5,e2⟩;show cond (decide ((200:Int)<(L.length:Int))) _ _=_;rw[e7,cond_false,bu (by simp only;omega)];rfl
 ·have hl:L.length=201:=by
   by_cases h2:(jT n s d).length<=201
   ·rw[if_pos h2] at e5;have:=e5.length_eq;omega
   ·rw[if_neg h2] at e5;exact e5
  rw[if_neg h];have e7:decide ((200:Int)<(L.length:Int))=true:=by simp only[decide_eq_true_eq];omega
  show cond (decide ((200:Int)<(L.length:Int))) _ _=_;rw[e7];rfl
end Vs

namespace Vs
open Go
theorem na(a:Nat):BitVec.ofInt 64 (a:Int)=BitVec.ofNat 64 a:=by
 apply BitVec.eq_of_toNat_eq;simp[BitVec.toNat_ofInt]
theorem borR(a b:Nat)(ha:a<2^62)(hb:b<2^62):bits .or .i64 (a:Int) (b:Int)=((a ||| b:Nat):Int):=by
 have hab:a ||| b<2^62:=Nat.or_lt_two_pow ha hb;show IntKind.wrap .i64 ((BitVec.ofInt 64 (a:Int) ||| BitVec.ofInt 64 (b:Int)).toNat:Int)=_;rw[na,na,BitVec.toNat_or,BitVec.toNat_ofNat,BitVec.toNat_ofNat,Nat.mod_eq_of_lt (by omega),Nat.mod_eq_of_lt (by omega),aF (by omega) (by omega)]
theorem WK(m i:Nat)(hi:i<64)(hm:m<2^62):(bits .and .i64 (Int.fdiv (m:Int) (2^(min i (IntKind.bits .i64)))) 1==0)=!m.testBit i:=by
 have e1:min i (IntKind.bits .i64)=i:=by rw[show IntKind.bits .i64=64 from rfl];omega
 have e2:Int.fdiv (m:Int) (2^i)=((m/2^i:Nat):Int):=by
  rw[Int.fdiv_eq_ediv_of_nonneg _ (by exact_mod_cast Nat.zero_le (2^i))];simp
 have hlt:m/2^i<2^62:=Nat.lt_of_le_of_lt (Nat.div_le_self ..) hm;rw[e1,e2];have e3:bits .and .i64 ((m/2^i:Nat):Int) 1=((m/2^i%2:Nat):Int):=by
  show IntKind.wrap .i64 ((BitVec.ofInt 64 ((m/2^i:Nat):Int) &&& BitVec.ofInt 64 ((1:Nat):Int)).toNat:Int)=_;rw[na,na,BitVec.toNat_and,BitVec.toNat_ofNat,BitVec.toNat_ofNat,Nat.mod_eq_of_lt (by omega),Nat.mod_eq_of_lt (by omega),Nat.and_one_is_mod,aF (by omega) (by omega)]
 rw[e3,Nat.testBit_eq_decide_div_mod_eq];have:=Nat.mod_two_eq_zero_or_one (m/2^i);rcases this with h|h<;>rw[h]<;>simp
theorem KI(xs:List Int)(hl:xs.length<=1048576):Fd xs=some xs:=by
 unfold Fd;rw[bu (by omega)];simp only[Option.bind_some];cases xs with
 |nil=>rfl
 |cons x xs=>rfl
def vz(m:Nat)(q:List Int):Prop:=m<2^8/\∀i:Nat,m.testBit i=decide ((i:Int)∈q)
theorem BD{w:Nat}(hw:w<8):IntKind.wrap .i64 (1*2^(min w (IntKind.bits .i64)))=((2^w:Nat):Int):=by
 have e1:min w (IntKind.bits .i64)=w:=by rw[show IntKind.bits .i64=64 from rfl];omega
 have q:(2:Nat)^w<=2^8:=Nat.pow_le_pow_right (by omega) (by omega);have p1:(1*2^w:Int)=((2^w:Nat):Int):=by rw[Int.one_mul];exact_mod_cast rfl
 have p2:((2^w:Nat):Int)<=256:=Int.ofNat_le.2 q;have p3:(0:Int)<=((2^w:Nat):Int):=Int.natCast_nonneg _;rw[e1,p1];generalize ((2^w:Nat):Int)=z at p2 p3;exact aF (by omega) (by omega)
theorem vz.ext{m:Nat}{q:List Int}(h:vz m q){w:Nat}(hw:w<8):vz (m ||| 2^w) (q++[(w:Int)]):=by
 refine⟨Nat.or_lt_two_pow h.1 (Nat.pow_lt_pow_right (by omega) hw),fun i=>?_⟩;rw[Nat.testBit_or,h.2,Nat.testBit_two_pow,Bool.eq_iff_iff];simp only[Bool.or_eq_true,decide_eq_true_eq,List.mem_append,List.mem_singleton];constructor
 ·rintro(h|h)
  ·exact .inl h
  ·right;omega
 ·rintro(h|h)
  ·exact .inl h
  ·right;omega
theorem mc{n:af}(hn:bR n=true){s d:Int}{D:List Int->List Int->List ar}{rc:Int->Int->List Int->Int->List ar->Int->af->Option (Int×List ar×Int×af)}{p q:List Int}{m:Nat}{out:List ar}
 (hrc:∀(p1 q1:List Int)(m1:Nat)(out:List ar),lD n s p1 q1->q1.length=q.length+1->vz m1 q1->out.length+(D p1 q1).length<=1000000000000->rc (dM q1) (m1:Int) p1 d out s n=some (d,out++D p1 q1,s,n))
 (hp:lD n s p q) (hm:vz m q) (hlen:out.length+(ib n s d D p q).length<=1000000000000):
 KM rc (dM q) (m:Int) p d out s n=some (d,out++ib n s d D p q,s,n):=by
 obtain⟨b1,b2,b3⟩:=eO hn;have h1:=hp.S.le;have h2:=hp.S.len;unfold KM;unfold ib at hlen⊢;by_cases hv:dM q=d
 ·have e0:(dM q==d)=true:=by simpa using hv
  rw[if_pos hv] at hlen⊢;simp only[List.length_singleton] at hlen;rw[e0,cond_true,KI p (by omega),Option.bind_some];simp only[bnd];rw[bu (by omega)];rfl
 ·have e0:(dM q==d)=false:=by simpa using hv
  rw[if_neg hv] at hlen⊢;rw[e0,cond_false];generalize hvq:dM q=v at*
  obtain⟨b,o1,o2⟩:=ea (f:=LB v (m:Int) p n rc) (fun t=>∃i:Nat,t=((i:Int),d,out++flS n D v p q i,s,n)/\i<=n.Fibers.length) (fun t=>n.Fibers.length-t.1.toNat) (fun b=>b=(d,out++flS n D v p q n.Fibers.length,s,n)) (fun t⟨i,e,hi⟩=>by
   subst e;unfold LB;by_cases h3:i<n.Fibers.length
   ·left;have e1:decide ((i:Int)<(n.Fibers.length:Int))=true:=by simp[h3]
    have hat:n.Fibers[i]?=some n.Fibers[i]:=List.getElem?_eq_getElem h3;have ho:cD n (i:Int) v=jm n.Fibers[i] v:=by unfold cD;rw[Int.toNat_natCast,hat]
    have w1:IntKind.wrap .i64 ((i:Int)+1)=((i+1:Nat):Int):=by rw[aF (by omega) (by omega)];rfl
    simp only[e1,cond_true,aU,hat,Option.bind_some,pK,<-ho,w1];by_cases h0:0<=cD n (i:Int) v
    ·obtain⟨w,hw⟩:=Int.eq_ofNat_of_zero_le h0;have hlt:=KP hn h3 h0;rw[hw] at hlt;have hw8:w<8:=by omega
     simp only[hw,Int.toNat_natCast];rw[bu (by omega)];simp only[Option.bind_some,decide_eq_true (show(0:Int)<=(w:Int) by omega),cond_true,WK m w (by omega) (by have:=hm.1;omega),hm.2 w];by_cases h4:(w:Int)∈q
     ·rw[decide_eq_true h4];simp only[Bool.not_true,cond_false];have hst:gc n D v p q i=[]:=by unfold gc;rw[if_neg (by rw[hw];exact fun h=>h.2 h4)]
      exact⟨_,rfl,⟨i+1,by rw[fX,hst,List.append_nil],by omega⟩,by simp only;omega⟩
     ·rw[decide_eq_false h4];simp only[Bool.not_false,cond_true,bnd];have h5:0<=cD n (i:Int) v/\cD n (i:Int) v∉q:=⟨h0,by rw[hw];exact h4⟩;have hst:gc n D v p q i=D (p++[(i:Int)]) (q++[(w:Int)]):=by unfold gc;rw[if_pos h5,hw]
      have hP:lD n s (p++[(i:Int)]) (q++[(w:Int)]):=by subst hvq;rw[<-hw];exact hp.ext hn h3 h5.1 h5.2
      obtain⟨R,hR⟩:=qr n D v p q n.Fibers.length (show i+1<=n.Fibers.length by omega);rw[hR,fX,hst,List.length_append,List.length_append] at hlen;have hw2:(2:Nat)^w<=2^8:=Nat.pow_le_pow_right (by omega) (by omega);have hm1:=hm.1;rw[bu (by omega),Option.bind_some,BD hw8,borR m (2^w) (by omega) (by omega)];have hc:=hrc (p++[(i:Int)]) (q++[(w:Int)]) (m ||| 2^w) (out++flS n D v p q i) hP (by simp) (hm.ext hw8) (by rw[List.length_append];omega);rw[qG] at hc;rw[hc,Option.bind_some];exact⟨_,rfl,⟨i+1,by rw[fX,hst,List.append_assoc],by omega⟩,by simp only;omega⟩
    ·have e3:decide (0<=cD n (i:Int) v)=false:=decide_eq_false h0;simp only[e3,cond_false,Option.bind_some];have hst:gc n D v p q i=[]:=by unfold gc;rw[if_neg fun h=>h0 h.1]
     exact⟨_,rfl,⟨i+1,by rw[fX,hst,List.append_nil],by omega⟩,by simp only;omega⟩
   ·right;have:i=n.Fibers.length:=by omega
    subst this;have e1:decide ((n.Fibers.length:Int)<(n.Fibers.length:Int))=false:=by simp
    simp only[e1,cond_false];exact⟨_,rfl,rfl⟩) N0 (0,d,out,s,n) ⟨0,by simp[flS],by omega⟩ (gP (by simp only;omega))
  rw[o1,o2];rfl
theorem wV{n:af}(hn:bR n=true){s d:Int}:∀(k f:Nat),k<f->∀(p q:List Int)(m:Nat)(out:List ar),lD n s p q->q.length+k=n.Nodes.length->vz m q->out.length+(mN n s d k p q).length<=1000000000000->
 DU f (dM q) (m:Int) p d out s n=some (d,out++mN n s d k p q,s,n)
 |0,0,h=>by omega
 |0,f+1,_=>fun p q m out hp hq hm hl=>mc hn (fun p1 q1 m1 out1 hp1 e _ _=>by have:=hp1.S.le;omega) hp hm hl
 | k + 1, f, hf => fun p q m out hp hq hm hl => by
   obtain⟨f,rfl⟩:∃f',f=f'+1:=⟨f-1,by omega⟩;exact mc hn (fun p1 q1 m1 out1 hp1 e hm1 hl1=>wV hn k f (by omega) p1 q1 m1 out1 hp1 (by omega) hm1 hl1) hp hm hl
theorem PQ{n:af}(hn:bR n=true){s d:Int}:∀(k:Nat)(p q:List Int),(mN n s d k p q).length<=14^k:=by
 obtain⟨b1,b2,b3⟩:=eO hn;have body:∀(D:List Int->List Int->List ar)(B:Nat)(p q:List Int),(∀p q,(D p q).length<=B)->(ib n s d D p q).length<=max 1 (14*B):=by
  intro D B p q hD;unfold ib;split
  ·simp;omega
  ·have gen:∀m,(flS n D (dM q) p q m).length<=m*B:=by
    intro m;induction m with
    |zero=>simp[flS]
    | succ m ih =>
      rw[fX,List.length_append,Nat.add_mul,Nat.one_mul];have:(gc n D (dM q) p q m).length<=B:=by
       unfold gc;split
       ·exact hD _ _
       ·simp
      omega
   have h1:=gen n.Fibers.length;have h2:n.Fibers.length*B<=14*B:=Nat.mul_le_mul_right B b3;omega
 intro k;induction k with
 | zero =>
   intro p q;have:=body (fun _ _=>[]) 0 p q (fun _ _=>by simp);simpa[mN] using this
 | succ k ih =>
   intro p q;have:=body (mN n s d k) (14^k) p q ih;have h2:0<14^k:=Nat.pow_pos (by omega);rw[Nat.pow_succ];show(ib n s d (mN n s d k) p q).length<=_;omega
theorem RN{n:af}(hn:bR n=true)(s d:Int):(jT n s d).length<=105413504:=by
 obtain⟨b1,b2,b3⟩:=eO hn;have h1:=PQ hn (s:=s) (d:=d) (n.Nodes.length-1) [] [s];have h2:(14:Nat)^(n.Nodes.length-1)<=14^7:=Nat.pow_le_pow_right (by omega) (by omega);unfold jT;omega
theorem Wd{n:af}(hn:bR n=true){s d:Int}(hsd:s≠d)(hs:0<=s/\s<(n.Nodes.length:Int)):∃ys,Ib n s d=some ys/\ys.Perm (jT n s d)/\mi n ys:=by
 obtain⟨b1,b2,b3⟩:=eO hn;obtain⟨k,hk⟩:∃k,n.Nodes.length=k+2:=⟨n.Nodes.length-2,by omega⟩;obtain⟨w,rfl⟩:=Int.eq_ofNat_of_zero_le hs.1;have hrl:=RN hn (w:Int) d;have hr:jT n (w:Int) d=ib n (w:Int) d (mN n (w:Int) d k) [] [(w:Int)]:=by unfold jT;rw[hk];rfl
 have hm:vz (2^w) [(w:Int)]:=by
  have:vz 0 []:=⟨by omega,fun i=>by simp⟩;have:=this.ext (w:=w) (by omega);simpa using this
 have hc:=mc hn (s:=(w:Int)) (d:=d) (D:=mN n (w:Int) d k) (rc:=DU N0) (p:=[]) (q:=[(w:Int)]) (m:=2^w) (out:=[]) (fun p1 q1 m1 out1 hp1 e hm1 hl1=>wV hn k N0 (gP (by omega)) p1 q1 m1 out1 hp1 (by simp only[List.length_singleton] at e;omega) hm1 hl1) (RA hn hs) hm (by rw[<-hr];simp;omega);rw[<-hr] at hc;have hok:=rA hn hsd hs (n.Nodes.length-1) [] [(w:Int)] (RA hn hs);obtain⟨ys,y1,y2,y3⟩:=zH (cmp:=fun x0 x1=>xM x0 x1 n) (xs:=jT n (w:Int) d) (fy n) (by omega) (fun x hx y hy=>by
  show xM x y n=_;unfold xM;rw[oE (hok x hx).b (hok y hy).b];rfl) (fun x _=>LL n x) (fun x hx y hy z hz=>Ay ((hok x hx).st.trans (hok y hy).st.symm) ((hok y hy).st.trans (hok z hz).st.symm)) (fun x hx y hy z hz=>vH ((hok x hx).st.trans (hok y hy).st.symm) ((hok y hy).st.trans (hok z hz).st.symm))
 refine⟨ys,?_,y2,y3⟩;unfold Ib;have e0:(((w:Int)) !=d)=true:=bne_iff_ne.2 hsd;have e1:OL (w:Int) (IntKind.wrap .i64 (1*2^(min (Int.toNat (w:Int)) (IntKind.bits .i64)))) [] d [] (w:Int) n=some (d,jT n (w:Int) d,(w:Int),n):=by
  rw[Int.toNat_natCast,BD (show w<8 by omega)];rw[show dM [(w:Int)]=(w:Int) from rfl,List.nil_append] at hc;exact hc
 rw[e0,cond_true,bu (by omega),Option.bind_some,e1];simp only[Option.bind_some];rw[y1];rfl
theorem Ux(xs:List Int)(f:Int->Option Bool)(p:Int->Bool)(hf:∀x,f x=some (p x))(hl:xs.length<=1048576):GC xs f=some (xs.any p):=by
 unfold GC Px;rw[cz (f:=CW xs f) xs (fun _ x=>p x) (fun i _=>(i:Int)) () (fun i x hx _=>by
  have hlt:=(List.getElem?_eq_some_iff.1 hx).1;have h1:decide ((i:Int)<xs.length)=true:=by simp[hlt]
  simp only[CW,h1,cond_true,aU,hx,hf x,Option.bind_some];rw[aF (by omega) (by omega)];cases p x<;>rfl) (by simp[CW]) (by omega)]
 rw[<-rq];cases e:cM (fun _ x=>p x) xs with
 | none =>
   have h:eX (fun _ x=>p x) xs=false:=cR.2 (eZ.1 e);rw[h];rfl
 | some q =>
   obtain⟨i,x⟩:=q;obtain⟨h1,h2,_⟩:=db.1 e;have h:eX (fun _ x=>p x) xs=true:=gR.2 ⟨i,x,h1,h2⟩;rw[h];simp
theorem Jn{n:af}(hn:bR n=true)(hz:aW n<=1048576){s d:Int}(hsd:s≠d)(hs:0<=s/\s<(n.Nodes.length:Int))(hd:0<=d/\d<(n.Nodes.length:Int)):∃L,(if(jT n s d).length<=200 then wx n s d=some (L,true)/\L.Perm (jT n s d)/\mi n L else wx n s d=some ([],false)):=by
 obtain⟨b1,b2,b3⟩:=eO hn;obtain⟨L,l1,l2,l3⟩:=Wd hn hsd hs;have hl:=l2.length_eq;refine⟨L,?_⟩;have e1:Ih n [s,d]=some true:=by
  unfold Ih;rw[iA n hz,hn];simp only[Option.bind_some,cond_true];rw[Ux [s,d] _ (fun x=>!wi x 0 ((n.Nodes.length:Int)-1)) (fun x=>by
   unfold RB;rw[aF (by omega) (by omega),el];rfl) (by simp)]
  have q1:wi s 0 ((n.Nodes.length:Int)-1)=true:=cg.2 (by omega);have q2:wi d 0 ((n.Nodes.length:Int)-1)=true:=cg.2 (by omega);simp[q1,q2]
 have e2:(s==d)=false:=by simpa using hsd
 unfold wx;simp only[bnd,e1,Option.bind_some,Bool.not_true,cond_false,e2,l1];by_cases h:(jT n s d).length<=200
 ·rw[if_pos h];have e3:decide ((200:Int)<(L.length:Int))=false:=by simp only[decide_eq_false_iff_not];omega
  rw[e3];exact⟨rfl,l2,l3⟩
 ·rw[if_neg h];have e3:decide ((200:Int)<(L.length:Int))=true:=by simp only[decide_eq_true_eq];omega
  rw[e3];rfl
end Vs

namespace Vs
open Go
def yO(z:Int):Prop:=∃m:Nat,z=(m:Int)/\m<2^24
def LsB(L:List aq):Prop:=∀o∈L,o.Block.First+o.Block.Count<=24
theorem TR{b:bc}(h:kf b)(h3:b.First+b.Count<=24):yO (dE b):=by
 obtain⟨⟨f1,f2⟩,c1,c2⟩:=h;have hc:(2:Nat)^b.Count.toNat<=2^24:=Nat.pow_le_pow_right (by omega) (by omega);have hf:(2:Nat)^b.First.toNat<=2^24:=Nat.pow_le_pow_right (by omega) (by omega);have hc1:1<=(2:Nat)^b.Count.toNat:=Nat.one_le_two_pow;have hf1:1<=(2:Nat)^b.First.toNat:=Nat.one_le_two_pow;have e1:IntKind.wrap .i64 (1*2^(min (Int.toNat b.Count) (IntKind.bits .i64)))=((2^b.Count.toNat:Nat):Int):=by
  have e:min b.Count.toNat (IntKind.bits .i64)=b.Count.toNat:=by show min _ 64=_;omega
  rw[e,Int.one_mul,show(2:Int)^b.Count.toNat=((2^b.Count.toNat:Nat):Int) by rw[Int.natCast_pow];rfl,aF (by omega) (by omega)]
 have e2:min b.First.toNat (IntKind.bits .i64)=b.First.toNat:=by show min _ 64=_;omega
 have e3:((((2:Nat)^b.Count.toNat:Nat):Int)-1)*2^b.First.toNat=(((2^b.Count.toNat-1)*2^b.First.toNat:Nat):Int):=by
  rw[Int.natCast_mul,Int.natCast_sub hc1,Int.natCast_pow 2 b.First.toNat];rfl
 have hm:(2^b.Count.toNat-1)*2^b.First.toNat<2^24:=by
  have g1:(2:Nat)^b.Count.toNat*2^b.First.toNat<=2^24:=by rw[<-Nat.pow_add];exact Nat.pow_le_pow_right (by omega) (by omega)
  rw[Nat.sub_mul];omega
 refine⟨(2^b.Count.toNat-1)*2^b.First.toNat,?_,hm⟩;unfold dE;rw[e1,aF (n:=(((2:Nat)^b.Count.toNat:Nat):Int)-1) (by omega) (by omega),e2,e3,aF (by omega) (by omega)]
theorem UK{α:Type}(g:α->Int)(p:α->Bool):∀(xs:List α)(k:Nat)(a:Int),yO a->(∀x∈xs,yO (g x))->yO (da (fun _ x(a:Int)=>if p x then bits .or .i64 a (g x) else a) k xs a)
 |[],_,a,ha,_=>ha
 | x :: xs, k, a, ha, hg => by
   simp only[da];refine UK g p xs (k+1) _ ?_ fun y hy=>hg y (by simp[hy]);split
   ·obtain⟨m,rfl,hm⟩:=ha;obtain⟨j,e,hj⟩:=hg x (by simp);rw[e];exact⟨m ||| j,Wu m j (by omega) (by omega),Nat.or_lt_two_pow hm hj⟩
   ·exact ha
theorem SQ:yO 0:=⟨0,rfl,by decide⟩
theorem Ve{n:af}{L:List aq}(hL:nL n L)(hB:LsB L)(fs:List Int):yO (iU L fs):=
 UK (oe L) (fun _=>true) fs 0 0 SQ fun f _=>UK (fun o:aq=>dE o.Block) (fun o:aq=>o.Route.Fibers.any fun y=>y==f) L 0 0 SQ fun o ho=>TR (hL.2 o ho).b (hB o ho)
def fmS(m:Int)(_:Nat)(f:Int)(o:List Int):List Int:=o.set f.toNat (bits .or .i64 (gz o f.toNat) m)
theorem Kt(m:Int):∀(fs:List Int)(k:Nat)(o:List Int),fs.Nodup->(∀f∈fs,0<=f/\f<(o.length:Int))->
 (da (fmS m) k fs o).length=o.length/\∀i:Nat,gz (da (fmS m) k fs o) i=if(i:Int)∈fs then bits .or .i64 (gz o i) m else gz o i
 |[],_,o,_,_=>⟨rfl,fun i=>by simp[da]⟩
 | f :: fs, k, o, hn, hf => by
   obtain⟨h1,h2⟩:=List.nodup_cons.1 hn;have hf0:=hf f (by simp);have hl:(fmS m k f o).length=o.length:=by simp[fmS]
   obtain⟨g1,g2⟩:=Kt m fs (k+1) (fmS m k f o) h2 fun x hx=>by rw[hl];exact hf x (by simp[hx])
   simp only[da];refine⟨by rw[g1,hl],fun i=>?_⟩;rw[g2];unfold fmS;rw[kJ (by omega)];by_cases e:i=f.toNat
   ·have ei:(i:Int)=f:=by omega
    rw[if_pos e,ei,if_neg h1,if_pos (by simp),e]
   ·rw[if_neg e];have e2:((i:Int)∈f::fs)↔(i:Int)∈fs:=by
     rw[List.mem_cons];exact⟨fun h=>h.resolve_left fun e'=>e (by omega),.inr⟩
    by_cases e3:(i:Int)∈fs
    ·rw[if_pos e3,if_pos (e2.2 e3)]
    ·rw[if_neg e3,if_neg fun h=>e3 (e2.1 h)]
def fmG(_:Nat)(x:aq)(o:List Int):List Int:=da (fmS (dE x.Block)) 0 x.Route.Fibers o
theorem JH{N:Nat}:∀(L:List aq)(k:Nat)(o:List Int),o.length=N->(∀x∈L,x.Route.Fibers.Nodup/\∀f∈x.Route.Fibers,0<=f/\f<(N:Int))->
 (da fmG k L o).length=N/\∀i:Nat,gz (da fmG k L o) i=da (fun _(x:aq)(a:Int)=>if(x.Route.Fibers.any fun y=>y==(i:Int)) then bits .or .i64 a (dE x.Block) else a) k L (gz o i)
 |[],_,o,ho,_=>⟨ho,fun i=>rfl⟩
 | x :: L, k, o, ho, hL => by
   obtain⟨h1,h2⟩:=hL x (by simp);obtain⟨a1,a2⟩:=Kt (dE x.Block) x.Route.Fibers 0 o h1 fun f hf=>by rw[ho];exact h2 f hf
   obtain⟨b1,b2⟩:=JH L (k+1) (fmG k x o) (by rw[<-ho];exact a1) fun y hy=>hL y (by simp[hy]);simp only[da];refine⟨b1,fun i=>?_⟩;rw[b2];congr 1;show gz (da _ _ _ _) i=_;rw[a2];by_cases e:(i:Int)∈x.Route.Fibers
   ·rw[if_pos e,if_pos (List.any_eq_true.2 ⟨_,e,by simp⟩)]
   ·rw[if_neg e,if_neg fun h=>e (by obtain⟨z,h1,h2⟩:=List.any_eq_true.1 h;rw[beq_iff_eq] at h2;rw[<-h2];exact h1)]
theorem PT{n:af}{x:aq}(hx:jc n x):∀f∈x.Route.Fibers,0<=f/\f<(n.Fibers.length:Int):=fun f hf=>by
 have:=hx.r.fib f hf;unfold fibI at this;first|omega|(have:=cg.1 this;omega)
theorem uC{n:af}{L:List aq}(hn:n.Fibers.length<=14)(hL:nL n L):∃ms,FW ⟨n,L⟩=some ms/\ms.length=n.Fibers.length/\∀i:Nat,gz ms i=oe L (i:Int):=by
 have hx:=fun x hx=>(⟨(hL.2 x hx).r.nod,PT (hL.2 x hx)⟩:x.Route.Fibers.Nodup/\∀f∈x.Route.Fibers,0<=f/\f<(n.Fibers.length:Int));have h12:=hL.1;obtain⟨r1,r2⟩:=JH L 0 (List.replicate n.Fibers.length 0) (by simp) hx;refine⟨_,?_,r1,fun i=>by rw[r2];unfold oe gz;congr 1;rw[List.getElem?_replicate];split<;>rfl⟩;unfold FW;rw[bu (by dsimp only;omega)];simp only[Option.bind_some,bnd,Int.toNat_natCast];have:=eY (f:=yL ⟨n,L⟩) L (fun i(a:List Int)=>((i:Int),a)) fmG id (fun _ a=>a.length=n.Fibers.length) (fun i a x hxi hI=>by
  have hlt:=(List.getElem?_eq_some_iff.1 hxi).1;have hm:=List.mem_of_getElem? hxi;obtain⟨q1,q2⟩:=hx x hm;have hin:=hL.2 x hm;refine⟨by rw[<-hI];exact(Kt (dE x.Block) x.Route.Fibers 0 a q1 fun f hf=>by rw[hI];exact q2 f hf).1,?_⟩;have key:=eY (f:=M_s x) x.Route.Fibers (fun i(a:List Int)=>((i:Int),a)) (fmS (dE x.Block)) id (fun _ a=>a.length=n.Fibers.length) (fun j b f hf hJ=>by
   have hlt:=(List.getElem?_eq_some_iff.1 hf).1;have hfr:=q2 f (List.mem_of_getElem? hf);have:=hin.r.len;refine⟨by unfold fmS;rw[List.length_set];exact hJ,?_⟩;simp only[M_s,decide_eq_true (show(j:Int)<(x.Route.Fibers.length:Int) by omega),cond_true,aU,hf,Option.bind_some];rw[bu (by omega)];simp only[Option.bind_some,pn (show f.toNat<b.length by omega),mW hin.b,bnd];rw[aF (n:=(j:Int)+1) (by omega) (by omega)];rfl) (fun b _=>by simp[M_s]) a hI (by have:=hin.r.len;omega)
  simp only[yL,decide_eq_true (show(i:Int)<(L.length:Int) by omega),cond_true,aU,hxi,Option.bind_some];rw[show bz (M_s x) N0 (0,a)=some (fmG i x a) from key];simp only[Option.bind_some];rw[aF (n:=(i:Int)+1) (by omega) (by omega)];rfl) (fun a _=>by simp[yL]) (List.replicate n.Fibers.length 0) (by simp) (by omega)
 rw[show bz (yL ⟨n,L⟩) N0 (0,List.replicate n.Fibers.length 0)=some (da fmG 0 L (List.replicate n.Fibers.length 0)) from this];rfl
theorem wS{n:af}{L:List aq}(hn:n.Fibers.length<=14)(hL:nL n L){r:ar}(hr:r.Fibers.length<=20)(hf:∀f∈r.Fibers,0<=f/\f<(n.Fibers.length:Int)):Iq ⟨n,L⟩ r=some (iU L r.Fibers):=by
 obtain⟨ms,m1,m2,m3⟩:=uC hn hL;unfold Iq;rw[m1];simp only[Option.bind_some];have:=eY (f:=M_x r ms) r.Fibers (fun i(a:Int)=>(a,(i:Int))) (fun _(f:Int)(a:Int)=>if true then bits .or .i64 a (oe L f) else a) id (fun _ _=>True) (fun i a f hi _=>by
  have hlt:=(List.getElem?_eq_some_iff.1 hi).1;have hfr:=hf f (List.mem_of_getElem? hi);refine⟨trivial,?_⟩;simp only[M_x,decide_eq_true (show(i:Int)<(r.Fibers.length:Int) by omega),cond_true,aU,hi,Option.bind_some];rw[bu (by omega)];simp only[Option.bind_some,pn (show f.toNat<ms.length by omega),m3,show((f.toNat:Nat):Int)=f by omega];rw[aF (n:=(i:Int)+1) (by omega) (by omega)];rfl) (fun a _=>by simp[M_x]) 0 trivial (by omega)
 rw[show bz (M_x r ms) N0 (0,0)=some (iU L r.Fibers) from this];rfl
def lM(m c:Int):List Int:=da (fun i _(a:List Int)=>if bits .and .i64 m (dE ⟨(i:Int),c⟩)==0 then a++[(i:Int)] else a) 0 (List.range (25-c.toNat)) []
theorem Ly(m c:Int):∀(xs:List Nat)(k:Nat)(a:List Int)(x:Int),x∈da (fun i _(a:List Int)=>if bits .and .i64 m (dE ⟨(i:Int),c⟩)==0 then a++[(i:Int)] else a) k xs a->x∈a\/((k:Int)<=x/\x<((k+xs.length:Nat):Int))
 |[],k,a,x,h=>.inl h
 | y :: xs, k, a, x, h => by
   simp only[da] at h;rcases Ly m c xs (k+1) _ x h with h|h
   ·split at h
    ·rw[List.mem_append,List.mem_singleton] at h;rcases h with h|h
     ·exact .inl h
     ·right;simp only[List.length_cons];omega
    ·exact .inl h
   ·right;simp only[List.length_cons];omega
theorem SE{m c x:Int}(hc:1<=c/\c<=24)(h:x∈lM m c):0<=x/\x+c<=24:=by
 rcases Ly m c _ 0 [] x h with h|h
 ·cases h
 ·rw[List.length_range] at h;omega
theorem wW{f:Int×List Int->Option ((Int×List Int)⊕List Int)}{m c:Int}(hc:1<=c/\c<=24)
 (hf:∀(i:Nat)(a:List Int),i<25->a.length<=25->f ((i:Int),a)=if(i:Int)+c<=24 then some (.inl (((i+1:Nat):Int),if bits .and .i64 m (dE ⟨(i:Int),c⟩)==0 then a++[(i:Int)] else a)) else some (.inr a)):
 bz f N0 (0,[])=some (lM m c):=by
 refine eY (f:=f) (List.range (25-c.toNat)) (fun i(a:List Int)=>((i:Int),a)) _ id (fun i a=>a.length<=i) (fun i a x hx hI=>?_) (fun a hI=>?_) [] (Nat.le_refl _) (by rw[List.length_range];omega)
 ·have hlt:=(List.getElem?_eq_some_iff.1 hx).1;rw[List.length_range] at hlt;have hI:a.length<=i:=hI;refine⟨by show(if _ then _ else _:List Int).length<=i+1;split<;>(try rw[List.length_append,List.length_singleton])<;>omega,?_⟩;rw[hf i a (by omega) (by omega),if_pos (by omega)]
 ·have hI:a.length<=(List.range (25-c.toNat)).length:=hI;rw[List.length_range] at hI⊢;rw[hf _ a (by omega) (by omega),if_neg (by omega)];rfl
theorem vT{m c:Int}(hc:1<=c/\c<=24):Hh m c=some (lM m c):=by
 unfold Hh;rw[wW (f:=IH m c) hc fun i a hi ha=>by
  simp only[IH];rw[aF (n:=(i:Int)+c) (by omega) (by omega)];by_cases h:(i:Int)+c<=24
  ·rw[if_pos h,decide_eq_true h,cond_true,mW (b:=⟨(i:Int),c⟩) (by unfold kf;simp only;omega)];simp only[Option.bind_some,bnd];rw[aF (n:=(i:Int)+1) (by omega) (by omega)];rcases bt (bits .and .i64 m (dE ⟨(i:Int),c⟩)==0) with e|e
   ·rw[e,cond_true,bu (by omega)];rfl
   ·rw[e,cond_false];rfl
  ·rw[if_neg h,decide_eq_false h,cond_false]]
 rfl
theorem KY{m c:Int}(hc:1<=c/\c<=24):Ni m c=some (lM m c):=by
 unfold Ni;rw[wW (f:=M_f m c) hc fun i a hi ha=>by
  simp only[M_f];rw[aF (n:=(i:Int)+c) (by omega) (by omega)];by_cases h:(i:Int)+c<=24
  ·rw[if_pos h,decide_eq_true h,cond_true,kc (b:=⟨(i:Int),c⟩) (by unfold kf;simp only;omega)];simp only[Option.bind_some,bnd];rw[aF (n:=(i:Int)+1) (by omega) (by omega)];rcases bt (bits .and .i64 m (dE ⟨(i:Int),c⟩)==0) with e|e
   ·rw[e,cond_true,bu (by omega)];rfl
   ·rw[e,cond_false];rfl
  ·rw[if_neg h,decide_eq_false h,cond_false]]
 rfl
theorem yd{m c:Int}(hm:yO m)(hc:1<=c/\c<=24):GS m c=some (match lM m c with|[]=>(⟨0,0⟩,false)|x::_=>(⟨x,c⟩,true)):=by
 obtain⟨k,rfl,hk⟩:=hm;unfold GS RC OA;rw[el,el,cg.2 (show(0:Int)<=(k:Int)/\(k:Int)<=16777215 by omega),cg.2 hc,vT hc];simp only[Option.bind_some,cond_true,Bool.not_true,cond_false];cases lM (k:Int) c with
 |nil=>rfl
 | cons x l =>
   have:((((x::l).length:Nat):Int)==0)=false:=by simp only[List.length_cons,beq_eq_false_iff_ne];omega
   rw[this,cond_false,bu (by simp only[List.length_cons];omega)];rfl
end Vs

namespace Vs
open Go
def lsN(L:List aq)(id:Int):Nat:=(L.takeWhile fun y=>decide (y.Id<id)).length
def qW(L:List aq)(x:aq):List aq:=L.take (lsN L x.Id)++[x]++L.drop (lsN L x.Id)
theorem Av(id:Int):∀L:List aq,lsN L id<=L.length
 |[]=>Nat.le_refl _
 | y :: L => by
   unfold lsN;rw[List.takeWhile_cons];split
   ·have:=Av id L;unfold lsN at this;simp only[List.length_cons];omega
   ·exact Nat.zero_le _
theorem Td(id:Int):∀(L:List aq)(m:Nat)(y:aq),L[m]?=some y->(m<lsN L id->y.Id<id)/\(m=lsN L id->¬y.Id<id)
 |[],m,y,h=>by simp at h
 | z :: L, m, y, h => by
   unfold lsN;rw[List.takeWhile_cons];by_cases e:z.Id<id
   ·rw[if_pos (decide_eq_true e)];cases m with
    | zero =>
      simp at h;subst h;exact⟨fun _=>e,fun h=>by simp at h⟩
    | succ m =>
      have:=Td id L m y (by simpa using h);unfold lsN at this;simp only[List.length_cons];exact⟨fun h=>this.1 (by omega),fun h=>this.2 (by omega)⟩
   ·rw[if_neg (by simpa using e)];refine⟨fun h=>by simp at h,fun h'=>?_⟩;have:m=0:=h';subst this;simp at h;subst h;exact e
theorem Ap{f:Int->Option (Int⊕Int)}{L:List aq}{id:Int}(hl:L.length<=1048576)
 (h1:∀(i:Nat) y,L[i]?=some y->f (i:Int)=if y.Id<id then some (.inl ((i+1:Nat):Int)) else some (.inr (i:Int))) (h2:f (L.length:Int)=some (.inr (L.length:Int))):bz f N0 0=some (lsN L id:Int):=by
 have hle:=Av id L;obtain⟨b,hb,hq⟩:=ea (f:=f) (fun s=>∃m:Nat,s=(m:Int)/\m<=lsN L id) (fun s=>lsN L id+1-s.toNat) (fun b=>b=(lsN L id:Int)) (fun s hI=>by
  obtain⟨m,rfl,hm⟩:=hI;by_cases hml:m<L.length
  ·have e2:L[m]?=some L[m]:=List.getElem?_eq_getElem hml;obtain⟨g1,g2⟩:=Td id L m _ e2;rw[h1 m _ e2];by_cases hmi:m<lsN L id
   ·left;rw[if_pos (g1 hmi)];exact⟨_,rfl,⟨m+1,rfl,hmi⟩,by omega⟩
   ·right;obtain rfl:m=lsN L id:=by omega
    rw[if_neg (g2 rfl)];exact⟨_,rfl,rfl⟩
  ·right;obtain rfl:m=L.length:=by omega
   exact⟨_,h2,by rw[show lsN L id=L.length by omega]⟩) N0 0 ⟨0,rfl,Nat.zero_le _⟩ (gP (by simp;omega))
 rw[hb,hq]
theorem nR{n:af}(hnet:bR n=true){L:List aq}(hL:nL n L){x:aq}(hx:x.Route.Fibers.length<=20):ET ⟨n,L⟩ x=some ⟨n,qW L x⟩:=by
 have hz:=iq hL.1 hL.2;have hzn:=jk hnet;have h12:=hL.1;have hle:=Av x.Id L;unfold ET;rw[mr ⟨n,L⟩ (by simpa using Nat.le_trans hzn (by omega)) (by dsimp only;omega)];simp only[Option.bind_some];rw[Ap (f:=Eh ⟨n,L⟩ x) (L:=L) (id:=x.Id) (by omega) (fun i y hi=>by
  have hlt:=(List.getElem?_eq_some_iff.1 hi).1;simp only[Eh,decide_eq_true (show(i:Int)<(L.length:Int) by omega),cond_true,aU,hi,Option.bind_some];rw[aF (n:=(i:Int)+1) (by omega) (by omega)];by_cases e:y.Id<x.Id
  ·rw[if_pos e,decide_eq_true e];rfl
  ·rw[if_neg e,decide_eq_false e];rfl) (by simp[Eh])]
 simp only[Option.bind_some];unfold Cb;rw[bu (by omega)];simp only[Option.bind_some,bnd];unfold yQ;rw[if_pos ⟨by omega,by simpa using hle,by simp,by simp only[List.length_singleton];omega⟩];rfl
theorem HW{n:af}(hnet:bR n=true){L:List aq}(hL:nL n L){x:aq}(hx:x.Route.Fibers.length<=20):
 NZ x.Id x.Route.Start x.Block.First x.Block.Count n.Nodes n.Fibers L x.Route.Fibers=some (n.Nodes,qW L x,n.Fibers,n.Nodes,n.Fibers,L,x.Route.Fibers):=by
 have hz:=iq hL.1 hL.2;have hzn:=jk hnet;have h12:=hL.1;have hle:=Av x.Id L;unfold NZ;rw[show xQ (⟨(⟨n.Nodes,n.Fibers⟩:af),L⟩:aK)=some ⟨n,L⟩ from AC ⟨n,L⟩ (by simpa using Nat.le_trans hzn (by omega)) (by dsimp only;omega)];simp only[Option.bind_some];rw[Ap (f:=Co x.Id (⟨n,L⟩:aK)) (L:=L) (id:=x.Id) (by omega) (fun i y hi=>by
  have hlt:=(List.getElem?_eq_some_iff.1 hi).1;simp only[Co,decide_eq_true (show(i:Int)<(L.length:Int) by omega),cond_true];rw[bu (by omega)];simp only[Option.bind_some,Int.toNat_natCast,hi];rw[aF (n:=(i:Int)+1) (by omega) (by omega)];by_cases e:y.Id<x.Id
  ·rw[if_pos e,decide_eq_true e];rfl
  ·rw[if_neg e,decide_eq_false e];rfl) (by simp[Co])]
 have hc:=nj x (by omega);rw[show tU (⟨x.Id,(⟨x.Route.Start,x.Route.Fibers⟩:ar),(⟨x.Block.First,x.Block.Count⟩:bc)⟩:aq)=some x from hc];have s1:fR L 0 (lsN L x.Id)=L.take (lsN L x.Id):=by rw[fQ,List.drop_zero]
 have s2:fR L (lsN L x.Id) (L.length-lsN L x.Id)=L.drop (lsN L x.Id):=by rw[fQ,List.take_of_length_le (by rw[List.length_drop];omega)]
 have l1:(L.take (lsN L x.Id)).length=lsN L x.Id:=by rw[List.length_take];omega
 simp only[Option.bind_some,Int.toNat_natCast,bnd,s1,s2];rw[bu ⟨trivial,by omega,trivial,by omega⟩];simp only[Option.bind_some];rw[bu (by omega)];simp only[Option.bind_some];rw[bu (by omega)];simp only[Option.bind_some];rw[bu ⟨by omega,trivial,by omega,trivial⟩];simp only[Option.bind_some];rw[bu (by simp only[List.length_append,List.length_singleton,List.length_drop];omega)];rfl
theorem wa(n:af):∀(es:List Int)(i:Nat)(v:Int)(acc l:List Int),cm (ne n) (fun a=>some a.2) i es (v,acc)=some l->∃t,l=acc++t
 |[],i,v,acc,l,h=>⟨[],by simpa[cm] using h.symm⟩
 | e :: es, i, v, acc, l, h => by
   simp only[cm,ne] at h;split at h
   ·rename_i a ha;split at ha
    ·cases ha
    ·cases ha;obtain⟨t,ht⟩:=wa n es (i+1) _ _ l h;exact⟨cD n e v::t,by rw[ht];simp⟩
   ·rename_i b hb;split at hb
    ·cases hb;cases h
    ·cases hb
theorem qO{n:af}(hn:bR n=true){r:ar}{l:List Int}(h:ix n r=some l):(0<=r.Start/\r.Start<(n.Nodes.length:Int))/\(0<=fu n r/\fu n r<(n.Nodes.length:Int))/\r.Start≠fu n r:=by
 obtain⟨g1,g2,g3,g4,g5⟩:=sJ (vE hn) h;have h':=h;unfold ix at h';split at h'
 ·cases h'
 ·rename_i hc;simp only[Bool.or_eq_true,Bool.not_eq_true',decide_eq_true_eq,not_or] at hc;obtain⟨t,rfl⟩:=wa n _ _ _ _ _ h';have ht:0<t.length:=by rw[List.length_append,List.length_singleton] at g3;omega
  have e:fu n r=gz ([r.Start]++t) t.length:=by
   unfold fu;rw[h];simp
  have hm:([r.Start]++t)[t.length]?=some (fu n r):=by rw[e];exact pn (by simp)
  have ht':∃k,t.length=k+1:=⟨t.length-1,by omega⟩;obtain⟨k,hk⟩:=ht';have hmt:fu n r∈t:=by
   rw[hk] at hm;exact List.mem_of_getElem? (by simpa using hm)
  refine⟨g2 _ (by simp),g2 _ (by simp[hmt]),fun e'=>?_⟩;simp only[List.singleton_append] at g1;exact(List.nodup_cons.1 g1).1 (by rw[e'];exact hmt)
def iM(n:af)(s d:Int):List ar×Bool:=(wx n s d).getD ([],false)
theorem Gm{n:af}(hn:bR n=true){s d:Int}(hsd:s≠d)(hs:0<=s/\s<(n.Nodes.length:Int))(hd:0<=d/\d<(n.Nodes.length:Int)):KO n s d=some true:=by
 have hb:=gv hn;have hz:=jk hn;unfold KO;rw[qx n (by omega),hn];simp only[Option.bind_some,cond_true];rw[aF (by omega) (by omega),iv,iv,cg.2 (show(0:Int)<=s/\s<=(n.Nodes.length:Int)-1 by omega),cg.2 (show(0:Int)<=d/\d<=(n.Nodes.length:Int)-1 by omega)];simp only[Option.bind_some,cond_true];rw[bne_iff_ne.2 hsd]
theorem tK{n:af}(hn:bR n=true){s d:Int}(hsd:s≠d)(hs:0<=s/\s<(n.Nodes.length:Int))(hd:0<=d/\d<(n.Nodes.length:Int)):
 wx n s d=some (iM n s d)/\Kx n s d=some ((iM n s d).2,(iM n s d).1)/\(∀r∈(iM n s d).1,RtV n s r)/\(iM n s d).1.length<=200/\((iM n s d).2=false->(iM n s d).1=[]):=by
 have hz:=jk hn;obtain⟨L,hL⟩:=Jn hn (by omega) hsd hs hd;obtain⟨K,hK⟩:=UR hn hsd hs;unfold Kx iM;rw[Gm hn hsd hs hd];simp only[Option.bind_some,Bool.not_true,cond_false];by_cases h:(jT n s d).length<=200
 ·rw[if_pos h] at hL hK;obtain⟨a1,a2,a3⟩:=hL;obtain⟨b1,b2,b3⟩:=hK;have e:L=K:=AX L K (a2.trans b2.symm) a3 b3;subst e;rw[a1,b1];exact⟨rfl,rfl,fun r hr=>rA hn hsd hs _ _ _ (RA hn hs) r (a2.mem_iff.1 hr),by show L.length<=200;rw[a2.length_eq];exact h,fun h=>by cases h⟩
 ·rw[if_neg h] at hL hK;rw[hL,hK];exact⟨rfl,rfl,fun r hr=>(by cases hr),Nat.zero_le _,fun _=>rfl⟩
def okR(L:List aq)(D:List Int)(c:Int)(r:ar):Bool:=gJ r.Fibers D&&decide (0<(lM (iU L r.Fibers) c).length)
def Hk(L:List aq)(y:aq)(r:ar):aq:=⟨y.Id,r,⟨(lM (iU L r.Fibers) y.Block.Count).headD 0,y.Block.Count⟩⟩
def plX(n:af)(L:List aq)(D:List Int)(y:aq):Option aq:=
 if gJ y.Route.Fibers D&&!(L.any fun o=>dd o.Route o.Block y.Route y.Block) then some y
 else(cM (fun _ r=>okR L D y.Block.Count r) (iM n y.Route.Start (fu n y.Route)).1).map fun q=>Hk L y q.2
def rsP(n:af)(L H:List aq)(D:List Int)(y:aq):aj×Bool:=
 match plX n L D y with|some x=>(⟨⟨n,qW L x⟩,H,D⟩,true)|none=>(⟨⟨n,L⟩,H,D⟩,false)
theorem Pn{L:List aq}{y:aq}(h:y.Id∉L.map (·.Id)):OT L y=L.any fun o=>dd o.Route o.Block y.Route y.Block:=by
 unfold OT;rw[Bool.eq_iff_iff,List.any_eq_true,List.any_eq_true];constructor
 ·rintro⟨o,ho,h1⟩;rw[Bool.and_eq_true] at h1;exact⟨o,ho,h1.2⟩
 ·rintro⟨o,ho,h1⟩;refine⟨o,ho,?_⟩;rw[Bool.and_eq_true];exact⟨bne_iff_ne.2 fun e=>h (e▸List.mem_map_of_mem ho),h1⟩
theorem Re{α:Type}(l:List α):decide ((0:Int)<(l.length:Int))=decide (0<l.length):=by
 by_cases h:0<l.length
 ·rw[decide_eq_true h,decide_eq_true (by omega)]
 ·rw[decide_eq_false h,decide_eq_false (by omega)]
structure StL(n:af)(L:List aq):Prop where
 net:bR n=true
 ls:nL n L
 b:LsB L
theorem Vk{m c:Int}(h:0<(lM m c).length):∃l,lM m c=(lM m c).headD 0::l:=by
 cases e:lM m c with
 |nil=>rw[e] at h;cases h
 |cons x l=>exact⟨l,rfl⟩
theorem NN{n:af}(hn:bR n=true){s:Int}{r:ar}(h:RtV n s r):MY n r:=by
 obtain⟨l,hl⟩:=Option.isSome_iff_exists.1 h.v;exact(uA hn hl).1
theorem yJ{n:af}{L H:List aq}{D:List Int}(hS:StL n L)(hH:nL n H)(hD:D.length<=1048576){k:Nat}{y:aq}(hf:iE H y.Id=some (k,y))(hy:ec n y=true)(hno:y.Id∉L.map (·.Id)):
 FQ ⟨⟨n,L⟩,H,D⟩ y.Id=some (rsP n L H D y):=by
 have hz:=iq hS.ls.1 hS.ls.2;have hzh:=iq hH.1 hH.2;have hzn:=jk hS.net;have hb:=gv hS.net;have h12:=hS.ls.1;have hH12:=hH.1;have hyl:=gY hS.net hy;obtain⟨hk,_⟩:=oU hf;obtain⟨l,hl⟩:=gM hy;obtain⟨s1,s2,s3⟩:=qO hS.net hl;have hc:1<=y.Block.Count/\y.Block.Count<=24:=by
  unfold ec jS at hy;simp only[Bool.and_eq_true,cg] at hy;omega
 obtain⟨r1,r2,r3,r4,r5⟩:=tK hS.net s3 s1 s2;have hyf:=hyl.r.len;unfold FQ;rw[mL ⟨⟨n,L⟩,H,D⟩ (by dsimp only;omega) (by dsimp only;omega) (by dsimp only;omega) hD,vS ⟨⟨n,L⟩,H,D⟩ y.Id (by dsimp only;omega)];have hfi:fY H y.Id=(k:Int):=by unfold fY;rw[hf]
 simp only[Option.bind_some,hfi,aU,hk];rw[Om (n:=n) ⟨⟨n,L⟩,H,D⟩ hS.ls y hyl hD];simp only[Option.bind_some,Pn hno];unfold rsP plX;rcases bt (gJ y.Route.Fibers D&&!(L.any fun o=>dd o.Route o.Block y.Route y.Block)) with e|e
 ·rw[e,cond_true,if_pos rfl,nR hS.net hS.ls (by omega)];rfl
 ·rw[e,cond_false,if_neg (by simp),tI hS.net (by omega) hl];simp only[Option.bind_some];rw[r1];simp only[Option.bind_some];rcases bt (iM n y.Route.Start (fu n y.Route)).2 with eo|eo
  ·rw[eo,Bool.not_true,cond_false];rw[cz (f:=DL ⟨⟨n,L⟩,H,D⟩ y.Id ⟨⟨n,L⟩,H,D⟩ y (iM n y.Route.Start (fu n y.Route))) (iM n y.Route.Start (fu n y.Route)).1 (fun _ r=>okR L D y.Block.Count r)
    (fun _ r=>((⟨⟨n,qW L (Hk L y r)⟩,H,D⟩:aj),true)) () (fun i r hi _=>by
     have hlt:=(List.getElem?_eq_some_iff.1 hi).1;have hrv:=r3 r (List.mem_of_getElem? hi);have hri:=NN hS.net hrv;have hrl:=hri.len;obtain⟨q,q1,_,q3⟩:=ng r.Fibers D hrl hD;simp only[DL,decide_eq_true (show(i:Int)<((iM n y.Route.Start (fu n y.Route)).1.length:Int) by omega),cond_true];rw[bu (by omega)];simp only[Option.bind_some,Int.toNat_natCast,hi,q1,yD q3];rw[aF (n:=(i:Int)+1) (by omega) (by omega)];unfold okR;rcases bt (gJ r.Fibers D) with e1|e1
     ·rw[e1,Bool.not_true,cond_false,wS (by omega) hS.ls (by omega) hrv.b.2.1];simp only[Option.bind_some,Bool.true_and];rw[yd (Ve hS.ls hS.b r.Fibers) hc];simp only[Option.bind_some];by_cases e2:0<(lM (iU L r.Fibers) y.Block.Count).length
      ·rw[decide_eq_true e2,if_pos rfl];obtain⟨t,ht⟩:=Vk e2;unfold Hk;rw[ht];simp only[cond_true,List.headD_cons];rw[nR hS.net hS.ls (by dsimp only;omega)];rfl
      ·rw[decide_eq_false e2,if_neg (by simp)];have:lM (iU L r.Fibers) y.Block.Count=[]:=List.eq_nil_of_length_eq_zero (by omega);rw[this];rfl
     ·rw[e1,Bool.not_false,cond_true,Bool.false_and,if_neg (by simp)];rfl) (by simp[DL]) (by omega)]
   cases cM (fun _ r=>okR L D y.Block.Count r) (iM n y.Route.Start (fu n y.Route)).1<;>rfl
  ·rw[eo,Bool.not_false,cond_true,r5 eo];rfl
theorem CH{r:aj}(z1:aW r.Plan.Network<=1048576)(z2:bb r.Plan.Lights<=1048576)(z3:bb r.Home<=1048576)(z4:r.Down.length<=1048576):Cz r=some r:=by
 unfold Cz M_o;rw[AC _ z1 z2,DC _ z3,bu (by omega)];rfl
theorem zK{n:af}{L H:List aq}{D:List Int}(hS:StL n L)(hD:D.length<=1048576){y:aq}(hy:ec n y=true):
 CT ⟨⟨n,L⟩,H,D⟩ y=some (match plX n L D y with|some x=>(x,true)|none=>(⟨0,⟨0,[]⟩,⟨0,0⟩⟩,false)):=by
 have hb:=gv hS.net;have h12:=hS.ls.1;have hyl:=gY hS.net hy;obtain⟨l,hl⟩:=gM hy;obtain⟨s1,s2,s3⟩:=qO hS.net hl;have hc:1<=y.Block.Count/\y.Block.Count<=24:=by
  unfold ec jS at hy;simp only[Bool.and_eq_true,cg] at hy;omega
 obtain⟨r1,r2,r3,r4,r5⟩:=tK hS.net s3 s1 s2;have hyf:=hyl.r.len;unfold CT plX;rw[mM y.Route D (by omega) hD];simp only[Option.bind_some,Bool.not_not];have e0:(cond (gJ y.Route.Fibers D) ((zZ (⟨n,L⟩:aK) y.Route).bind fun rZ3=>(rT y.Block).bind fun rZ4=>some ((bits .and .i64 rZ3 rZ4)==0)) (some false):Option Bool)=some (gJ y.Route.Fibers D&&!(L.any fun o=>dd o.Route o.Block y.Route y.Block)):=by
  rw[sV (p:=⟨n,L⟩) hS.ls y.Route hyf,kc hyl.b];simp only[Option.bind_some];rw[Fz hS.ls hyl];cases gJ y.Route.Fibers D<;>rfl
 rw[e0];simp only[Option.bind_some];rcases bt (gJ y.Route.Fibers D&&!(L.any fun o=>dd o.Route o.Block y.Route y.Block)) with e|e
 ·rw[e,cond_true,if_pos rfl,nj y (by omega)];rfl
 ·rw[e,cond_false,if_neg (by simp),ue hS.net (by omega) hl];simp only[Option.bind_some];rw[r2];simp only[Option.bind_some];rcases bt (iM n y.Route.Start (fu n y.Route)).2 with eo|eo
  ·rw[cz (f:=De ⟨⟨n,L⟩,H,D⟩ y ((iM n y.Route.Start (fu n y.Route)).2,(iM n y.Route.Start (fu n y.Route)).1)) (iM n y.Route.Start (fu n y.Route)).1 (fun _ r=>okR L D y.Block.Count r)
    (fun _ r=>(Hk L y r,true)) () (fun i r hi _=>by
     have hlt:=(List.getElem?_eq_some_iff.1 hi).1;have hrv:=r3 r (List.mem_of_getElem? hi);have hri:=NN hS.net hrv;have hrl:=hri.len;simp only[De,decide_eq_true (show(i:Int)<((iM n y.Route.Start (fu n y.Route)).1.length:Int) by omega),cond_true,eo,Option.bind_some];rw[bu (by omega)];simp only[Option.bind_some,Int.toNat_natCast,hi];rw[mM r D (by omega) hD,aF (n:=(i:Int)+1) (by omega) (by omega)];simp only[Option.bind_some];unfold okR;rcases bt (gJ r.Fibers D) with e1|e1
     ·rw[e1,Bool.not_true,cond_false,sV (p:=⟨n,L⟩) hS.ls r hrl];simp only[Option.bind_some,Bool.true_and];rw[KY hc];simp only[Option.bind_some,Re];by_cases e2:0<(lM (iU L r.Fibers) y.Block.Count).length
      ·rw[decide_eq_true e2,if_pos rfl,cond_true];obtain⟨t,ht⟩:=Vk e2;unfold Hk Cp M_o;rw[bu (by omega)];simp only[Option.bind_some];rw[bu (by omega),ht];rfl
      ·rw[decide_eq_false e2,if_neg (by simp)];rfl
     ·rw[e1,Bool.not_false,cond_true,Bool.false_and,if_neg (by simp)];rfl) (by simp[De]) (by omega)]
   cases cM (fun _ r=>okR L D y.Block.Count r) (iM n y.Route.Start (fu n y.Route)).1<;>rfl
  ·rw[r5 eo,eo];rfl
theorem uK{n:af}{L H:List aq}{D:List Int}(hS:StL n L)(hH:nL n H)(hD:D.length<=1048576){k:Nat}{y:aq}(hk:H[k]?=some y)(hy:ec n y=true)(hp:∀x,plX n L D y=some x->x.Route.Fibers.length<=20):
 Gu (k:Int) n.Nodes n.Fibers L H D=some ((rsP n L H D y).2,n.Nodes,n.Fibers,(rsP n L H D y).1.Plan.Lights,H,D,n.Nodes,n.Fibers,L,H,D):=by
 have hz:=iq hS.ls.1 hS.ls.2;have hzh:=iq hH.1 hH.2;have hzn:=jk hS.net;have hlt:=(List.getElem?_eq_some_iff.1 hk).1;have hH12:=hH.1;unfold Gu;rw[bu (by omega)];simp only[Option.bind_some,Int.toNat_natCast,hk];rw[show CT (⟨(⟨(⟨n.Nodes,n.Fibers⟩:af),L⟩:aK),H,D⟩:aj) y=_ from zK hS hD hy];simp only[Option.bind_some];rw[show Cz (⟨(⟨(⟨n.Nodes,n.Fibers⟩:af),L⟩:aK),H,D⟩:aj)=_ from CH (r:=⟨⟨n,L⟩,H,D⟩) (by dsimp only;omega) (by dsimp only;omega) (by dsimp only;omega) hD];simp only[Option.bind_some];unfold rsP;cases e:plX n L D y with
 |none=>rfl
 | some x =>
   simp only[cond_true];rw[HW hS.net hS.ls (hp x e)];rfl
end Vs

namespace Vs
open Go
theorem JT(L:List aq)(x:aq):(qW L x).Perm (x::L):=by
 unfold qW;rw[List.append_assoc,List.singleton_append];refine List.perm_middle.trans ?_;rw[List.take_append_drop]
structure StH(n:af)(H L:List aq):Prop where
 st:StL n L
 nd:(L.map (·.Id)).Nodup
 sub:∀x∈L,x.Id∈H.map (·.Id)
theorem AE{α:Type}[BEq α][LawfulBEq α]:∀(xs ys:List α),xs.Nodup->(∀x∈xs,x∈ys)->xs.length<=ys.length
 |[],_,_,_=>Nat.zero_le _
 | x :: xs, ys, hn, hs => by
   obtain⟨h1,h2⟩:=List.nodup_cons.1 hn;have hx:=hs x (by simp);have:=AE xs (ys.erase x) h2 fun z hz=>(List.mem_erase_of_ne fun e=>h1 (by rw[<-e];exact hz)).2 (hs z (by simp[hz]));have hp:0<ys.length:=List.length_pos_of_mem hx;rw[List.length_erase_of_mem hx] at this;simp only[List.length_cons];omega
theorem TM{n:af}{y:aq}(hy:ec n y=true):(0<=y.Block.First/\y.Block.First+y.Block.Count<=24)/\1<=y.Block.Count/\y.Block.Count<=24:=by
 unfold ec jS at hy;simp only[Bool.and_eq_true,cg] at hy;omega
theorem Tf{n:af}{L:List aq}{D:List Int}(hS:StL n L){y x:aq}(hy:ec n y=true)(h:plX n L D y=some x):x.Id=y.Id/\jc n x/\x.Block.First+x.Block.Count<=24:=by
 have hb:=TM hy;obtain⟨l,hl⟩:=gM hy;obtain⟨s1,s2,s3⟩:=qO hS.net hl;obtain⟨r1,r2,r3,r4,r5⟩:=tK hS.net s3 s1 s2;unfold plX at h;split at h
 ·cases h;exact⟨rfl,gY hS.net hy,hb.1.2⟩
 ·rw[Option.map_eq_some_iff] at h;obtain⟨q,hq,rfl⟩:=h;obtain⟨q1,q2,_⟩:=db.1 hq;have hrv:=r3 q.2 (List.mem_of_getElem? q1);unfold okR at q2;simp only[Bool.and_eq_true,decide_eq_true_eq] at q2;obtain⟨t,ht⟩:=Vk q2.2;have hr:=SE (x:=(lM (iU L q.2.Fibers) y.Block.Count).headD 0) hb.2 (by rw[ht];simp);refine⟨rfl,⟨NN hS.net hrv,?_⟩,hr.2⟩;show kf ⟨_,_⟩;unfold kf;dsimp only;omega
theorem VD{n:af}{H L:List aq}{D:List Int}(hS:StH n H L)(hH:H.length<=12){y x:aq}(hm:y∈H)(hy:ec n y=true)(hno:y.Id∉L.map (·.Id))(h:plX n L D y=some x):StH n H (qW L x):=by
 obtain⟨h1,h2,h3⟩:=Tf hS.st hy h;have hp:=JT L x;have hin:∀z,z∈qW L x->z=x\/z∈L:=fun z hz=>by
  have:=hp.mem_iff.1 hz;simpa using this
 have hsub:∀z∈qW L x,z.Id∈H.map (·.Id):=fun z hz=>by
  rcases hin z hz with rfl|hz
  ·rw[h1];exact List.mem_map_of_mem hm
  ·exact hS.sub z hz
 have hnd:((qW L x).map (·.Id)).Nodup:=by
  refine((hp.map (·.Id)).nodup_iff).2 ?_;rw[List.map_cons,List.nodup_cons,h1];exact⟨hno,hS.nd⟩
 have hl:=AE ((qW L x).map (·.Id)) (H.map (·.Id)) hnd fun i hi=>by
  obtain⟨z,hz,rfl⟩:=List.mem_map.1 hi;exact hsub z hz
 rw[List.length_map,List.length_map] at hl;exact⟨⟨hS.st.net,⟨by omega,fun z hz=>(hin z hz).elim (fun e=>e▸h2) (hS.st.ls.2 z)⟩,fun z hz=>(hin z hz).elim (fun e=>e▸h3) (hS.st.b z)⟩,hnd,hsub⟩
theorem xH{p:aK}(h:tn p):(p.Lights.map (·.Id)).Nodup:=by
 refine rd (Bo fun i a b ha hb=>?_);rw[List.getElem?_map,Option.map_eq_some_iff] at ha hb;obtain⟨x,hx,rfl⟩:=ha;obtain⟨y,hy,rfl⟩:=hb;exact h.asc i x y hx hy
theorem qd{L:List aq}{id:Int}{q:Nat×aq}(h:iE L id=some q):q.2∈L/\q.2.Id=id/\L[q.1]?=some q.2:=by
 obtain⟨i,y⟩:=q;obtain⟨h1,h2⟩:=oU h;exact⟨List.mem_of_getElem? h1,h2,h1⟩
theorem va{L:List aq}{id:Int}:iE L id=none↔id∉L.map (·.Id):=by
 unfold iE;rw[eZ];constructor
 ·intro h hm;obtain⟨z,hz,e⟩:=List.mem_map.1 hm;obtain⟨j,hj⟩:=List.getElem?_of_mem hz;have:=h j z hj;rw[e] at this;simp at this
 ·intro h j z hj;simp only[beq_eq_false_iff_ne];exact fun e=>h (e▸List.mem_map_of_mem (List.mem_of_getElem? hj))
theorem wq{L:List aq}{id:Int}:fY L id<0↔id∉L.map (·.Id):=by
 rw[<-va];unfold fY;cases h:iE L id with
 |none=>simp
 |some q=>simp
theorem Mm{r:aj}(h:kE r=true):StH r.Plan.Network r.Home r.Plan.Lights:=by
 have hR:=tX h;refine⟨⟨hR.pl.net,⟨hR.pl.len,hR.pl.lgt⟩,fun o ho=>(TM (hR.pl.ok o ho)).1.2⟩,xH hR.pl,fun x hx=>?_⟩;unfold kE at h;simp only[Bool.and_eq_true,Bool.not_eq_true',List.any_eq_false] at h;have:=h.2 x hx;unfold kt at this;cases e:iE r.Home x.Id with
 |none=>rw[e] at this;simp at this
 | some q =>
   obtain⟨h1,h2,_⟩:=qd e;rw[<-h2];exact List.mem_map_of_mem h1
def rlP(r:aj)(id:Int):aj×Bool×Bool:=
 if kE r then match iE r.Home id with
  |some q=>if fY r.Plan.Lights id<0 then((rsP r.Plan.Network r.Plan.Lights r.Home r.Down q.2).1,(rsP r.Plan.Network r.Plan.Lights r.Home r.Down q.2).2,true) else(QL,false,false)
  |none=>(QL,false,false)
 else(QL,false,false)
theorem Ax{α:Type}(p:α->Bool)(g:α->Int):∀(xs:List α)(i:Nat)(a:List Int),cm (fun(_:Nat)(x:α)(a:List Int)=>(.inl (if p x then a++[g x] else a):List Int⊕List Int)) (fun a=>a) i xs a=a++(xs.filter p).map g
 |[],_,a=>by simp[cm]
 | x :: xs, i, a => by
   simp only[cm];rw[Ax p g xs (i+1)];rcases bt (p x) with e|e
   ·rw[if_pos e,List.filter_cons_of_pos e];simp
   ·rw[if_neg (by rw[e];simp),List.filter_cons_of_neg (by rw[e];simp)]
theorem TC(r:aj):wtL r=(r.Home.filter (wtB r)).map (·.Id):=by
 unfold wtL;rw[Ax];rfl
theorem xt(r:aj)(id:Int):id∈wtL r↔(∃q,iE r.Home id=some q)/\fY r.Plan.Lights id<0:=by
 rw[TC];simp only[List.mem_map,List.mem_filter,wtB,decide_eq_true_eq];constructor
 ·rintro⟨x,⟨h1,h2⟩,rfl⟩;refine⟨?_,h2⟩;cases e:iE r.Home x.Id with
  |none=>exact absurd (List.mem_map_of_mem h1) (va.1 e)
  |some q=>exact⟨q,rfl⟩
 ·rintro⟨⟨q,hq⟩,h2⟩;obtain⟨h1,h3,_⟩:=qd hq;exact⟨q.2,⟨h1,by rw[h3];exact h2⟩,h3⟩
theorem lH(r:aj)(id:Int)(hz:aN r<=1048576):Ce r id=some (rlP r id):=by
 obtain⟨z1,z2,z3,z4⟩:=AD hz;unfold Ce rlP;rw[ki r hz];rcases bt (kE r) with e|e
 ·have hR:=tX e;have hS:=Mm e;have hlen:(wtL r).length<=12:=by rw[TC,List.length_map];exact Nat.le_trans (List.length_filter_le _ _) hR.hm.len
  rw[e,if_pos rfl,Option.bind_some,Bool.not_true,cond_false,Da r hR.hm.len hR.pl.len,Option.bind_some,uz _ _ (by omega)];simp only[Option.bind_some];cases hq:iE r.Home id with
  | none =>
    rw[decide_eq_false (fun h=>by obtain⟨⟨q,hq'⟩,_⟩:=(xt r id).1 h;rw[hq] at hq';cases hq')];rfl
  | some q =>
    by_cases hn:fY r.Plan.Lights id<0
    ·obtain⟨h1,h2,h3⟩:=qd hq;rw[decide_eq_true ((xt r id).2 ⟨⟨q,hq⟩,hn⟩)];simp only[Bool.not_true,cond_false,if_pos hn];have:=yJ (n:=r.Plan.Network) (L:=r.Plan.Lights) (H:=r.Home) (D:=r.Down) hS.st ⟨hR.hm.len,hR.hm.lgt⟩ z4 (k:=q.1) (y:=q.2) (by rw[h2];exact hq) (hR.hm.ok _ h1) (by rw[h2];exact wq.1 hn);rw[h2] at this;rw[show FQ r id=_ from this];rfl
    ·rw[decide_eq_false (fun h=>hn ((xt r id).1 h).2)];simp only[Bool.not_false,cond_true,if_neg hn];rfl
 ·rw[e,if_neg (by simp)];rfl
theorem Qm(n:af)(L H:List aq)(D:List Int)(y:aq):(rsP n L H D y).1.Plan.Network=n/\(rsP n L H D y).1.Home=H/\(rsP n L H D y).1.Down=D:=by
 unfold rsP;cases plX n L D y<;>exact⟨rfl,rfl,rfl⟩
theorem lG(r:aj)(id:Int)(hz:aN r<=1048576):IL id r.Plan.Network.Nodes r.Plan.Network.Fibers r.Plan.Lights r.Home r.Down=
 some ((rlP r id).2.1,(rlP r id).2.2,(rlP r id).1.Plan.Network.Nodes,(rlP r id).1.Plan.Network.Fibers,(rlP r id).1.Plan.Lights,(rlP r id).1.Home,(rlP r id).1.Down,r.Plan.Network.Nodes,r.Plan.Network.Fibers,r.Plan.Lights,r.Home,r.Down):=by
 obtain⟨z1,z2,z3,z4⟩:=AD hz;have hl:=ru z2;have hh:=ru z3;unfold IL rlP;rw[show CQ (⟨(⟨(⟨r.Plan.Network.Nodes,r.Plan.Network.Fibers⟩:af),r.Plan.Lights⟩:aK),r.Home,r.Down⟩:aj)=_ from Fc r hz,tm r.Home id hh,
  show Eb (⟨(⟨r.Plan.Network.Nodes,r.Plan.Network.Fibers⟩:af),r.Plan.Lights⟩:aK) id=_ from NG r.Plan id hl]
 rcases bt (kE r) with e|e
 ·have hR:=tX e;have hS:=Mm e;rw[e,if_pos rfl];simp only[Option.bind_some,Bool.not_true,cond_false];cases hq:iE r.Home id with
  | none =>
    have:fY r.Home id=-1:=by unfold fY;rw[hq]
    rw[this];rfl
  | some q =>
    obtain⟨h1,h2,h3⟩:=qd hq;have hi:fY r.Home id=(q.1:Int):=by unfold fY;rw[hq]
    rw[hi,decide_eq_false (show¬((q.1:Int)<0) by omega)];simp only[cond_false,Option.bind_some];by_cases hn:fY r.Plan.Lights id<0
    ·rw[decide_eq_false (show¬(0<=fY r.Plan.Lights id) by omega),cond_false];simp only[if_pos hn];rw[uK (n:=r.Plan.Network) hS.st ⟨hR.hm.len,hR.hm.lgt⟩ z4 h3 (hR.hm.ok _ h1) (fun x hx=>by have:=(Tf hS.st (hR.hm.ok _ h1) hx).2.1.r.len;omega)];obtain⟨a1,a2,a3⟩:=Qm r.Plan.Network r.Plan.Lights r.Home r.Down q.2;simp only[Option.bind_some,a1,a2,a3]
    ·rw[decide_eq_true (show 0<=fY r.Plan.Lights id by omega),cond_true];simp only[if_neg hn];rfl
 ·rw[e,if_neg (by simp)];rfl
theorem z_st{n:af}{H L:List aq}{D:List Int}(hS:StL n L)(hH:nL n H)(hD:D.length<=14):aN ⟨⟨n,L⟩,H,D⟩<=1048576:=by
 have h1:=jk hS.net;have h2:=iq hS.ls.1 hS.ls.2;have h3:=iq hH.1 hH.2;show aW n+bb L+bb H+D.length<=1048576;omega
theorem oI(r:aj)(id:Int)(hz:aN r<=1048576):aN (rlP r id).1<=1048576:=by
 have h0:aN QL<=1048576:=by decide
 unfold rlP;split
 ·rename_i e;have hR:=tX e;have hS:=Mm e;have hD:r.Down.length<=14:=by
   have:=QH hR.dn;have:=(gv hR.pl.net).2.2;omega
  split
  ·rename_i q hq;obtain⟨h1,h2,h3⟩:=qd hq;split
   ·rename_i hn;show aN (rsP r.Plan.Network r.Plan.Lights r.Home r.Down q.2).1<=1048576;unfold rsP;cases hp:plX r.Plan.Network r.Plan.Lights r.Down q.2 with
    |none=>exact z_st hS.st ⟨hR.hm.len,hR.hm.lgt⟩ hD
    |some x=>exact z_st (VD hS hR.hm.len h1 (hR.hm.ok _ h1) (by rw[h2];exact wq.1 hn) hp).st ⟨hR.hm.len,hR.hm.lgt⟩ hD
   ·exact h0
  ·exact h0
 ·exact h0
end Vs

namespace Vs
open Go
theorem kH{α:Type}{xs:List α}{n:Nat}(h:xs.length=n):fR xs 0 n=xs:=by subst h;exact iY xs
theorem jJ(x1:aj)(x2:Int)(o1:gG x1):Ph x1 x2=some true:=by
 unfold Ph;rw[oH x1 _ (by omega) (by omega) o1];simp only[Option.bind_some];by_cases hc1:(1048576:Int)-aN x1<0
 ·simp[hc1]
 simp only[hc1,if_false,decide_false,cond_false];have z1:aN x1<=1048576:=by omega
 have zr:=oI x1 x2 z1;have zr1:=zr;have w1:=w_ii x1;have f1:=gj 1 x1;have m1:=hZ x1 1 (by omega) (by omega) z1;have n1:decide ((be 1 x1).1<0)=false:=decide_eq_false (by omega);have w2:=w_ii (rlP x1 x2).1;have f2:=gj 1 (rlP x1 x2).1;have m2:=hZ (rlP x1 x2).1 1 (by omega) (by omega) zr1;have n2:decide ((be 1 (rlP x1 x2).1).1<0)=false:=decide_eq_false (by omega);have grZ33:uY (⟨(⟨(⟨(be 1 (rlP x1 x2).1).2.1,(be 1 (rlP x1 x2).1).2.2.1⟩:af),(be 1 (rlP x1 x2).1).2.2.2.1⟩:aK),(be 1 (rlP x1 x2).1).2.2.2.2.1,(be 1 (rlP x1 x2).1).2.2.2.2.2⟩:aj) 1=some (be 1 (rlP x1 x2).1).1:=ik (rlP x1 x2).1 1 (by omega) (by omega) zr1;have grZ43:uY (⟨(⟨(⟨(be 1 (rlP x1 x2).1).2.1,(be 1 (rlP x1 x2).1).2.2.1⟩:af),(be 1 (rlP x1 x2).1).2.2.2.1⟩:aK),(be 1 (rlP x1 x2).1).2.2.2.2.1,(be 1 (rlP x1 x2).1).2.2.2.2.2⟩:aj) 1=some (be 1 (rlP x1 x2).1).1:=ik (rlP x1 x2).1 1 (by omega) (by omega) zr1;simp only[lG x1 x2 z1,lH x1 x2 z1,oD x1 z1,jF ((rlP x1 x2).1) zr1,jF x1 z1,m1,n1,m2,n2,kH (kb 1 (rlP x1 x2).1),kH (kO 1 (rlP x1 x2).1),kH (kq 1 (rlP x1 x2).1),kH (kx 1 (rlP x1 x2).1),kH (kC 1 (rlP x1 x2).1),grZ33,grZ43,iY,Option.bind_some,Bool.not_true,beq_self_eq_true,bnd,bne_self_eq_false,cond_false,cond_true]
end Vs

