/-
  Part of the proof that the law FnExactAllRings returns true at every input; no condition beside the row's own.
-/
import Derived.Test.YteilpiddonoikaaQe
import Derived.Test.YteilpiddonoikaaGa
set_option linter.defProp false
set_option linter.unusedSimpArgs false
set_option linter.unusedVariables false
namespace Vs
open Go
theorem b2s_len:∀ (ns:List Int) (r:ByteArray),(ns.foldl (fun r n=>r.push (UInt8.ofNat n.toNat)) r).size=r.size+ns.length
 | [],r=>by simp
 | n :: ns, r => by
   simp only [List.foldl_cons,b2s_len ns,List.length_cons,ByteArray.size_push]; omega
theorem b2s_size (ns:List Int):(b2s ns).size=ns.length:=by
 unfold b2s; rw [b2s_len]; simp
def txt (k:Int):ByteArray:=(M_bg k).getD ⟨#[]⟩
theorem p_markText (k:Int) (h0:0≤k) (h1:k≤1000000000000):M_bg k=some (txt k):=by
 have:∃ r,M_bg k=some r:=by
  unfold M_bg
  by_cases h:k≤0
  · exact ⟨_,by rw [decide_eq_true h,cond_true]⟩
  · rw [decide_eq_false h,cond_false]
    obtain ⟨b,hb,hq⟩:=iter_inv (f:=M_ae) (fun s=>0≤s.1∧s.2.size≤13∧s.1 * 10 ^ s.2.size≤1000000000000) (fun s=>s.1.toNat) (fun b=>b.size≤13) (fun s hI=>by
     obtain ⟨a,z⟩:=s
     obtain ⟨i1,i2,i3⟩:=hI
     simp only at i1 i2 i3
     by_cases hp:0 < a
     · left
       have hz:z.size≤12:=by
        apply Decidable.byContradiction
        intro hc
        have e:z.size=13:=by omega
        rw [e] at i3
        omega
       have hd:10 * (a.tdiv 10)≤a:=by rw [Int.tdiv_eq_ediv_of_nonneg i1]; omega
       have hd2:a.tdiv 10 < a:=by rw [Int.tdiv_eq_ediv_of_nonneg i1]; omega
       have hd3:0≤a.tdiv 10:=by rw [Int.tdiv_eq_ediv_of_nonneg i1]; omega
       have hpow:(0:Int)≤10 ^ z.size:=Int.le_of_lt (Int.pow_pos (by omega))
       have ha:a≤1000000000000:=by
        have h1:(1:Int)≤10 ^ z.size:=Int.pow_pos (by omega)
        have:=Int.mul_le_mul_of_nonneg_left h1 i1
        omega
       refine ⟨(a.tdiv 10,b2s [IntKind.wrap .u8 (IntKind.wrap .i64 (48+(Int.tmod a 10)))]++z),?_,⟨hd3,?_,?_⟩,by simp only; omega⟩
       · simp only [M_ae,decide_eq_true hp,cond_true,bnd]
         rw [grd_t (by omega),grd_t (by rw [b2s_size]; simp; omega)]
         simp only [Option.bind_some]
         rw [w64_eq (n:=Int.tdiv a 10) (by omega) (by omega)]
       · simp only [ByteArray.size_append,b2s_size,List.length_cons,List.length_nil]; omega
       · simp only [ByteArray.size_append,b2s_size,List.length_cons,List.length_nil]
         rw [show 0+1+z.size=z.size+1 by omega,Int.pow_succ,Int.mul_comm (10 ^ z.size) 10,← Int.mul_assoc,Int.mul_comm (a.tdiv 10) 10]
         exact Int.le_trans (Int.mul_le_mul_of_nonneg_right hd hpow) i3
     · right
       exact ⟨z,by simp only [M_ae,decide_eq_false hp,cond_false],i2⟩) N0 (k,⟨#[]⟩) ⟨h0,by show (0:Nat)≤13; omega,by show k * 10 ^ 0≤1000000000000; simpa using h1⟩ (N0_lt (by simp; omega))
    rw [hb]
    simp only [Option.bind_some]
    rw [grd_t (by have:(⟨#[109]⟩:ByteArray).size=1:=rfl; omega)]
    exact ⟨_,rfl⟩
 obtain ⟨r,hr⟩:=this
 unfold txt; rw [hr]; rfl
def z_StringS (xs:(List ByteArray)):Nat:=xs.length+(xs.map fun x=>x.size).sum
def ok_StringS (xs:(List ByteArray)):Prop:=xs.length≤9223372036854775807∧∀ x∈xs,x.size≤9223372036854775807
theorem p_szStringS (xs:(List ByteArray)) (l:Int) (h1:0≤l) (h2:l≤1048576) (hs:ok_StringS xs):M_cd xs l=some (if l - z_StringS xs < 0 then (-1:Int) else l - z_StringS xs):=by
 unfold M_cd
 have hs1:=hs.1
 rw [w64_eq (by omega) (by omega)]
 simp only [cond_ite,decide_eq_true_eq]
 by_cases h:l - (xs.length:Int) < 0
 · rw [if_pos h,if_pos (by unfold z_StringS; omega)]
 · rw [if_neg h,sz_loop (f:=M_r xs) xs (fun x=>x.size) (fun i x l' hx h3 h4=>by
    have hlt:=(List.getElem?_eq_some_iff.1 hx).1
    have h1:decide ((i:Int) < xs.length)=true:=by simp [hlt]
    have hx2:=hs.2 x (List.mem_of_getElem? hx)
    simp only [M_r,h1,cond_true,geti_nat,hx,Option.bind_some,cond_ite,decide_eq_true_eq]
    rw [w64_eq (by omega) (by omega),w64_eq (by omega) (by omega)]
    by_cases h5:l' - (x.size:Int) < 0
    · simp only [if_pos h5,if_true]
    · simp only [if_neg h5,if_true]; rfl) (fun l=>by simp [M_r]) _ (by omega) (by omega) (by omega)]
   have e:l - (xs.length:Int) - ((xs.map fun x=>x.size).sum:Nat)=l - (z_StringS xs:Int):=by unfold z_StringS; omega
   rw [e]
   by_cases h5:l - (z_StringS xs:Int) < 0
   · simp only [if_pos h5,Option.bind_some]
   · simp only [if_neg h5,Option.bind_some]
theorem p_toStringS (xs:(List ByteArray)) (hl:z_StringS xs≤1048576):M_cg xs=some xs:=by
 unfold M_cg
 have hlen:xs.length≤1048576:=by unfold z_StringS at hl; omega
 have key:=fun l0 (h0:l0.length=xs.length)=>iter_copy (f:=M_s xs) xs id l0 h0 (fun i l x y hx hy hll=>by
  have hlt:=(List.getElem?_eq_some_iff.1 hx).1
  have h1:decide ((i:Int) < xs.length)=true:=by simp [hlt]
  have h2:(0≤(i:Int)∧(i:Int) < (l.length:Int)):=by omega
  simp only [M_s,h1,cond_true,geti_nat,hx,Option.bind_some,grd_t h2,Int.toNat_natCast,hy,bnd,id]
  rw [w64_eq (by omega) (by omega)]; rfl) (fun l=>by simp [M_s]) (by omega)
 rw [grd_t (by omega)]
 simp only [Option.bind_some,bnd]
 rw [key _ (by simp)]; simp
theorem p_eqStringS (xs:(List ByteArray)) (hl:z_StringS xs≤1048576):M_cp xs xs=some true:=by
 unfold M_cp
 have hlen:xs.length≤1048576:=by unfold z_StringS at hl; omega
 rw [eq_loop (f:=M_ac xs xs) xs (fun i x hx=>by
  have hlt:=(List.getElem?_eq_some_iff.1 hx).1
  have h1:decide ((i:Int) < xs.length)=true:=by simp [hlt]
  simp only [M_ac,h1,cond_true,geti_nat,hx,Option.bind_some,beq_self_eq_true,Bool.not_true,cond_false]
  rw [w64_eq (by omega) (by omega)]; rfl) (by simp [M_ac]) (by omega)]
 simp
theorem p_toFiber (x:TFiber):M_bj x=some x:=by unfold M_bj; rfl
theorem p_eqFiber (x:TFiber):M_bm x x=some true:=by unfold M_bm; simp
def z_FiberS (xs:(List TFiber)):Nat:=xs.length
def ok_FiberS (xs:(List TFiber)):Prop:=xs.length≤9223372036854775807
theorem p_szFiberS (xs:(List TFiber)) (l:Int) (h1:0≤l) (h2:l≤1048576) (hs:ok_FiberS xs):M_ce xs l=some (if l - z_FiberS xs < 0 then (-1:Int) else l - z_FiberS xs):=by
 unfold M_ce
 unfold ok_FiberS at hs
 rw [w64_eq (by omega) (by omega)]
 simp only [cond_ite,decide_eq_true_eq]
 by_cases h:l - (xs.length:Int) < 0
 · rw [if_pos h,if_pos (show l - (z_FiberS xs:Int) < 0 from h)]
 · rw [if_neg h,if_neg (show ¬ l - (z_FiberS xs:Int) < 0 from h)]; rfl
theorem p_toFiberS (xs:(List TFiber)) (hl:z_FiberS xs≤1048576):M_ch xs=some xs:=by
 unfold M_ch
 have hlen:xs.length≤1048576:=by unfold z_FiberS at hl; omega
 have key:=fun l0 (h0:l0.length=xs.length)=>iter_copy (f:=M_t xs) xs id l0 h0 (fun i l x y hx hy hll=>by
  have hlt:=(List.getElem?_eq_some_iff.1 hx).1
  have h1:decide ((i:Int) < xs.length)=true:=by simp [hlt]
  have h2:(0≤(i:Int)∧(i:Int) < (l.length:Int)):=by omega
  have hto:M_bj x=some x:=p_toFiber x
  simp only [M_t,h1,cond_true,geti_nat,hx,Option.bind_some,grd_t h2,Int.toNat_natCast,hy,hto,bnd,id]
  rw [w64_eq (by omega) (by omega)]; rfl) (fun l=>by simp [M_t]) (by omega)
 rw [grd_t (by omega)]
 simp only [Option.bind_some,bnd]
 rw [key _ (by simp)]; simp
theorem p_eqFiberS (xs:(List TFiber)) (hl:z_FiberS xs≤1048576):M_cq xs xs=some true:=by
 unfold M_cq
 have hlen:xs.length≤1048576:=by unfold z_FiberS at hl; omega
 rw [eq_loop (f:=M_ad xs xs) xs (fun i x hx=>by
  have hlt:=(List.getElem?_eq_some_iff.1 hx).1
  have h1:decide ((i:Int) < xs.length)=true:=by simp [hlt]
  have he:M_bm x x=some true:=p_eqFiber x
  simp only [M_ad,h1,cond_true,geti_nat,hx,Option.bind_some,he,Bool.not_true,cond_false]
  rw [w64_eq (by omega) (by omega)]; rfl) (by simp [M_ad]) (by omega)]
 simp
def z_Network (x:TNetwork):Nat:=z_StringS x.Nodes+z_FiberS x.Fibers
def ok_Network (x:TNetwork):Prop:=ok_StringS x.Nodes∧ok_FiberS x.Fibers
theorem p_szNetwork (x:TNetwork) (l:Int) (h1:0≤l) (h2:l≤1048576) (hs:ok_Network x):M_cf x l=some (if l - z_Network x < 0 then (-1:Int) else l - z_Network x):=by
 unfold M_cf
 obtain ⟨hs0,hs1⟩:=hs
 rw [p_szStringS _ _ (by omega) (by omega) hs0]
 simp only [Option.bind_some]
 by_cases h10:l - (z_StringS x.Nodes:Int) < 0
 · rw [if_pos h10,if_pos (show l - (z_Network x:Int) < 0 by unfold z_Network; omega)]; simp
 · simp only [if_neg h10]
   simp only [h10,decide_false,cond_false]
   rw [p_szFiberS _ _ (by omega) (by omega) hs1]
   simp only [Option.bind_some]
   by_cases h11:l - (z_StringS x.Nodes:Int) - (z_FiberS x.Fibers:Int) < 0
   · rw [if_pos h11,if_pos (show l - (z_Network x:Int) < 0 by unfold z_Network; omega)]; simp
   · simp only [if_neg h11]
     simp only [h11,decide_false,cond_false]
     have e:l - (z_StringS x.Nodes:Int) - (z_FiberS x.Fibers:Int)=l - (z_Network x:Int):=by unfold z_Network; omega
     rw [e,if_neg (by omega)]
theorem p_toNetwork (x:TNetwork) (hl:z_Network x≤1048576):M_au x=some x:=by
 unfold M_au
 simp only [p_toStringS x.Nodes (by unfold z_Network at hl; omega),p_toFiberS x.Fibers (by unfold z_Network at hl; omega),Option.bind_some]
theorem p_eqNetwork (x:TNetwork) (hl:z_Network x≤1048576):M_cr x x=some true:=by
 unfold M_cr
 simp [p_eqStringS x.Nodes (by unfold z_Network at hl; omega),p_eqFiberS x.Fibers (by unfold z_Network at hl; omega)]
def z_IntS (xs:(List Int)):Nat:=xs.length
theorem p_eqIntS (xs:(List Int)) (hl:z_IntS xs≤1048576):M_bl xs xs=some true:=by
 unfold M_bl
 have hlen:xs.length≤1048576:=by unfold z_IntS at hl; omega
 rw [eq_loop (f:=M_aa xs xs) xs (fun i x hx=>by
  have hlt:=(List.getElem?_eq_some_iff.1 hx).1
  have h1:decide ((i:Int) < xs.length)=true:=by simp [hlt]
  simp only [M_aa,h1,cond_true,geti_nat,hx,Option.bind_some,bne_self_eq_false,cond_false]
  rw [w64_eq (by omega) (by omega)]; rfl) (by simp [M_aa]) (by omega)]
 simp
def z_IntSS (xs:(List (List Int))):Nat:=xs.length+(xs.map fun x=>z_IntS x).sum
theorem p_eqIntSS (xs:(List (List Int))) (hl:z_IntSS xs≤1048576):M_az xs xs=some true:=by
 unfold M_az
 have hlen:xs.length≤1048576:=by unfold z_IntSS at hl; omega
 rw [eq_loop (f:=M_ab xs xs) xs (fun i x hx=>by
  have hlt:=(List.getElem?_eq_some_iff.1 hx).1
  have h1:decide ((i:Int) < xs.length)=true:=by simp [hlt]
  have he:M_bl x x=some true:=p_eqIntS x (by have:=sum_ge (fun x=>z_IntS x) hx; unfold z_IntSS at hl; omega)
  simp only [M_ab,h1,cond_true,geti_nat,hx,Option.bind_some,he,Bool.not_true,cond_false]
  rw [w64_eq (by omega) (by omega)]; rfl) (by simp [M_ab]) (by omega)]
 simp
def mk_StringS (k:Int) (_:ByteArray):Int×ByteArray:=(k+1,txt k)
def w_ar (_:ByteArray):Nat:=1
theorem hw_StringS (k:Int) (x:ByteArray):(mk_StringS k x).1=k+(w_ar x:Int):=rfl
theorem w_dc (xs:(List ByteArray)):(xs.map w_ar).sum≤16 * z_StringS xs:=by
 unfold z_StringS
 induction xs with
 | nil=>simp
 | cons x xs ih=>simp only [List.map_cons,List.sum_cons,List.length_cons,w_ar] at ih ⊢; omega
theorem p_markStringS (xs:(List ByteArray)) (k0:Int) (hk:0≤k0) (hK:k0+((xs.map w_ar).sum:Nat)≤1000000000000) (hl:z_StringS xs≤1048576):M_cs k0 xs=some (markL mk_StringS k0 xs):=by
 unfold M_cs
 have hlen:xs.length≤1048576:=by unfold z_StringS at hl; omega
 rw [mark_loop (f:=M_af) xs mk_StringS w_ar hw_StringS 1000000000000 (fun i x k l hll hi hx hli h0 hK2=>by
  have hw1:w_ar x=w_ar x:=rfl
  have h1:decide ((i:Int) < (l.length:Int))=true:=decide_eq_true (by omega)
  have h2:0≤(i:Int)∧(i:Int) < (l.length:Int):=by omega
  simp only [M_af,h1,cond_true,grd_t h2,Option.bind_some,Int.toNat_natCast,hli,bnd,p_markText k h0 (by omega)]
  rw [w64_eq (n:=k+1) (by unfold w_ar at hK2; omega) (by unfold w_ar at hK2; omega),w64_eq (n:=(i:Int)+1) (by unfold w_ar at hK2; omega) (by unfold w_ar at hK2; omega)]
  rfl) (fun k l hll=>by simp [M_af,hll]) k0 hk hK (by omega)]
 rfl
def mk_FiberS (k:Int) (_:TFiber):Int×TFiber:=(k+4,⟨k,k+1,k+2,k+3⟩)
def w_am (_:TFiber):Nat:=4
theorem hw_FiberS (k:Int) (x:TFiber):(mk_FiberS k x).1=k+(w_am x:Int):=rfl
theorem w_dd (xs:(List TFiber)):(xs.map w_am).sum≤16 * z_FiberS xs:=by
 unfold z_FiberS
 induction xs with
 | nil=>simp
 | cons x xs ih=>simp only [List.map_cons,List.sum_cons,List.length_cons,w_am] at ih ⊢; omega
theorem p_markFiberS (xs:(List TFiber)) (k0:Int) (hk:0≤k0) (hK:k0+((xs.map w_am).sum:Nat)≤1000000000000) (hl:z_FiberS xs≤1048576):M_ct k0 xs=some (markL mk_FiberS k0 xs):=by
 unfold M_ct
 have hlen:xs.length≤1048576:=by unfold z_FiberS at hl; omega
 rw [mark_loop (f:=M_ag) xs mk_FiberS w_am hw_FiberS 1000000000000 (fun i x k l hll hi hx hli h0 hK2=>by
  have hw1:w_am x=w_am x:=rfl
  have h1:decide ((i:Int) < (l.length:Int))=true:=decide_eq_true (by omega)
  have h2:0≤(i:Int)∧(i:Int) < (l.length:Int):=by omega
  simp only [M_ag,h1,cond_true,grd_t h2,Option.bind_some,Int.toNat_natCast,hli,bnd,List.getElem?_set_self (show i < l.length by omega),List.set_set]
  rw [w64_eq (n:=k+1) (by unfold w_am at hK2; omega) (by unfold w_am at hK2; omega),w64_eq (n:=k+1+1) (by unfold w_am at hK2; omega) (by unfold w_am at hK2; omega),w64_eq (n:=k+1+1+1) (by unfold w_am at hK2; omega) (by unfold w_am at hK2; omega),w64_eq (n:=k+1+1+1+1) (by unfold w_am at hK2; omega) (by unfold w_am at hK2; omega),w64_eq (n:=(i:Int)+1) (by unfold w_am at hK2; omega) (by unfold w_am at hK2; omega)]
  simp only [Int.add_assoc,Int.reduceAdd,mk_FiberS]
  rfl) (fun k l hll=>by simp [M_ag,hll]) k0 hk hK (by omega)]
 rfl
def mkr_Network (k:Int) (x:TNetwork):Int×List ByteArray×List TFiber:=((markL mk_FiberS (markL mk_StringS k x.Nodes).1 x.Fibers).1,(markL mk_StringS k x.Nodes).2,(markL mk_FiberS (markL mk_StringS k x.Nodes).1 x.Fibers).2)
def wr_Network (x:TNetwork):Nat:=(x.Nodes.map w_ar).sum+(x.Fibers.map w_am).sum
theorem mkr_fst_Network (k:Int) (x:TNetwork):(mkr_Network k x).1=k+(wr_Network x:Int):=by
 unfold mkr_Network wr_Network
 simp only [markL_fst mk_StringS w_ar hw_StringS,markL_fst mk_FiberS w_am hw_FiberS]
 try omega
theorem w_da (x:TNetwork):wr_Network x≤16 * z_Network x:=by
 unfold wr_Network
 have hz:z_Network x=z_StringS x.Nodes+z_FiberS x.Fibers:=by unfold z_Network; omega
 have:=w_dc x.Nodes
 have:=w_dd x.Fibers
 omega
theorem p_markNetwork (x:TNetwork) (k0:Int) (hk:0≤k0) (hK:k0+(wr_Network x:Int)≤1000000000000) (hl:z_Network x≤1048576):M_cu k0 x.Nodes x.Fibers=some (mkr_Network k0 x):=by
 unfold M_cu
 unfold wr_Network at hK
 have hz:z_Network x=z_StringS x.Nodes+z_FiberS x.Fibers:=by unfold z_Network; omega
 have f0:=markL_fst mk_StringS w_ar hw_StringS x.Nodes k0
 have f1:=markL_fst mk_FiberS w_am hw_FiberS x.Fibers ((markL mk_StringS k0 x.Nodes).1)
 rw [p_markStringS x.Nodes k0 (by omega) (by omega) (by omega)]
 simp only [Option.bind_some]
 rw [p_markFiberS x.Fibers ((markL mk_StringS k0 x.Nodes).1) (by omega) (by omega) (by omega)]
 simp only [Option.bind_some]
 rfl
def mk_IntS (k:Int) (_:Int):Int×Int:=(k+1,k)
def w_IntS (_:Int):Nat:=1
theorem hw_IntS (k:Int) (x:Int):(mk_IntS k x).1=k+(w_IntS x:Int):=rfl
theorem w_de (xs:(List Int)):(xs.map w_IntS).sum≤16 * z_IntS xs:=by
 unfold z_IntS
 induction xs with
 | nil=>simp
 | cons x xs ih=>simp only [List.map_cons,List.sum_cons,List.length_cons,w_IntS] at ih ⊢; omega
theorem p_markIntS (xs:(List Int)) (k0:Int) (hk:0≤k0) (hK:k0+((xs.map w_IntS).sum:Nat)≤1000000000000) (hl:z_IntS xs≤1048576):M_cv k0 xs=some (markL mk_IntS k0 xs):=by
 unfold M_cv
 have hlen:xs.length≤1048576:=by unfold z_IntS at hl; omega
 rw [mark_loop (f:=M_ah) xs mk_IntS w_IntS hw_IntS 1000000000000 (fun i x k l hll hi hx hli h0 hK2=>by
  have hw1:w_IntS x=w_IntS x:=rfl
  have h1:decide ((i:Int) < (l.length:Int))=true:=decide_eq_true (by omega)
  have h2:0≤(i:Int)∧(i:Int) < (l.length:Int):=by omega
  simp only [M_ah,h1,cond_true,grd_t h2,Option.bind_some,Int.toNat_natCast,hli,bnd]
  rw [w64_eq (n:=k+1) (by unfold w_IntS at hK2; omega) (by unfold w_IntS at hK2; omega),w64_eq (n:=(i:Int)+1) (by unfold w_IntS at hK2; omega) (by unfold w_IntS at hK2; omega)]
  rfl) (fun k l hll=>by simp [M_ah,hll]) k0 hk hK (by omega)]
 rfl
theorem p_heldIntS (xs:(List Int)) (k0:Int) (hk:0≤k0) (hK:k0+((xs.map w_IntS).sum:Nat)≤1000000000000) (hl:z_IntS xs≤1048576):M_bo (markL mk_IntS k0 xs).2 k0=some (markL mk_IntS k0 xs).1:=by
 unfold M_bo
 have hlen:xs.length≤1048576:=by unfold z_IntS at hl; omega
 rw [held_loop (f:=M_aj (markL mk_IntS k0 xs).2) xs mk_IntS w_IntS hw_IntS 1000000000000 k0 (fun i x k hx hm h0 hK2=>by
  have hi:=(List.getElem?_eq_some_iff.1 hx).1
  have h1:decide ((i:Int) < ((markL mk_IntS k0 xs).2.length:Int))=true:=decide_eq_true (by rw [markL_len]; omega)
  simp only [M_aj,h1,cond_true,geti_nat,hm,Option.bind_some,mk_IntS,bne_self_eq_false,cond_false]
  rw [w64_eq (n:=k+1) (by unfold w_IntS at hK2; omega) (by unfold w_IntS at hK2; omega),w64_eq (n:=(i:Int)+1) (by unfold w_IntS at hK2; omega) (by unfold w_IntS at hK2; omega)]
  rfl) (fun k=>by simp [M_aj,markL_len]) hk hK (by omega)]
 rfl
def mk_IntSS (k:Int) (x:(List Int)):Int×(List Int):=markL mk_IntS k x
def w_at (x:(List Int)):Nat:=(x.map w_IntS).sum
theorem hw_IntSS (k:Int) (x:(List Int)):(mk_IntSS k x).1=k+(w_at x:Int):=markL_fst mk_IntS w_IntS hw_IntS x k
theorem w_db (xs:(List (List Int))):(xs.map w_at).sum≤16 * z_IntSS xs:=by
 unfold z_IntSS
 induction xs with
 | nil=>simp
 | cons x xs ih =>
   have:=w_de x
   simp only [List.map_cons,List.sum_cons,List.length_cons,w_at] at ih ⊢
   omega
theorem p_markIntSS (xs:(List (List Int))) (k0:Int) (hk:0≤k0) (hK:k0+((xs.map w_at).sum:Nat)≤1000000000000) (hl:z_IntSS xs≤1048576):M_bn k0 xs=some (markL mk_IntSS k0 xs):=by
 unfold M_bn
 have hlen:xs.length≤1048576:=by unfold z_IntSS at hl; omega
 rw [mark_loop (f:=M_ai) xs mk_IntSS w_at hw_IntSS 1000000000000 (fun i x k l hll hi hx hli h0 hK2=>by
  have hw1:w_at x=w_at x:=rfl
  have h1:decide ((i:Int) < (l.length:Int))=true:=decide_eq_true (by omega)
  have h2:0≤(i:Int)∧(i:Int) < (l.length:Int):=by omega
  have hb:z_IntS x≤1048576:=by have:=sum_ge (fun x=>z_IntS x) hx; unfold z_IntSS at hl; omega
  simp only [M_ai,h1,cond_true,grd_t h2,Option.bind_some,Int.toNat_natCast,hli,bnd,p_markIntS x k h0 (by unfold w_at at hK2; omega) hb]
  rw [w64_eq (n:=(i:Int)+1) (by omega) (by omega)]
  rfl) (fun k l hll=>by simp [M_ai,hll]) k0 hk hK (by omega)]
 rfl
theorem p_heldIntSS (xs:(List (List Int))) (k0:Int) (hk:0≤k0) (hK:k0+((xs.map w_at).sum:Nat)≤1000000000000) (hl:z_IntSS xs≤1048576):M_bh (markL mk_IntSS k0 xs).2 k0=some (markL mk_IntSS k0 xs).1:=by
 unfold M_bh
 have hlen:xs.length≤1048576:=by unfold z_IntSS at hl; omega
 rw [held_loop (f:=M_ak (markL mk_IntSS k0 xs).2) xs mk_IntSS w_at hw_IntSS 1000000000000 k0 (fun i x k hx hm h0 hK2=>by
  have hi:=(List.getElem?_eq_some_iff.1 hx).1
  have h1:decide ((i:Int) < ((markL mk_IntSS k0 xs).2.length:Int))=true:=decide_eq_true (by rw [markL_len]; omega)
  have hb:z_IntS x≤1048576:=by have:=sum_ge (fun x=>z_IntS x) hx; unfold z_IntSS at hl; omega
  have hw2:(mk_IntSS k x).1=k+(w_at x:Int):=hw_IntSS k x
  have hn:decide ((mk_IntSS k x).1 < 0)=false:=decide_eq_false (by omega)
  have hh:M_bo (mk_IntSS k x).2 k=some (mk_IntSS k x).1:=p_heldIntS x k h0 (by unfold w_at at hK2; omega) hb
  simp only [M_ak,h1,cond_true,geti_nat,hm,Option.bind_some,hh,hn,cond_false]
  rw [w64_eq (n:=(i:Int)+1) (by omega) (by omega)]
  rfl) (fun k=>by simp [M_ak,markL_len]) hk hK (by omega)]
 rfl
end Vs

namespace Vs
open Go
def wi (x a b:Int):Bool:=decide (a≤x)&&decide (x≤b)
theorem wi_iff {x a b:Int}:wi x a b=true↔a≤x∧x≤b:=by simp [wi]
theorem wi_false {x a b:Int}:wi x a b=false↔¬ (a≤x∧x≤b):=by rw [← wi_iff]; simp
theorem p_within (x a b:Int):M_ao x a b=some (wi x a b):=by
 unfold M_ao wi; by_cases h:a≤x <;> simp [h]
theorem p_l1In (x a b:Int):M_an x a b=some (wi x a b):=by
 unfold M_an wi; by_cases h:a≤x <;> simp [h]
def letB (c:UInt8):Bool:=decide (97≤c.toNat)&&decide (c.toNat≤122)
def digB (c:UInt8):Bool:=decide (48≤c.toNat)&&decide (c.toNat≤57)
def nameBad (i:Nat) (c:UInt8):Bool:=!letB c&&(!digB c||i==0)
def nameB (s:ByteArray):Bool:=!anyI nameBad s.data.toList&&wi s.size 1 8
theorem getz_nat (s:ByteArray) (i:Nat):getz s (i:Int)=s.data.toList[i]?:=by
 unfold getz
 rw [if_pos (by omega),Int.toNat_natCast]
 by_cases h:i < s.size
 · have h2:i < s.data.toList.length:=by simpa using h
   rw [getElem?_pos s i h,List.getElem?_eq_getElem h2]
   rfl
 · have h2:¬ i < s.data.toList.length:=by simpa using h
   rw [getElem?_neg s i h,List.getElem?_eq_none (Nat.le_of_not_lt h2)]
theorem size_list (s:ByteArray):s.size=s.data.toList.length:=by show s.data.size=s.data.toList.length; rw [Array.length_toList]
theorem letB_c (c:UInt8):letB c=(decide (97≤(c.toNat:Int))&&decide ((c.toNat:Int)≤122)):=by
 unfold letB
 congr 1 <;> exact decide_eq_decide.2 (by omega)
theorem digB_c (c:UInt8):digB c=(decide (48≤(c.toNat:Int))&&decide ((c.toNat:Int)≤57)):=by
 unfold digB
 congr 1 <;> exact decide_eq_decide.2 (by omega)
theorem p_isName (s:ByteArray) (hl:s.size≤1048576):M_cm s=some (nameB s):=by
 unfold M_cm nameB
 rw [size_list] at *
 rw [iter_anyI (f:=M_h s) s.data.toList nameBad (.inr false) (.inl ()) (fun i c hc _=>by
  have hlt:=(List.getElem?_eq_some_iff.1 hc).1
  have h1:decide ((i:Int) < s.size)=true:=decide_eq_true (by rw [size_list]; omega)
  simp only [M_h,h1,cond_true,getz_nat,hc,Option.bind_some,nameBad,letB_c,digB_c]
  rw [w64_eq (by omega) (by omega)]
  have hi:((i:Int)==0)=(i==0):=by rw [Bool.eq_iff_iff]; simp
  rw [hi]
  cases decide (97≤(c.toNat:Int)) <;> cases decide ((c.toNat:Int)≤122) <;> cases decide (48≤(c.toNat:Int)) <;> cases decide ((c.toNat:Int)≤57) <;> cases (i==0) <;> rfl) (by simp [M_h]) (by omega)]
 rw [← size_list]
 cases anyI nameBad s.data.toList <;> simp [p_within]
theorem p_l2Sign (c:UInt8):M_ci (c.toNat:Int)=some (letB c||digB c):=by
 unfold M_ci
 simp only [letB_c,digB_c]
 cases decide (97≤(c.toNat:Int)) <;> cases decide ((c.toNat:Int)≤122) <;> cases decide (48≤(c.toNat:Int)) <;> rfl
theorem fstc (c:UInt8):(cond (decide ((c.toNat:Int) < 97)) (some true) (some (decide (122 < (c.toNat:Int)))):Option Bool)=some (!letB c):=by
 rw [letB_c]
 by_cases h1:(c.toNat:Int) < 97
 · have h2:¬ 97≤(c.toNat:Int):=by omega
   simp [h1,h2]
 · have h2:97≤(c.toNat:Int):=by omega
   simp only [h1,decide_false,cond_false,h2,decide_true,Bool.true_and]
   by_cases h3:122 < (c.toNat:Int)
   · have h4:¬ (c.toNat:Int)≤122:=by omega
     simp [h3,h4]
   · have h4:(c.toNat:Int)≤122:=by omega
     simp [h3,h4]
theorem p_l2Name (s:ByteArray) (hl:s.size≤1048576):M_cj s=some (nameB s):=by
 unfold M_cj nameB
 simp only [p_l1In,Option.bind_some]
 rcases bt (wi s.size 1 8) with hw | hw
 · simp only [hw,Bool.not_true,cond_false,Bool.and_true]
   have hs:0 < s.data.toList.length:=by rw [← size_list]; have:=(wi_iff.1 hw).1; omega
   have h0:s.data.toList[0]?=some s.data.toList[0]:=List.getElem?_eq_getElem hs
   have g0:getz s 0=some s.data.toList[0]:=by rw [← h0]; exact getz_nat s 0
   simp only [g0,Option.bind_some]
   have key:=iter_anyI (f:=M_u s) s.data.toList (fun _ c=>!(letB c||digB c)) (.inr false) (.inl ()) (fun i c hc _=>by
    have hlt:=(List.getElem?_eq_some_iff.1 hc).1
    have h1:decide ((i:Int) < s.size)=true:=decide_eq_true (by rw [size_list]; omega)
    rw [size_list] at hl
    simp only [M_u,h1,cond_true,getz_nat,hc,Option.bind_some,p_l2Sign]
    rw [w64_eq (by omega) (by omega)]
    cases letB c <;> cases digB c <;> rfl) (by simp [M_u]) (by rw [size_list] at hl; omega)
   rw [fstc]
   simp only [Option.bind_some,key]
   rcases bt (letB s.data.toList[0]) with hL | hL
   · simp only [hL,Bool.not_true,cond_false]
     have e:anyI (fun _ c=>!(letB c||digB c)) s.data.toList=anyI nameBad s.data.toList:=by
      refine anyI_congr fun i c hc _=>?_
      unfold nameBad
      by_cases hi:i=0
      · subst hi; rw [h0] at hc; cases hc; rw [hL]; rfl
      · have:(i==0)=false:=by simpa using hi
        rw [this]
        cases letB c <;> cases digB c <;> rfl
     rw [e]
     cases anyI nameBad s.data.toList <;> rfl
   · have:anyI nameBad s.data.toList=true:=anyI_iff.2 ⟨0,_,h0,by unfold nameBad; rw [hL]; simp⟩
     simp only [hL,this,Bool.not_false,cond_true,Bool.not_true]
 · simp [hw]
def idxZ (v:ByteArray) (xs:List ByteArray):Option (Nat×ByteArray):=findI (fun _ x=>x.toList==v.toList) xs
def fidx (v:ByteArray) (xs:List ByteArray):Int:=match idxZ v xs with | some q=>(q.1:Int) | none=>-1
theorem p_l2Find (xs:List ByteArray) (v:ByteArray) (hl:xs.length≤1048576):M_ck xs v=some (fidx v xs):=by
 unfold M_ck fidx
 rw [iter_findI (f:=M_v xs v) xs (fun _ x=>x.toList==v.toList) (fun i _=>(i:Int)) () (fun i x hx _=>by
  have hlt:=(List.getElem?_eq_some_iff.1 hx).1
  have h1:decide ((i:Int) < xs.length)=true:=by simp [hlt]
  simp only [M_v,h1,cond_true,geti_nat,hx,Option.bind_some]
  rw [w64_eq (by omega) (by omega)]
  cases x.toList==v.toList <;> rfl) (by simp [M_v]) (by omega)]
 unfold idxZ
 cases findI (fun _ x=>x.toList==v.toList) xs <;> rfl
theorem p_Contains_z (xs:List ByteArray) (v:ByteArray) (hl:xs.length≤1048576):M_cn xs v=some (xs.any fun x=>x.toList==v.toList):=by
 unfold M_cn M_cz
 rw [iter_findI (f:=M_z xs v) xs (fun _ x=>x.toList==v.toList) (fun i _=>(i:Int)) () (fun i x hx _=>by
  have hlt:=(List.getElem?_eq_some_iff.1 hx).1
  have h1:decide ((i:Int) < xs.length)=true:=by simp [hlt]
  simp only [M_z,h1,cond_true,geti_nat,hx,Option.bind_some]
  rw [w64_eq (by omega) (by omega),show (v.toList==x.toList)=(x.toList==v.toList) from Bool.beq_comm ..]
  cases x.toList==v.toList <;> rfl) (by simp [M_z]) (by omega)]
 cases e:findI (fun _ x=>x.toList==v.toList) xs with
 | none =>
   have:=findI_none.1 e
   have h:(xs.any fun x=>x.toList==v.toList)=false:=by
    rw [← anyI_any (fun x:ByteArray=>x.toList==v.toList),anyI_false]; exact this
   rw [h]; rfl
 | some q =>
   obtain ⟨i,x⟩:=q
   obtain ⟨h1,h2,_⟩:=findI_some.1 e
   have h:(xs.any fun x=>x.toList==v.toList)=true:=List.any_eq_true.2 ⟨x,List.mem_of_getElem? h1,h2⟩
   rw [h]; simp
def cmpI (x y:Int):Int:=if x < y then -1 else if y < x then 1 else 0
theorem p_cmp (x y:Int):M_ap x y=some (cmpI x y):=by
 unfold M_ap M_bk cmpI
 by_cases h:x < y
 · simp [h]
 · by_cases h2:y < x <;> simp [h,h2]
def cmpF (f g:TFiber):Int:=if f.A ≠ g.A then cmpI f.A g.A else if f.B ≠ g.B then cmpI f.B g.B else if f.Length ≠ g.Length then cmpI f.Length g.Length else cmpI f.Risk g.Risk
theorem cmpI_zero {x y:Int}:cmpI x y=0↔x=y:=by
 unfold cmpI
 split
 · simp; omega
 · split
   · simp; omega
   · simp; omega
theorem p_compareFibers (f g:TFiber):M_co f g=some (cmpF f g):=by
 unfold M_co
 simp only [p_cmp,Option.bind_some,bnd]
 unfold M_bc
 have key:=iter_findI (f:=M_d [cmpI f.A g.A,cmpI f.B g.B,cmpI f.Length g.Length,cmpI f.Risk g.Risk]) [cmpI f.A g.A,cmpI f.B g.B,cmpI f.Length g.Length,cmpI f.Risk g.Risk] (fun _ x=>x != 0) (fun _ x=>x) () (fun i x hx _=>by
  have hlt:=(List.getElem?_eq_some_iff.1 hx).1
  have h1:decide ((i:Int) < ([cmpI f.A g.A,cmpI f.B g.B,cmpI f.Length g.Length,cmpI f.Risk g.Risk].length:Nat))=true:=decide_eq_true (by omega)
  simp only [List.length_cons,List.length_nil] at hlt
  simp only [M_d,h1,cond_true,geti_nat,hx,Option.bind_some]
  rw [w64_eq (by omega) (by omega)]
  cases x != 0 <;> rfl) (by simp [M_d]) (by simp)
 rw [key]
 unfold cmpF findI
 simp only [List.zipIdx_cons,List.zipIdx_nil,List.find?_cons,List.find?_nil]
 by_cases h1:f.A=g.A
 · rw [cmpI_zero.2 h1]
   by_cases h2:f.B=g.B
   · rw [cmpI_zero.2 h2]
     by_cases h3:f.Length=g.Length
     · rw [cmpI_zero.2 h3]
       by_cases h4:f.Risk=g.Risk
       · simp [h1,h2,h3,h4,cmpI_zero.2]
       · have:(cmpI f.Risk g.Risk != 0)=true:=bne_iff_ne.2 fun e=>h4 (cmpI_zero.1 e)
         simp [h1,h2,h3,this]
     · have:(cmpI f.Length g.Length != 0)=true:=bne_iff_ne.2 fun e=>h3 (cmpI_zero.1 e)
       simp [h1,h2,h3,this]
   · have:(cmpI f.B g.B != 0)=true:=bne_iff_ne.2 fun e=>h2 (cmpI_zero.1 e)
     simp [h1,h2,this]
 · have:(cmpI f.A g.A != 0)=true:=bne_iff_ne.2 fun e=>h1 (cmpI_zero.1 e)
   simp [h1,this]
end Vs

namespace Vs
open Go
theorem slT_nat {α:Type} (xs:List α) (i:Nat) (h:i≤xs.length):slT xs (i:Int)=some (xs.take i):=by
 unfold slT
 rw [if_pos ⟨by omega,by simpa using h⟩]; simp
theorem z_net {n:TNetwork} (h:z_Network n≤1048576):n.Nodes.length≤1048576∧n.Fibers.length≤1048576∧∀ x∈n.Nodes,x.size≤1048576:=by
 unfold z_Network z_StringS z_FiberS at h
 refine ⟨by omega,by omega,fun x hx=>?_⟩
 obtain ⟨i,hi,rfl⟩:=List.getElem_of_mem hx
 have:n.Nodes[i].size≤(n.Nodes.map fun x:ByteArray=>x.size).sum:=sum_ge (fun x:ByteArray=>x.size) (xs:=n.Nodes) (i:=i) (x:=n.Nodes[i]) (by simp [hi])
 omega
def nodeBad (n:TNetwork) (i:Nat) (x:ByteArray):Bool:=!nameB x||(n.Nodes.take i).any fun y=>y.toList==x.toList
def fib1 (m:Nat) (f:TFiber):Bool:=decide (f.A < 0)||decide (f.B≤f.A)||decide ((m:Int)≤f.B)||!wi f.Length 1 5000||!wi f.Risk 0 9
def fibBad (n:TNetwork) (i:Nat) (f:TFiber):Bool:=fib1 n.Nodes.length f||(decide (0 < i)&&match n.Fibers[i - 1]? with | some g=>decide (0 < cmpF g f) | none=>false)
def netOk (n:TNetwork):Bool:=!anyI (nodeBad n) n.Nodes&&!anyI (fibBad n) n.Fibers&&wi n.Nodes.length 2 8&&decide (n.Fibers.length≤14)
theorem p_IsValidNetwork (n:TNetwork) (hz:z_Network n≤1048576):M_bt n=some (netOk n):=by
 obtain ⟨h1,h2,h3⟩:=z_net hz
 unfold M_bt netOk
 rw [iter_anyI (f:=M_n n) n.Nodes (nodeBad n) (.inr false) (.inl ()) (fun i x hx _=>by
  have hlt:=(List.getElem?_eq_some_iff.1 hx).1
  have e1:decide ((i:Int) < n.Nodes.length)=true:=by simp [hlt]
  simp only [M_n,e1,cond_true,geti_nat,hx,Option.bind_some,p_isName x (h3 x (List.mem_of_getElem? hx)),slT_nat n.Nodes i (Nat.le_of_lt hlt),p_Contains_z (n.Nodes.take i) x (by simp; omega),nodeBad]
  rw [w64_eq (by omega) (by omega)]
  rcases bt (nameB x) with e | e <;> rcases bt ((n.Nodes.take i).any (fun y=>y.toList==x.toList)) with e' | e' <;> simp only [e,e'] <;> rfl) (by simp [M_n]) (by omega)]
 rcases bt (anyI (nodeBad n) n.Nodes) with hN | hN
 · simp [hN]
 · simp only [hN,Bool.false_eq_true,if_false,Option.bind_some,Bool.not_false,Bool.true_and]
   rw [iter_anyI (f:=M_f n) n.Fibers (fibBad n) (.inr false) (.inl ()) (fun i x hx _=>by
    have hlt:=(List.getElem?_eq_some_iff.1 hx).1
    have e1:decide ((i:Int) < n.Fibers.length)=true:=by simp [hlt]
    simp only [M_f,e1,cond_true,geti_nat,hx,Option.bind_some,p_within]
    rw [w64_eq (n:=(i:Int)+1) (by omega) (by omega)]
    unfold fibBad fib1
    cases decide (x.A < 0)
    · cases decide (x.B≤x.A)
      · cases decide ((n.Nodes.length:Int)≤x.B)
        · cases wi x.Length 1 5000
          · rfl
          · cases wi x.Risk 0 9
            · rfl
            · by_cases hi:0 < i
              · have hi':decide ((0:Int) < (i:Int))=true:=by simp [hi]
                have hp:n.Fibers[i - 1]?=some n.Fibers[i - 1]:=List.getElem?_eq_getElem (by omega)
                have hw:IntKind.wrap .i64 ((i:Int) - 1)=((i - 1:Nat):Int):=by rw [w64_eq (by omega) (by omega)]; omega
                simp only [hi',cond_true,cond_false,Bool.not_true,hw,geti_nat,hp,Option.bind_some,p_compareFibers,hi,decide_true,Bool.true_and,Bool.false_or]
                cases decide (0 < cmpF n.Fibers[i - 1] x) <;> rfl
              · have hi':decide ((0:Int) < (i:Int))=false:=by simp; omega
                simp [hi',hi]
        · rfl
      · rfl
    · rfl) (by simp [M_f]) (by omega)]
   rcases bt (anyI (fibBad n) n.Fibers) with hF | hF
   · simp [hF]
   · simp only [hF,Bool.false_eq_true,if_false,Option.bind_some,Bool.not_false,Bool.true_and,p_within]
     have e:decide ((n.Fibers.length:Int)≤14)=decide (n.Fibers.length≤14):=decide_eq_decide.2 (by omega)
     rw [e]
     cases wi n.Nodes.length 2 8 <;> rfl
theorem find_dup (n:TNetwork) (i:Nat) (x:ByteArray) (hx:n.Nodes[i]?=some x) :
 (fidx x n.Nodes != (i:Int))=(n.Nodes.take i).any fun y=>y.toList==x.toList:=by
 unfold fidx
 cases e:idxZ x n.Nodes with
 | none =>
   have:=findI_none.1 e i x hx
   simp at this
 | some q =>
   obtain ⟨j,y⟩:=q
   obtain ⟨h1,h2,h3⟩:=findI_some.1 e
   simp only
   by_cases hj:j=i
   · subst hj
     have:((n.Nodes.take j).any fun y=>y.toList==x.toList)=false:=by
      rw [List.any_eq_false]
      intro z hz
      obtain ⟨k,hk,rfl⟩:=List.getElem_of_mem hz
      simp only [List.length_take] at hk
      have:=h3 k (n.Nodes.take j)[k] (by omega) (by rw [List.getElem_take]; exact List.getElem?_eq_getElem (by omega))
      rw [this]; simp
     rw [this]; simp
   · have hji:j < i:=by
      rcases Nat.lt_trichotomy j i with h | h | h
      · exact h
      · exact (hj h).elim
      · have:=h3 i x h hx
        simp at this
     have:((n.Nodes.take i).any fun y=>y.toList==x.toList)=true:=List.any_eq_true.2 ⟨y,by
      have:(n.Nodes.take i)[j]?=some y:=by rw [List.getElem?_take,if_pos hji]; exact h1
      exact List.mem_of_getElem? this,h2⟩
     rw [this]
     simp; omega
theorem p_l2Fiber (f:TFiber) (m:Nat) (hm:m≤8) (hm2:2≤m):M_bu f (m:Int)=some (!fib1 m f):=by
 unfold M_bu fib1
 simp only [p_l1In,Option.bind_some]
 rw [w64_eq (n:=(m:Int) - 1) (by omega) (by omega)]
 rcases bt (wi f.A 0 ((m:Int) - 1)) with h1 | h1
 · have h2:=wi_iff.1 h1
   rw [w64_eq (n:=f.A+1) (by omega) (by omega)]
   rcases bt (wi f.B (f.A+1) ((m:Int) - 1)) with h3 | h3
   · have h4:=wi_iff.1 h3
     have a1:decide (f.A < 0)=false:=by simp; omega
     have a2:decide (f.B≤f.A)=false:=by simp; omega
     have a3:decide ((m:Int)≤f.B)=false:=by simp; omega
     simp only [h1,h3,a1,a2,a3,cond_true,Bool.false_or]
     cases wi f.Length 1 5000 <;> cases wi f.Risk 0 9 <;> rfl
   · have h4:=wi_false.1 h3
     simp only [h1,h3,cond_true,cond_false]
     by_cases a2:f.B≤f.A
     · simp [a2]
     · have a3:(m:Int)≤f.B:=by omega
       simp [a3]
 · have h2:=wi_false.1 h1
   simp only [h1,cond_false]
   by_cases a1:f.A < 0
   · simp [a1]
   · by_cases a2:f.B≤f.A
     · simp [a2]
     · have a3:(m:Int)≤f.B:=by omega
       simp [a3]
structure FibOk (m:Int) (f:TFiber):Prop where
 a0:0≤f.A
 ab:f.A < f.B
 bm:f.B < m
 l1:1≤f.Length
 l2:f.Length≤5000
 r0:0≤f.Risk
 r9:f.Risk≤9
theorem fib1_ok {m:Nat} {f:TFiber} (h:fib1 m f=false):FibOk m f:=by
 unfold fib1 at h
 simp only [Bool.or_eq_false_iff,decide_eq_false_iff_not,Bool.not_eq_false',wi_iff] at h
 obtain ⟨⟨⟨⟨h1,h2⟩,h3⟩,h4,h5⟩,h6,h7⟩:=h
 exact ⟨by omega,by omega,by omega,h4,h5,h6,h7⟩
theorem p_before (f g:TFiber) (m:Nat) (hm:m≤8) (hf:FibOk m f) (hg:FibOk m g):∃ r,M_bv f g=some r∧decide (0 < r)=decide (0 < cmpF f g):=by
 obtain ⟨a1,a2,a3,a4,a5,a6,a7⟩:=hf
 obtain ⟨b1,b2,b3,b4,b5,b6,b7⟩:=hg
 have sgn:∀ x y:Int,decide (0 < x - y)=decide (0 < cmpI x y):=by
  intro x y
  unfold cmpI
  by_cases h:x < y
  · rw [if_pos h]; exact decide_eq_decide.2 (by omega)
  · rw [if_neg h]
    by_cases h2:y < x
    · rw [if_pos h2]; exact decide_eq_decide.2 (by omega)
    · rw [if_neg h2]; exact decide_eq_decide.2 (by omega)
 unfold M_bv cmpF
 rw [w64_eq (n:=f.A - g.A) (by omega) (by omega),w64_eq (n:=f.B - g.B) (by omega) (by omega),w64_eq (n:=f.Length - g.Length) (by omega) (by omega),w64_eq (n:=f.Risk - g.Risk) (by omega) (by omega)]
 by_cases h1:f.A=g.A
 · have e1:(f.A != g.A)=false:=by rw [h1]; simp
   by_cases h2:f.B=g.B
   · have e2:(f.B != g.B)=false:=by rw [h2]; simp
     by_cases h3:f.Length=g.Length
     · have e3:(f.Length != g.Length)=false:=by rw [h3]; simp
       exact ⟨f.Risk - g.Risk,by simp only [e1,e2,e3,cond_false],by simp only [h1,h2,h3,ne_eq,not_true,if_false]; exact sgn _ _⟩
     · have e3:(f.Length != g.Length)=true:=bne_iff_ne.2 h3
       exact ⟨f.Length - g.Length,by simp only [e1,e2,e3,cond_false,cond_true],by simp only [h1,h2,h3,ne_eq,not_true,not_false_eq_true,if_false,if_true]; exact sgn _ _⟩
   · have e2:(f.B != g.B)=true:=bne_iff_ne.2 h2
     exact ⟨f.B - g.B,by simp only [e1,e2,cond_false,cond_true],by simp only [h1,h2,ne_eq,not_true,not_false_eq_true,if_false,if_true]; exact sgn _ _⟩
 · have e1:(f.A != g.A)=true:=bne_iff_ne.2 h1
   exact ⟨f.A - g.A,by simp only [e1,cond_true],by simp only [h1,ne_eq,not_false_eq_true,if_true]; exact sgn _ _⟩
theorem p_l2Good (n:TNetwork) (hz:z_Network n≤1048576):M_bw n=some (netOk n):=by
 obtain ⟨z1,z2,z3⟩:=z_net hz
 unfold M_bw netOk
 simp only [p_l1In,Option.bind_some]
 rcases bt (wi n.Nodes.length 2 8) with hw | hw
 · have hw2:=wi_iff.1 hw
   have e:decide (14 < (n.Fibers.length:Int))=!decide (n.Fibers.length≤14):=by
    rw [← decide_not]; exact decide_eq_decide.2 (by omega)
   simp only [hw,e,Bool.not_true,cond_false,Option.bind_some,Bool.and_true]
   rcases bt (decide (n.Fibers.length≤14)) with h14 | h14
   · simp only [h14,Bool.not_true,cond_false,Bool.and_true]
     rw [iter_anyI (f:=M_o n) n.Nodes (nodeBad n) (.inr false) (.inl ()) (fun i x hx _=>by
      have hlt:=(List.getElem?_eq_some_iff.1 hx).1
      have e1:decide ((i:Int) < n.Nodes.length)=true:=by simp [hlt]
      simp only [M_o,e1,cond_true,geti_nat,hx,Option.bind_some,p_l2Name x (z3 x (List.mem_of_getElem? hx)),p_l2Find n.Nodes x z1,find_dup n i x hx,nodeBad]
      rw [w64_eq (by omega) (by omega)]
      rcases bt (nameB x) with e | e <;> rcases bt ((n.Nodes.take i).any (fun y=>y.toList==x.toList)) with e' | e' <;> simp only [e,e'] <;> rfl) (by simp [M_o]) (by omega)]
     rcases bt (anyI (nodeBad n) n.Nodes) with hN | hN
     · simp [hN]
     · simp only [hN,Bool.false_eq_true,if_false,Option.bind_some,Bool.not_false,Bool.true_and]
       rw [iter_anyI (f:=M_p n) n.Fibers (fibBad n) (.inr false) (.inl ()) (fun i x hx hprev=>by
        have hlt:=(List.getElem?_eq_some_iff.1 hx).1
        have e1:decide ((i:Int) < n.Fibers.length)=true:=by simp [hlt]
        simp only [M_p,e1,cond_true,geti_nat,hx,Option.bind_some,p_l2Fiber x n.Nodes.length (by omega) (by omega),Bool.not_not]
        rw [w64_eq (n:=(i:Int)+1) (by omega) (by omega)]
        unfold fibBad
        rcases bt (fib1 n.Nodes.length x) with h1 | h1
        · simp [h1]
        · simp only [h1,cond_false,Bool.false_or]
          by_cases hi:0 < i
          · have hi':decide ((0:Int) < (i:Int))=true:=by simp [hi]
            have hp:n.Fibers[i - 1]?=some n.Fibers[i - 1]:=List.getElem?_eq_getElem (by omega)
            have hw:IntKind.wrap .i64 ((i:Int) - 1)=((i - 1:Nat):Int):=by rw [w64_eq (by omega) (by omega)]; omega
            have hb:=hprev (i - 1) n.Fibers[i - 1] (by omega) hp
            unfold fibBad at hb
            simp only [Bool.or_eq_false_iff] at hb
            obtain ⟨r,r1,r2⟩:=p_before n.Fibers[i - 1] x n.Nodes.length (by omega) (fib1_ok hb.1) (fib1_ok h1)
            simp only [hi',cond_true,hw,geti_nat,hp,Option.bind_some,r1,r2,hi,decide_true,Bool.true_and]
            cases decide (0 < cmpF n.Fibers[i - 1] x) <;> rfl
          · have hi':decide ((0:Int) < (i:Int))=false:=by simp; omega
            simp [hi',hi]) (by simp [M_p]) (by omega)]
       cases anyI (fibBad n) n.Fibers <;> rfl
   · simp [h14]
 · simp [hw]
end Vs

namespace Vs
open Go
def otherP (f:TFiber) (v:Int):Int:=if v=f.A then f.B else if v=f.B then f.A else -1
def othI (n:TNetwork) (e v:Int):Int:=match n.Fibers[e.toNat]? with | some f=>otherP f v | none=>-1
def badE (n:TNetwork) (ring:List Int) (i:Nat) (e:Int):Bool:=!wi e 0 ((n.Fibers.length:Int) - 1)||(ring.take i).any fun x=>x==e
def stS (n:TNetwork) (ring:List Int) (i:Nat) (e:Int) (p:Int×List Int):(Int×List Int) ⊕ ((Int×List Int) ⊕ (List Int×Bool)) :=
 if badE n ring i e||p.2.any (·==p.1) then .inr (.inr (p.2,false)) else if othI n e p.1 < 0 then .inr (.inr (p.2++[p.1],false)) else .inl (othI n e p.1,p.2++[p.1])
def stI (n:TNetwork) (ring:List Int) (i:Nat) (e:Int) (p:Int×List Int):(Int×List Int) ⊕ ((Int×List Int) ⊕ (List Int×Int×Bool)) :=
 if badE n ring i e then .inr (.inr ([],0,false)) else if othI n e p.1 < 0 then .inr (.inr ([],0,false)) else .inl (othI n e p.1,p.2++[p.1])
def wkS (n:TNetwork) (ring:List Int) (i:Nat) (ys:List Int) (p:Int×List Int):=walkL (stS n ring) (fun a=>.inl a) i ys p
def wkI (n:TNetwork) (ring:List Int) (i:Nat) (ys:List Int) (p:Int×List Int):=walkL (stI n ring) (fun a=>.inl a) i ys p
theorem wkI_pre (n:TNetwork) (ring:List Int):∀ (ys:List Int) (i:Nat) (p q:Int×List Int),wkI n ring i ys p=.inl q→∃ t,q.2=p.2++t
 | [], _, p, q, h => by
   unfold wkI walkL at h
   cases h; exact ⟨[],by simp⟩
 | e :: ys, i, p, q, h => by
   unfold wkI at h
   rw [walkL] at h
   unfold stI at h
   split at h
   · rename_i a he
     split at he
     · cases he
     · split at he
       · cases he
       · cases he
         obtain ⟨t,ht⟩:=wkI_pre n ring ys (i+1) _ q h
         exact ⟨[p.1]++t,by rw [ht]; simp⟩
   · rename_i b he
     split at he
     · cases he; cases h
     · split at he
       · cases he; cases h
       · cases he
theorem wk_iff (n:TNetwork) (ring:List Int):∀ (ys:List Int) (i:Nat) (p q:Int×List Int),p.2.Nodup→(wkS n ring i ys p=.inl q↔wkI n ring i ys p=.inl q∧q.2.Nodup)
 | [], i, p, q, hp => by
   unfold wkS wkI walkL
   constructor
   · intro h; cases h; exact ⟨rfl,hp⟩
   · rintro ⟨h,_⟩; cases h; rfl
 | e :: ys, i, p, q, hp => by
   have eS:wkS n ring i (e::ys) p=match stS n ring i e p with | .inl a=>wkS n ring (i+1) ys a | .inr b=>b:=by
    unfold wkS; rw [walkL]; cases stS n ring i e p <;> rfl
   have eI:wkI n ring i (e::ys) p=match stI n ring i e p with | .inl a=>wkI n ring (i+1) ys a | .inr b=>b:=by
    unfold wkI; rw [walkL]; cases stI n ring i e p <;> rfl
   rw [eS,eI]
   unfold stS stI
   by_cases hb:badE n ring i e=true
   · simp [hb]
   · by_cases ho:othI n e p.1 < 0
     · by_cases hv:p.2.any (·==p.1)=true <;> simp [hb,ho,hv]
     · by_cases hv:p.2.any (·==p.1)=true
       · have hm:p.1∈p.2:=by
          obtain ⟨x,hx,hxe⟩:=List.any_eq_true.1 hv
          rw [← eq_of_beq hxe]; exact hx
         simp only [hb,ho,hv,Bool.or_true,if_true,if_false,Bool.false_eq_true]
         constructor
         · intro h; cases h
         · rintro ⟨h,hq⟩
           obtain ⟨t,ht⟩:=wkI_pre n ring ys (i+1) _ q h
           rw [ht] at hq
           have h1:=(List.nodup_append.1 hq).1
           have h2:=(List.nodup_append.1 h1).2.2
           exact (h2 p.1 hm p.1 (by simp) rfl).elim
       · have hm:p.1 ∉ p.2:=fun h=>hv (List.any_eq_true.2 ⟨p.1,h,by simp⟩)
         simp only [hb,ho,hv,Bool.or_self,if_false,Bool.false_eq_true]
         exact wk_iff n ring ys (i+1) _ q (List.nodup_append.2 ⟨hp,by simp,fun a ha b hb'=>by
          simp only [List.mem_singleton] at hb'
          subst hb'
          intro e; subst e; exact hm ha⟩)
end Vs

namespace Vs
open Go
theorem p_l1Has (l:List Int) (x:Int) (hl:l.length≤1048576):M_aw l x=some (l.any fun y=>y==x):=by
 unfold M_aw
 rw [iter_any (f:=M_w l x) l (fun y=>y==x) (.inr true) (.inl ()) (fun i y hy=>by
  have hlt:=(List.getElem?_eq_some_iff.1 hy).1
  have h1:decide ((i:Int) < l.length)=true:=by simp [hlt]
  simp only [M_w,h1,cond_true,geti_nat,hy,Option.bind_some]
  rw [w64_eq (by omega) (by omega)]
  cases y==x <;> rfl) (by simp [M_w]) (by omega)]
 cases l.any fun y=>y==x <;> rfl
theorem geti_fib {n:TNetwork} {e:Int} (h:wi e 0 ((n.Fibers.length:Int) - 1)=true):∃ f,geti n.Fibers e=some f∧n.Fibers[e.toNat]?=some f:=by
 rw [wi_iff] at h
 have hlt:e.toNat < n.Fibers.length:=by omega
 refine ⟨n.Fibers[e.toNat],?_,List.getElem?_eq_getElem hlt⟩
 have h3:=geti_nat n.Fibers e.toNat
 rw [Int.toNat_of_nonneg h.1] at h3
 rw [h3]
 exact List.getElem?_eq_getElem hlt
theorem p_l2Other (n:TNetwork) (e v:Int) (h:wi e 0 ((n.Fibers.length:Int) - 1)=true):M_bi n e v=some (othI n e v):=by
 obtain ⟨f,h1,h2⟩:=geti_fib h
 unfold M_bi othI otherP
 rw [h1,h2]
 simp only [Option.bind_some]
 by_cases a:v=f.A
 · rw [show (v==f.A)=true from by simpa using a,cond_true,if_pos a]
 · rw [show (v==f.A)=false from by simpa using a,cond_false,if_neg a]
   by_cases b:v=f.B
   · rw [show (v==f.B)=true from by simpa using b,cond_true,if_pos b]
   · rw [show (v==f.B)=false from by simpa using b,cond_false,if_neg b]
end Vs

namespace Vs
open Go
theorem p_ContI (xs:List Int) (v:Int) (hl:xs.length≤1048576):M_aq xs v=some (decide (v∈xs)):=by
 unfold M_aq M_cw
 rw [iter_findI (f:=M_l xs v) xs (fun _ x=>v==x) (fun i _=>(i:Int)) () (fun i x hx _=>by
  have hlt:=(List.getElem?_eq_some_iff.1 hx).1
  have h1:decide ((i:Int) < xs.length)=true:=by simp [hlt]
  simp only [M_l,h1,cond_true,geti_nat,hx,Option.bind_some]
  rw [w64_eq (by omega) (by omega)]
  cases v==x <;> rfl) (by simp [M_l]) (by omega)]
 cases e:findI (fun _ x=>v==x) xs with
 | none =>
   have:=findI_none.1 e
   have h:¬ v∈xs:=fun hm=>by
    obtain ⟨i,hi⟩:=List.getElem?_of_mem hm
    have:=this i v hi
    simp at this
   rw [decide_eq_false h]; rfl
 | some q =>
   obtain ⟨i,x⟩:=q
   obtain ⟨h1,h2,_⟩:=findI_some.1 e
   have h:v∈xs:=by
    have:=eq_of_beq h2
    rw [this]; exact List.mem_of_getElem? h1
   rw [decide_eq_true h]; simp
theorem p_otherEnd (f:TFiber) (v:Int):M_as f v=some (otherP f v):=by
 unfold M_as otherP
 by_cases a:v=f.A
 · rw [show (v==f.A)=true from by simpa using a,cond_true,if_pos a]
 · rw [show (v==f.A)=false from by simpa using a,cond_false,if_neg a]
   by_cases b:v=f.B
   · rw [show (v==f.B)=true from by simpa using b,cond_true,if_pos b]
   · rw [show (v==f.B)=false from by simpa using b,cond_false,if_neg b]
theorem any_mem (l:List Int) (e:Int):decide (e∈l)=l.any fun x=>x==e:=by
 rw [Bool.eq_iff_iff,decide_eq_true_iff,List.any_eq_true]
 constructor
 · intro h; exact ⟨e,h,by simp⟩
 · rintro ⟨x,hx,he⟩; rw [← eq_of_beq he]; exact hx
theorem p_followL (n:TNetwork) (ring:List Int) (fr:Int) (hF:n.Fibers.length≤1048576) (hr:ring.length≤1048576):iter (M_e n ring) N0 (fr,0,[])=some (wkI n ring 0 ring (fr,[])):=by
 refine iter_list (f:=M_e n ring) ring (fun i (p:Int×List Int)=>(p.1,(i:Int),p.2)) (stI n ring) (fun a=>.inl a) (fun i p=>p.2.length=i) (fun i p e he hI=>?_) (fun p hI=>by simp [M_e]) (fr,[]) rfl (by omega)
 have hlt:=(List.getElem?_eq_some_iff.1 he).1
 have h1:decide ((i:Int) < ring.length)=true:=by simp [hlt]
 have hf:M_e n ring (p.1,(i:Int),p.2)=some (match stI n ring i e p with | .inl a=>.inl (a.1,((i+1:Nat):Int),a.2) | .inr b=>.inr b):=by
  simp only [M_e,h1,cond_true,geti_nat,he,Option.bind_some,p_within,slT_nat ring i (by omega),p_ContI (ring.take i) e (by simp; omega),w64_eq (n:=(n.Fibers.length:Int) - 1) (by omega) (by omega),w64_eq (n:=(i:Int)+1) (by omega) (by omega),bnd,any_mem]
  unfold stI badE
  rcases bt (wi e 0 ((n.Fibers.length:Int) - 1)) with e1 | e1
  · rcases bt ((ring.take i).any fun x=>x==e) with e2 | e2
    · simp [e1,e2]
    · obtain ⟨f,g1,g2⟩:=geti_fib e1
      have ho:othI n e p.1=otherP f p.1:=by unfold othI; rw [g2]
      simp only [e1,e2,Bool.not_true,cond_false,Option.bind_some,Bool.or_self,Bool.false_eq_true,if_false,g1,p_otherEnd,ho]
      rw [grd_t (by omega)]
      by_cases h3:otherP f p.1 < 0
      · simp [h3]
      · simp [h3]
  · simp [e1]
 cases hs:stI n ring i e p with
 | inl a =>
   left
   rw [hs] at hf
   refine ⟨a,rfl,?_,hf⟩
   unfold stI at hs
   split at hs
   · cases hs
   · split at hs
     · cases hs
     · cases hs; simp [hI]
 | inr b =>
   right
   rw [hs] at hf
   exact ⟨b,rfl,hf⟩
end Vs

namespace Vs
open Go
theorem netOk_bR {n:TNetwork} (h:netOk n=true):2≤n.Nodes.length∧n.Nodes.length≤8∧n.Fibers.length≤14:=by
 unfold netOk at h
 simp only [Bool.and_eq_true,decide_eq_true_eq,wi_iff] at h
 omega
theorem netOk_fibR {n:TNetwork} (h:netOk n=true) {i:Nat} {f:TFiber} (hf:n.Fibers[i]?=some f):FibOk n.Nodes.length f:=by
 unfold netOk at h
 simp only [Bool.and_eq_true,Bool.not_eq_true'] at h
 have:=anyI_false.1 h.1.1.2 i f hf
 unfold fibBad at this
 simp only [Bool.or_eq_false_iff] at this
 exact fib1_ok this.1
theorem wkI_cons (n:TNetwork) (ring:List Int) (i:Nat) (e:Int) (ys:List Int) (p:Int×List Int):wkI n ring i (e::ys) p=match stI n ring i e p with | .inl a=>wkI n ring (i+1) ys a | .inr b=>b:=by
 unfold wkI; rw [walkL]; cases stI n ring i e p <;> rfl
theorem wkI_bad (n:TNetwork) (ring:List Int):∀ (ys:List Int) (i:Nat) (p:Int×List Int) (x:List Int×Int×Bool),wkI n ring i ys p=.inr x→x=([],0,false)
 | [],i,p,x,h=>by unfold wkI walkL at h; cases h
 | e :: ys, i, p, x, h => by
   rw [wkI_cons] at h
   unfold stI at h
   by_cases h1:badE n ring i e=true
   · rw [if_pos h1] at h; cases h; rfl
   · rw [if_neg h1] at h
     by_cases h2:othI n e p.1 < 0
     · rw [if_pos h2] at h; cases h; rfl
     · rw [if_neg h2] at h; exact wkI_bad n ring ys (i+1) _ x h
theorem wkI_ok (n:TNetwork) (ring:List Int):∀ (ys:List Int) (i:Nat) (p q:Int×List Int),wkI n ring i ys p=.inl q→∀ j e,ys[j]?=some e→badE n ring (i+j) e=false
 | [],i,p,q,_,j,e,h=>by simp at h
 | y :: ys, i, p, q, h, j, e, hj => by
   rw [wkI_cons] at h
   unfold stI at h
   by_cases h1:badE n ring i y=true
   · rw [if_pos h1] at h; cases h
   · rw [if_neg h1] at h
     by_cases h2:othI n y p.1 < 0
     · rw [if_pos h2] at h; cases h
     · rw [if_neg h2] at h
       cases j with
       | zero=>simp at hj; subst hj; simpa using h1
       | succ j =>
         have:=wkI_ok n ring ys (i+1) _ q h j e (by simpa using hj)
         rw [show i+(j+1)=i+1+j by omega]; exact this
theorem badE_wi {n:TNetwork} {ring:List Int} {i:Nat} {e:Int} (h:badE n ring i e=false):wi e 0 ((n.Fibers.length:Int) - 1)=true∧e ∉ ring.take i:=by
 unfold badE at h
 simp only [Bool.or_eq_false_iff,Bool.not_eq_false'] at h
 refine ⟨h.1,fun hm=>?_⟩
 have:=h.2
 rw [← any_mem] at this
 simp [hm] at this
theorem nodup_of {xs:List Int} (h:∀ j e,xs[j]?=some e→e ∉ xs.take j):xs.Nodup:=by
 rw [List.nodup_iff_pairwise_ne,List.pairwise_iff_getElem]
 intro i j hi hj hij e
 refine h j xs[j] (List.getElem?_eq_getElem hj) ?_
 rw [← e]
 have h2:(xs.take j)[i]?=some xs[i]:=by rw [List.getElem?_take,if_pos hij]; exact List.getElem?_eq_getElem hi
 exact List.mem_of_getElem? h2
theorem nodup_take {xs:List Int} (h:xs.Nodup) {j:Nat} {e:Int} (hj:xs[j]?=some e):e ∉ xs.take j:=by
 intro hm
 obtain ⟨i,hi⟩:=List.getElem?_of_mem hm
 rw [List.getElem?_take] at hi
 split at hi
 · rename_i hij
   obtain ⟨h1,h2⟩:=List.getElem?_eq_some_iff.1 hi
   obtain ⟨h3,h4⟩:=List.getElem?_eq_some_iff.1 hj
   have:=(List.pairwise_iff_getElem.1 (List.nodup_iff_pairwise_ne.1 h)) i j h1 h3 hij
   exact this (h2.trans h4.symm)
 · cases hi
theorem wkI_nodup {n:TNetwork} {ring:List Int} {p q:Int×List Int} (h:wkI n ring 0 ring p=.inl q):ring.Nodup :=
 nodup_of fun j e hj=>by
  have:=wkI_ok n ring ring 0 p q h j e hj
  rw [Nat.zero_add] at this
  exact (badE_wi this).2
theorem wkI_two {n:TNetwork} {ring:List Int} {e0 e1:Int} {t:List Int} (hr:ring=e0::e1::t) {v:Int} {q:Int×List Int} (h:wkI n ring 0 ring (v,[])=.inl q) :
 wi e0 0 ((n.Fibers.length:Int) - 1)=true∧0≤othI n e0 v∧∃ s,q.2=v::othI n e0 v::s:=by
 have hb:=wkI_ok n ring ring 0 _ q h 0 e0 (by rw [hr]; rfl)
 have h1:=h
 conv at h1=>lhs; arg 4; rw [hr]
 rw [wkI_cons] at h1
 unfold stI at h1
 rw [if_neg (by rw [hb]; simp)] at h1
 by_cases h2:othI n e0 v < 0
 · rw [if_pos h2] at h1; cases h1
 · rw [if_neg h2] at h1
   simp only at h1
   rw [wkI_cons] at h1
   unfold stI at h1
   by_cases h3:badE n ring (0+1) e1=true
   · rw [if_pos h3] at h1; cases h1
   · rw [if_neg h3] at h1
     simp only at h1
     by_cases h4:othI n e1 (othI n e0 v) < 0
     · rw [if_pos h4] at h1; cases h1
     · rw [if_neg h4] at h1
       obtain ⟨s,hs⟩:=wkI_pre n ring t _ _ q h1
       exact ⟨(badE_wi hb).1,by omega,s,by rw [hs]; simp⟩
def startA (n:TNetwork) (ring:List Int):Int:=match ring[0]? with
 | some e => match n.Fibers[e.toNat]? with
   | some f=>f.A
   | none=>-1
 | none=>-1
def difB (a b:List Int):Option (Nat×Int×Int):=findI (fun _ q=>q.1 != q.2) (a.zip b)
def lexB (a b:List Int):Bool:=match difB a b with
 | some q=>decide (q.2.1 < q.2.2)
 | none=>false
def ringP (n:TNetwork) (ring:List Int):Option (List Int):=if 2≤ring.length then (match wkI n ring 0 ring (startA n ring,[]) with
 | .inl q=>if q.1=startA n ring∧q.2.Nodup∧(∀ x∈q.2,startA n ring≤x)∧lexB ring ring.reverse=true then some q.2 else none
 | .inr _=>none) else none
def okS (n:TNetwork) (ring:List Int) (v:Int):Bool:=match wkS n ring 0 ring (v,[]) with
 | .inl q=>decide (q.1=v)&&decide (1 < ring.length)
 | .inr _=>false
def ndS (n:TNetwork) (ring:List Int) (v:Int):List Int:=match wkS n ring 0 ring (v,[]) with
 | .inl q=>q.2
 | .inr x=>x.1
theorem okS_iff {n:TNetwork} {ring:List Int} {v:Int}:okS n ring v=true↔wkI n ring 0 ring (v,[])=.inl (v,ndS n ring v)∧(ndS n ring v).Nodup∧2≤ring.length:=by
 unfold okS ndS
 cases h:wkS n ring 0 ring (v,[]) with
 | inl q =>
   obtain ⟨h1,h2⟩:=(wk_iff n ring ring 0 (v,[]) q List.nodup_nil).1 h
   simp only [Bool.and_eq_true,decide_eq_true_eq]
   constructor
   · rintro ⟨rfl,h4⟩; exact ⟨h1,h2,h4⟩
   · rintro ⟨h3,_,h4⟩
     rw [h1] at h3
     have h5:=congrArg Prod.fst (Sum.inl.inj h3)
     exact ⟨h5,by omega⟩
 | inr x =>
   simp only [Bool.false_eq_true,false_iff]
   rintro ⟨h3,h4,_⟩
   have:=(wk_iff n ring ring 0 (v,[]) (v,x.1) List.nodup_nil).2 ⟨h3,h4⟩
   rw [h] at this; cases this
theorem difB_swap (a b:List Int):difB b a=(difB a b).map fun q=>(q.1,q.2.2,q.2.1):=by
 unfold difB
 have z:∀ (i:Nat) (x:Int×Int),(b.zip a)[i]?=some x↔(a.zip b)[i]?=some (x.2,x.1):=by
  intro i x
  rw [List.getElem?_zip_eq_some,List.getElem?_zip_eq_some]; exact And.comm
 cases h:findI (fun _ q=>q.1 != q.2) (a.zip b) with
 | none =>
   have:=findI_none.1 h
   simp only [Option.map_none]
   rw [findI_none]
   intro i x hx
   have:=this i _ ((z i x).1 hx)
   simp only [bne_eq_false_iff_eq] at this ⊢
   exact this.symm
 | some q =>
   obtain ⟨i,u,v⟩:=q
   obtain ⟨h1,h2,h3⟩:=findI_some.1 h
   simp only [Option.map_some]
   rw [findI_some]
   refine ⟨(z i (v,u)).2 h1,?_,fun j y hj hy=>?_⟩
   · simp only [bne_iff_ne,ne_eq] at h2 ⊢; exact fun e=>h2 e.symm
   · have:=h3 j _ hj ((z j y).1 hy)
     simp only [bne_eq_false_iff_eq] at this ⊢
     exact this.symm
theorem lexB_swap {a b:List Int} (h:(difB a b).isSome=true):lexB a b=!lexB b a:=by
 unfold lexB
 rw [difB_swap a b]
 cases hd:difB a b with
 | none=>rw [hd] at h; cases h
 | some q =>
   obtain ⟨h1,h2,h3⟩:=findI_some.1 (show findI (fun _ q=>q.1 != q.2) (a.zip b)=some (q.1,q.2) from hd)
   simp only [bne_iff_ne,ne_eq] at h2
   simp only [Option.map_some]
   rw [← decide_not]
   exact decide_eq_decide.2 (by omega)
theorem dif_rev {ring:List Int} (h:ring.Nodup) (hl:2≤ring.length):(difB ring ring.reverse).isSome=true:=by
 cases hd:difB ring ring.reverse with
 | some q=>rfl
 | none =>
   exfalso
   have h0:0 < ring.length:=by omega
   have hz:(ring.zip ring.reverse)[0]?=some (ring[0],ring[ring.length - 1]):=by
    rw [List.getElem?_zip_eq_some]
    refine ⟨List.getElem?_eq_getElem h0,?_⟩
    rw [List.getElem?_reverse h0,Nat.sub_zero]
    exact List.getElem?_eq_getElem (by omega)
   have:=findI_none.1 (show findI (fun _ q=>q.1 != q.2) (ring.zip ring.reverse)=none from hd) 0 _ hz
   simp only [bne_eq_false_iff_eq] at this
   exact (List.pairwise_iff_getElem.1 (List.nodup_iff_pairwise_ne.1 h)) 0 (ring.length - 1) h0 (by omega) (by omega) this
theorem ringP_some {n:TNetwork} {ring l:List Int}:ringP n ring=some l↔okS n ring (startA n ring)=true∧ndS n ring (startA n ring)=l∧(∀ x∈l,startA n ring≤x)∧lexB ring ring.reverse=true:=by
 unfold ringP
 constructor
 · intro h
   split at h
   · rename_i h2
     split at h
     · rename_i q hq
       split at h
       · rename_i hc
         cases h
         obtain ⟨c1,c2,c3,c4⟩:=hc
         have hS:=(wk_iff n ring ring 0 (startA n ring,[]) q List.nodup_nil).2 ⟨hq,c2⟩
         refine ⟨?_,?_,c3,c4⟩
         · unfold okS; rw [hS]; simp only [Bool.and_eq_true,decide_eq_true_eq]; exact ⟨c1,by omega⟩
         · unfold ndS; rw [hS]
       · cases h
     · cases h
   · cases h
 · rintro ⟨h1,rfl,h3,h4⟩
   obtain ⟨g1,g2,g3⟩:=okS_iff.1 h1
   rw [if_pos g3,g1]
   simp only
   rw [if_pos (by exact ⟨by simp,g2,h3,h4⟩)]
end Vs

namespace Vs
open Go
theorem walkL_push:∀ (xs:List Int) (i:Nat) (a:List Int),walkL (fun _ x (a:List Int)=>(.inl (a++[x]):List Int ⊕ List Int)) (fun a=>a) i xs a=a++xs
 | [],i,a=>by simp [walkL]
 | x::xs,i,a=>by simp only [walkL]; rw [walkL_push xs (i+1)]; simp
theorem p_l17Back (ring:List Int) (hr:ring.length≤1048576):M_cl ring=some ring.reverse:=by
 unfold M_cl
 rw [w64_eq (by omega) (by omega)]
 have:=iter_list (f:=M_x ring) ring.reverse (fun i (a:List Int)=>((ring.length:Int) - 1 - (i:Int),a)) (fun _ x a=>.inl (a++[x])) (fun a=>a) (fun i a=>a.length=i) (fun i a x hx hI=>by
  have hlt:=(List.getElem?_eq_some_iff.1 hx).1
  rw [List.length_reverse] at hlt
  rw [List.getElem?_reverse hlt] at hx
  have h1:decide (0≤(ring.length:Int) - 1 - (i:Int))=true:=decide_eq_true (by omega)
  refine .inl ⟨_,rfl,by simp [hI],?_⟩
  have e:(ring.length:Int) - 1 - (i:Int)=((ring.length - 1 - i:Nat):Int):=by omega
  rw [e] at h1
  simp only [M_x,h1,cond_true,e,geti_nat,hx,Option.bind_some,bnd]
  rw [grd_t (by omega),w64_eq (by omega) (by omega)]
  simp only [Option.bind_some]
  rw [show ((ring.length - 1 - i:Nat):Int) - 1=(ring.length:Int) - 1 - ((i+1:Nat):Int) by omega]) (fun a _=>by
  have h1:decide (0≤(ring.length:Int) - 1 - (ring.reverse.length:Int))=false:=decide_eq_false (by rw [List.length_reverse]; omega)
  simp only [M_x,h1,cond_false]) [] rfl (by rw [List.length_reverse]; omega)
 rw [walkL_push] at this
 have e:(ring.length:Int) - 1 - ((0:Nat):Int)=(ring.length:Int) - 1:=by omega
 rw [e] at this
 rw [this]; rfl
theorem zip_len {a b:List Int} (h:a.length=b.length):(a.zip b).length=a.length:=by simp [h]
theorem p_l17Less (a b:List Int) (h:a.length=b.length) (hl:a.length≤1048576):M_av a b=some (lexB a b):=by
 unfold M_av
 have e:((a.length:Int) != (b.length:Int))=false:=by rw [h]; simp
 rw [e,cond_false]
 rw [iter_findI (f:=M_y a b) (a.zip b) (fun _ q=>q.1 != q.2) (fun _ q=>decide (q.1 < q.2)) () (fun i q hq _=>by
  obtain ⟨h1,h2⟩:=List.getElem?_zip_eq_some.1 hq
  have hlt:=(List.getElem?_eq_some_iff.1 h1).1
  have h3:decide ((i:Int) < a.length)=true:=by simp [hlt]
  simp only [M_y,h3,cond_true,geti_nat,h1,h2,Option.bind_some]
  rw [w64_eq (by omega) (by omega)]
  cases q.1 != q.2 <;> rfl) (by rw [zip_len h]; simp [M_y]) (by rw [zip_len h]; omega)]
 unfold lexB difB
 cases findI (fun _ q=>q.1 != q.2) (a.zip b) <;> rfl
theorem p_CompareI (a b:List Int) (h:a.length=b.length) (hl:a.length≤1048576):∃ r,M_ax a b=some r∧decide (r < 0)=lexB a b:=by
 unfold M_ax
 rw [iter_findI (f:=M_g a b) (a.zip b) (fun _ q=>q.1 != q.2) (fun _ q=>cmpI q.1 q.2) () (fun i q hq _=>by
  obtain ⟨h1,h2⟩:=List.getElem?_zip_eq_some.1 hq
  have hlt:=(List.getElem?_eq_some_iff.1 h1).1
  have h3:decide ((i:Int) < a.length)=true:=by simp [hlt]
  have h4:decide ((b.length:Int)≤(i:Int))=false:=by simp; omega
  simp only [M_g,h3,h4,cond_true,cond_false,geti_nat,h1,h2,Option.bind_some,p_cmp]
  rw [w64_eq (by omega) (by omega)]
  by_cases e:q.1=q.2
  · have e1:(cmpI q.1 q.2 != 0)=false:=by rw [cmpI_zero.2 e]; rfl
    have e2:(q.1 != q.2)=false:=by rw [e]; simp
    rw [e1,e2]; rfl
  · have e1:(cmpI q.1 q.2 != 0)=true:=bne_iff_ne.2 fun e'=>e (cmpI_zero.1 e')
    have e2:(q.1 != q.2)=true:=bne_iff_ne.2 e
    rw [e1,e2]; rfl) (by rw [zip_len h]; simp [M_g]) (by rw [zip_len h]; omega)]
 unfold lexB difB
 cases hf:findI (fun _ q=>q.1 != q.2) (a.zip b) with
 | none =>
   have e:decide ((a.length:Int) < (b.length:Int))=false:=by rw [h]; simp
   exact ⟨0,by simp only [Option.bind_some,e,cond_false],rfl⟩
 | some q =>
   refine ⟨cmpI q.2.1 q.2.2,rfl,?_⟩
   unfold cmpI
   by_cases h1:q.2.1 < q.2.2
   · simp [h1]
   · by_cases h2:q.2.2 < q.2.1 <;> simp [h1,h2]
end Vs

namespace Vs
open Go
theorem p_followed (n:TNetwork) (v:Int) (ring:List Int) (hF:n.Fibers.length≤1048576) (hr:ring.length≤1048576):M_bp n v ring=some (match wkI n ring 0 ring (v,[]) with | .inl q=>(q.2,q.1,true) | .inr _=>([],0,false)):=by
 unfold M_bp
 rw [p_followL n ring v hF hr]
 cases h:wkI n ring 0 ring (v,[]) with
 | inl q=>rfl
 | inr x=>rw [wkI_bad n ring ring 0 _ x h]; rfl
theorem walkL_min:∀ (xs:List Int) (i:Nat) (m:Int),∃ r,walkL (fun _ y (m:Int)=>(.inl (if y < m then y else m):Int ⊕ Int)) (fun m=>m) i xs m=r∧(r=m∨r∈xs)∧r≤m∧∀ x∈xs,r≤x
 | [],i,m=>⟨m,by simp [walkL],.inl rfl,Int.le_refl _,by simp⟩
 | y :: xs, i, m => by
   obtain ⟨r,h1,h2,h3,h4⟩:=walkL_min xs (i+1) (if y < m then y else m)
   refine ⟨r,by simp only [walkL]; exact h1,?_,?_,?_⟩
   · rcases h2 with h2 | h2
     · by_cases e:y < m
       · rw [if_pos e] at h2; right; rw [h2]; simp
       · rw [if_neg e] at h2; exact .inl h2
     · exact .inr (List.mem_cons_of_mem _ h2)
   · split at h3 <;> omega
   · intro x hx
     rcases List.mem_cons.1 hx with rfl | hx
     · split at h3 <;> omega
     · exact h4 x hx
theorem p_MinI (xs:List Int) (h0:0 < xs.length) (hl:xs.length≤1048576):∃ m,M_bq xs=some m∧m∈xs∧∀ x∈xs,m≤x:=by
 cases xs with
 | nil=>simp at h0
 | cons x t =>
   simp only [List.length_cons] at hl
   have:=iter_list (f:=M_m (x::t)) t (fun i (m:Int)=>(m,((i+1:Nat):Int))) (fun _ y (m:Int)=>.inl (if y < m then y else m)) (fun m=>m) (fun _ _=>True) (fun i m y hy _=>by
    have hlt:=(List.getElem?_eq_some_iff.1 hy).1
    have h1:decide (((i+1:Nat):Int) < ((x::t).length:Int))=true:=by simp; omega
    refine .inl ⟨_,rfl,trivial,?_⟩
    have hy':(x::t)[i+1]?=some y:=by simpa using hy
    simp only [M_m,h1,cond_true,geti_nat,hy',Option.bind_some]
    rw [w64_eq (by omega) (by omega)]
    rfl) (fun m _=>by simp [M_m]) x trivial (by omega)
   obtain ⟨r,h1,h2,h3,h4⟩:=walkL_min t 0 x
   refine ⟨r,?_,?_,?_⟩
   · unfold M_bq
     have e2:decide (((x::t).length:Int) < 1)=false:=by simp; omega
     rw [e2,cond_false]
     have e3:geti (x::t) 0=some x:=geti_nat (x::t) 0
     rw [e3]
     simp only [Option.bind_some]
     have e:((0+1:Nat):Int)=1:=rfl
     simp only [e] at this
     rw [this,h1]; rfl
   · rcases h2 with rfl | h2
     · simp
     · exact List.mem_cons_of_mem _ h2
   · intro y hy
     rcases List.mem_cons.1 hy with rfl | hy
     · exact h3
     · exact h4 y hy
theorem p_CloneI (xs:List Int) (hl:xs.length≤1048576):M_br xs=some xs:=by
 unfold M_br
 rw [grd_t (by omega)]
 cases xs with
 | nil=>rfl
 | cons x t=>rfl
theorem iter_swap {α:Type} {f:Int×Int×List α→Option ((Int×Int×List α) ⊕ (List α))} (xs:List α)
 (h1:∀ (i j:Nat) (l:List α) x y,i < j→l.length=xs.length→l[i]?=some x→l[j]?=some y→f ((i:Int),(j:Int),l)=some (.inl (((i+1:Nat):Int),(j:Int) - 1,(l.set i y).set j x)))
 (h2:∀ (i j:Int) (l:List α),j≤i→f (i,j,l)=some (.inr l)) (hl:xs.length < 18446744073709551615):iter f N0 (0,(xs.length:Int) - 1,xs)=some xs.reverse:=by
 obtain ⟨b,hb,h3⟩:=iter_inv (f:=f) (fun s=>∃ i:Nat,s.1=i∧s.2.1=(xs.length:Int) - 1 - i∧2 * i≤xs.length+1∧s.2.2.length=xs.length∧∀ k:Nat,k < xs.length→s.2.2[k]?=if k < i∨xs.length - 1 - k < i then xs[xs.length - 1 - k]? else xs[k]?)
  (fun s=>xs.length - s.1.toNat) (fun b=>b=xs.reverse) (fun s hI=>by
  obtain ⟨i',j',l⟩:=s
  obtain ⟨i,e1,e2,e3,e4,e5⟩:=hI
  simp only at e1 e2 e4 e5
  subst e1; subst e2
  by_cases h:(i:Int) < (xs.length:Int) - 1 - i
  · left
    have hi:i < xs.length:=by omega
    have hj:xs.length - 1 - i < xs.length:=by omega
    have g1:=e5 i hi
    rw [if_neg (by omega),List.getElem?_eq_getElem hi] at g1
    have g2:=e5 (xs.length - 1 - i) hj
    rw [if_neg (by omega),List.getElem?_eq_getElem hj] at g2
    have hf:=h1 i (xs.length - 1 - i) l _ _ (by omega) e4 g1 g2
    rw [show ((xs.length - 1 - i:Nat):Int)=(xs.length:Int) - 1 - i by omega] at hf
    refine ⟨_,hf,⟨i+1,rfl,by simp only; omega,by omega,by simp [e4],fun k hk=>?_⟩,by simp only [Int.toNat_natCast]; omega⟩
    simp only
    rw [List.getElem?_set]
    by_cases c1:xs.length - 1 - i=k
    · rw [if_pos c1,if_pos (by simp; omega),if_pos (by omega),show xs.length - 1 - k=i by omega,List.getElem?_eq_getElem hi]
    · rw [if_neg c1,List.getElem?_set]
      by_cases c2:i=k
      · rw [if_pos c2,if_pos (by omega),if_pos (by omega),← c2,List.getElem?_eq_getElem hj]
      · rw [if_neg c2,e5 k hk]
        by_cases c3:k < i∨xs.length - 1 - k < i
        · rw [if_pos c3,if_pos (by omega)]
        · rw [if_neg c3,if_neg (by omega)]
  · right
    refine ⟨_,h2 _ _ l (by omega),?_⟩
    apply List.ext_getElem?
    intro k
    by_cases hk:k < xs.length
    · rw [e5 k hk,List.getElem?_reverse hk]
      split
      · rfl
      · congr 1; omega
    · rw [List.getElem?_eq_none (by omega),List.getElem?_eq_none (by simp; omega)]) N0 (0,(xs.length:Int) - 1,xs) ⟨0,rfl,by simp,by omega,rfl,fun k hk=>by rw [if_neg (by omega)]⟩ (N0_lt (by simp; omega))
 rw [hb,h3]
theorem p_ReverseI (xs:List Int) (hl:xs.length≤1048576):M_bs xs=some xs.reverse:=by
 unfold M_bs
 rw [w64_eq (by omega) (by omega),iter_swap (f:=M_i) xs (fun i j l x y hij hll hx hy=>by
  have hi:=(List.getElem?_eq_some_iff.1 hx).1
  have hj:=(List.getElem?_eq_some_iff.1 hy).1
  have e1:decide ((i:Int) < (j:Int))=true:=decide_eq_true (by omega)
  have e3:(l.set i y)[j]?=some y:=by rw [List.getElem?_set,if_neg (by omega)]; exact hy
  simp only [M_i,e1,cond_true,Int.toNat_natCast,hx,hy,Option.bind_some,bnd,e3]
  rw [grd_t (by omega),grd_t (by omega),w64_eq (by omega) (by omega),w64_eq (by omega) (by omega)]
  rfl) (fun i j l h=>by
  have e1:decide (i < j)=false:=decide_eq_false (by omega)
  simp only [M_i,e1,cond_false]) (by omega)]
 rfl
theorem p_aroundL1 (r:List Int×Int×Bool) (hl:r.1.length≤1048576):iter (M_j r) N0 0=some (if r.1.Nodup then .inl () else .inr ([],false)):=by
 rw [iter_anyI (f:=M_j r) r.1 (fun i v=>decide (v∈r.1.take i)) (.inr ([],false)) (.inl ()) (fun i v hv _=>by
  have hlt:=(List.getElem?_eq_some_iff.1 hv).1
  have h1:decide ((i:Int) < r.1.length)=true:=by simp [hlt]
  simp only [M_j,h1,cond_true,Int.toNat_natCast,hv]
  rw [grd_t (by omega),grd_t ⟨trivial,by omega,trivial,by omega⟩]
  simp only [Option.bind_some,bnd,subT_drop,List.drop_zero,p_ContI (r.1.take i) v (by simp; omega)]
  rw [w64_eq (by omega) (by omega)]
  cases decide (v∈r.1.take i) <;> rfl) (by simp [M_j]) (by omega)]
 by_cases h:r.1.Nodup
 · rw [if_pos h]
   have:anyI (fun i v=>decide (v∈r.1.take i)) r.1=false:=anyI_false.2 fun i v hv=>by simpa using nodup_take h hv
   rw [this]; rfl
 · rw [if_neg h]
   have:anyI (fun i v=>decide (v∈r.1.take i)) r.1=true:=by
    cases e:anyI (fun i v=>decide (v∈r.1.take i)) r.1 with
    | true=>rfl
    | false =>
      exfalso
      exact h (nodup_of fun i v hv=>by simpa using anyI_false.1 e i v hv)
   rw [this]; rfl
theorem ringP_none {n:TNetwork} {ring:List Int} (h:∀ q,wkI n ring 0 ring (startA n ring,[])=.inl q→q.1=startA n ring→q.2.Nodup→(∀ x∈q.2,startA n ring≤x)→lexB ring ring.reverse=true→2≤ring.length→False):ringP n ring=none:=by
 cases hp:ringP n ring with
 | none=>rfl
 | some l =>
   obtain ⟨h1,h2,h3,h4⟩:=ringP_some.1 hp
   obtain ⟨g1,g2,g3⟩:=okS_iff.1 h1
   rw [h2] at g1 g2
   exact (h _ g1 rfl g2 h3 h4 g3).elim
theorem p_around (n:TNetwork) (ring:List Int) (hF:n.Fibers.length≤1048576) (hr:ring.length≤1048576):∃ l,M_bd n ring=some (l,(ringP n ring).isSome)∧∀ r,ringP n ring=some r→l=r:=by
 unfold M_bd
 match ring,hr with
 | [],_=>exact ⟨[],rfl,fun r h=>by simp [ringP] at h⟩
 | [e0],_=>exact ⟨[],rfl,fun r h=>by simp [ringP] at h⟩
 | e0 :: e1 :: t, hr =>
   have hlen:2≤(e0::e1::t).length:=by simp
   generalize hR:e0::e1::t=ring at *
   have hg:geti ring 0=some e0:=by rw [← hR]; exact geti_nat (e0::e1::t) 0
   have h2:decide ((ring.length:Int) < 2)=false:=decide_eq_false (by omega)
   simp only [h2,cond_false,hg,Option.bind_some,p_within]
   rw [w64_eq (by omega) (by omega)]
   rcases bt (wi e0 0 ((n.Fibers.length:Int) - 1)) with hw | hw
   · obtain ⟨f,g1,g2⟩:=geti_fib hw
     have hs:startA n ring=f.A:=by
      unfold startA
      rw [← hR]
      simp only [List.getElem?_cons_zero,g2]
     simp only [hw,Bool.not_true,cond_false,g1,Option.bind_some,p_followed n f.A ring hF hr]
     rw [← hs]
     cases hwk:wkI n ring 0 ring (startA n ring,[]) with
     | inr x =>
       have:ringP n ring=none:=ringP_none fun q hq=>by rw [hwk] at hq; cases hq
       rw [this]
       exact ⟨[],rfl,fun r h=>by cases h⟩
     | inl q =>
       simp only [Bool.not_true,cond_false]
       have hql:q.2.length=ring.length∧startA n ring∈q.2:=by
        obtain ⟨_,_,s,hs2⟩:=wkI_two hR.symm hwk
        refine ⟨?_,by rw [hs2]; simp⟩
        have key:∀ (ys:List Int) (i:Nat) (p q:Int×List Int),wkI n ring i ys p=.inl q→q.2.length=p.2.length+ys.length:=by
         intro ys
         induction ys with
         | nil=>intro i p q h; unfold wkI walkL at h; cases h; simp
         | cons e ys ih =>
           intro i p q h
           rw [wkI_cons] at h
           unfold stI at h
           by_cases h1:badE n ring i e=true
           · rw [if_pos h1] at h; cases h
           · rw [if_neg h1] at h
             by_cases h2:othI n e p.1 < 0
             · rw [if_pos h2] at h; cases h
             · rw [if_neg h2] at h
               have:=ih (i+1) _ q h
               simp only [List.length_append,List.length_cons,List.length_nil] at this ⊢
               omega
        simpa using key ring 0 _ q hwk
       by_cases hq1:q.1=startA n ring
       · have e1:(q.1 != startA n ring)=false:=by rw [hq1]; simp
         obtain ⟨m,m1,m2,m3⟩:=p_MinI q.2 (by omega) (by omega)
         simp only [e1,cond_false,m1,Option.bind_some]
         by_cases hm:m=startA n ring
         · have e2:(m != startA n ring)=false:=by rw [hm]; simp
           simp only [e2,cond_false,p_aroundL1 (q.2,q.1,true) (by simp only; omega),Option.bind_some]
           by_cases hnd:q.2.Nodup
           · rw [if_pos hnd]
             simp only [p_CloneI ring hr,p_ReverseI ring hr,Option.bind_some,bnd]
             have e3:subT ring.reverse 0 ring.length=ring.reverse:=by
              have:=subT_all ring.reverse
              rwa [List.length_reverse] at this
             obtain ⟨c,c1,c2⟩:=p_CompareI ring ring.reverse (by simp) hr
             simp only [e3,c1,c2,Option.bind_some]
             refine ⟨q.2,?_,?_⟩
             · congr 2
               cases hx:lexB ring ring.reverse with
               | true =>
                 have:ringP n ring=some q.2:=by
                  unfold ringP
                  rw [if_pos hlen,hwk]
                  simp only
                  rw [if_pos ⟨hq1,hnd,fun x hx=>by rw [← hm]; exact m3 x hx,hx⟩]
                 rw [this]; rfl
               | false =>
                 have:ringP n ring=none:=ringP_none fun _ _ _ _ _ hx'=>by rw [hx] at hx'; cases hx'
                 rw [this]; rfl
             · intro r hrp
               obtain ⟨h1,h2,_⟩:=ringP_some.1 hrp
               obtain ⟨g1,_⟩:=okS_iff.1 h1
               rw [hwk] at g1
               have:=congrArg Prod.snd (Sum.inl.inj g1)
               rw [← h2]; exact this
           · rw [if_neg hnd]
             have:ringP n ring=none:=ringP_none fun q' hq' _ hnd'=>by rw [hwk] at hq'; cases hq'; exact (hnd hnd').elim
             rw [this]
             exact ⟨[],rfl,fun r h=>by cases h⟩
         · have e2:(m != startA n ring)=true:=bne_iff_ne.2 hm
           have:ringP n ring=none:=ringP_none fun q' hq' _ _ hall=>by
            rw [hwk] at hq'; cases hq'
            have h5:=hall m m2
            have h6:=m3 _ hql.2
            omega
           rw [this]
           simp only [e2,cond_true]
           exact ⟨[],rfl,fun r h=>by cases h⟩
       · have e1:(q.1 != startA n ring)=true:=bne_iff_ne.2 hq1
         have:ringP n ring=none:=ringP_none fun q' hq' hq1'=>by rw [hwk] at hq'; cases hq'; exact (hq1 hq1').elim
         rw [this]
         simp only [e1,cond_true,Option.bind_some]
         exact ⟨[],rfl,fun r h=>by cases h⟩
   · have:ringP n ring=none:=ringP_none fun q hq _ _ _ _ _=>by
      have:=(wkI_two hR.symm hq).1
      rw [hw] at this; cases this
     rw [this]
     simp only [hw,Bool.not_false,cond_true,Option.bind_some]
     exact ⟨[],rfl,fun r h=>by cases h⟩
end Vs

namespace Vs
open Go
end Vs

namespace Vs
open Go
theorem nodup_le:∀ (m:Nat) (l:List Int),l.Nodup→(∀ x∈l,0≤x∧x < (m:Int))→l.length≤m
 | 0, l, _, h => by
   cases l with
   | nil=>simp
   | cons x l=>have:=h x (by simp); omega
 | m + 1, l, hn, h => by
   by_cases hm:(m:Int)∈l
   · have:=nodup_le m (l.erase (m:Int)) (hn.erase _) (fun x hx=>by
      have h1:=(hn.mem_erase_iff).1 hx
      have:=h x h1.2
      have h3:=h1.1
      omega)
     rw [List.length_erase_of_mem hm] at this
     omega
   · have:=nodup_le m l hn (fun x hx=>by
      have:=h x hx
      have:x ≠ (m:Int):=fun e=>hm (e ▸ hx)
      omega)
     omega
end Vs

namespace Vs
open Go
def stepD (n:TNetwork) (s:Int) (D:Int→List Int→List Int→List (List Int)) (a:Int) (p q:List Int) (i:Nat):List (List Int) :=
 if othI n (i:Int) a < s∨(i:Int)∈p then []
 else if othI n (i:Int) a=s then (if 2≤(p++[(i:Int)]).length∧lexB (p++[(i:Int)]) (p++[(i:Int)]).reverse=true then [p++[(i:Int)]] else [])
 else if othI n (i:Int) a∈q then [] else D (othI n (i:Int) a) (p++[(i:Int)]) (q++[othI n (i:Int) a])
def bodyD (n:TNetwork) (s:Int) (D:Int→List Int→List Int→List (List Int)) (a:Int) (p q:List Int):List (List Int):=(List.range n.Fibers.length).flatMap (stepD n s D a p q)
def dfsD (n:TNetwork) (s:Int):Nat→Int→List Int→List Int→List (List Int)
 | 0=>bodyD n s (fun _ _ _=>[])
 | k+1=>bodyD n s (dfsD n s k)
theorem wkI_app (n:TNetwork) (ring:List Int) (ys:List Int):∀ (xs:List Int) (i:Nat) (p q:Int×List Int),wkI n ring i xs p=.inl q→wkI n ring i (xs++ys) p=wkI n ring (i+xs.length) ys q
 | [], i, p, q, h => by
   unfold wkI walkL at h
   cases h; rfl
 | e :: xs, i, p, q, h => by
   rw [List.cons_append,wkI_cons]
   rw [wkI_cons] at h
   split at h
   · rename_i a he
     rw [wkI_app n ring ys xs (i+1) a q h,List.length_cons,show i+1+xs.length=i+(xs.length+1) by omega]
   · rename_i b he
     subst h
     unfold stI at he
     split at he
     · cases he
     · split at he <;> cases he
structure InvD (n:TNetwork) (s a:Int) (p q:List Int):Prop where
 wk:∃ q0,q=q0++[a]∧∀ suf,wkI n (p++suf) 0 p (s,[])=.inl (a,q0)
 nd:q.Nodup
 ge:∀ x∈q,s≤x
 st:p ≠ []→startA n p=s
 len:p.length+1=q.length
 s0:0≤s
 rg:∀ x∈q,0≤x∧x < n.Nodes.length
theorem wi_nat {n:TNetwork} {i:Nat} (hi:i < n.Fibers.length):wi (i:Int) 0 ((n.Fibers.length:Int) - 1)=true:=by
 unfold wi; simp; omega
theorem stI_ok {n:TNetwork} {p suf:List Int} {i:Nat} {a:Int} {q0:List Int} (hi:i < n.Fibers.length) (hp:(i:Int) ∉ p) (h0:0≤othI n (i:Int) a) :
 stI n (p++suf) p.length (i:Int) (a,q0)=.inl (othI n (i:Int) a,q0++[a]):=by
 have hb:badE n (p++suf) p.length (i:Int)=false:=by
  unfold badE
  rw [wi_nat hi,List.take_left,← any_mem]
  simp [hp]
 unfold stI
 simp only [hb,Bool.false_eq_true,if_false]
 rw [if_neg (by omega)]
theorem InvD.walk {n:TNetwork} {s a:Int} {p q:List Int} (h:InvD n s a p q) {i:Nat} (hi:i < n.Fibers.length) (hp:(i:Int) ∉ p) (h0:0≤othI n (i:Int) a) (suf:List Int) :
 wkI n (p++[(i:Int)]++suf) 0 (p++[(i:Int)]) (s,[])=.inl (othI n (i:Int) a,q):=by
 obtain ⟨q0,hq,hw⟩:=h.wk
 rw [List.append_assoc,wkI_app n _ _ p 0 _ _ (hw _),Nat.zero_add,wkI_cons,stI_ok hi hp h0]
 unfold wkI walkL
 rw [hq]
theorem oth_rng {n:TNetwork} (hn:netOk n=true) {i:Nat} (hi:i < n.Fibers.length) {a:Int} (h0:0≤othI n (i:Int) a) :
 othI n (i:Int) a < n.Nodes.length∧∃ f,n.Fibers[i]?=some f∧f.A < f.B∧(a=f.A∧othI n (i:Int) a=f.B∨a=f.B∧othI n (i:Int) a=f.A):=by
 have hf:n.Fibers[i]?=some n.Fibers[i]:=List.getElem?_eq_getElem hi
 have hk:=netOk_fibR hn hf
 have:=hk.a0; have:=hk.ab; have:=hk.bm
 unfold othI at h0 ⊢
 rw [Int.toNat_natCast,hf] at h0 ⊢
 simp only at h0 ⊢
 unfold otherP at h0 ⊢
 refine ⟨?_,n.Fibers[i],rfl,this |> fun _=>hk.ab,?_⟩
 · split
   · omega
   · split <;> omega
 · by_cases h1:a=n.Fibers[i].A
   · left; rw [if_pos h1]; exact ⟨h1,rfl⟩
   · rw [if_neg h1] at h0 ⊢
     by_cases h2:a=n.Fibers[i].B
     · right; rw [if_pos h2]; exact ⟨h2,rfl⟩
     · rw [if_neg h2] at h0; omega
theorem startA_app {n:TNetwork} {p:List Int} (hp:p ≠ []) (x:List Int):startA n (p++x)=startA n p:=by
 cases p with
 | nil=>exact absurd rfl hp
 | cons y p=>rfl
theorem InvD.ext {n:TNetwork} (hn:netOk n=true) {s a:Int} {p q:List Int} (h:InvD n s a p q) {i:Nat} (hi:i < n.Fibers.length) (hp:(i:Int) ∉ p) (h0:¬ othI n (i:Int) a < s) (h1:othI n (i:Int) a ≠ s)
 (h2:othI n (i:Int) a ∉ q):InvD n s (othI n (i:Int) a) (p++[(i:Int)]) (q++[othI n (i:Int) a]):=by
 have hs:=h.s0
 obtain ⟨r1,f,r2,r3,r4⟩:=oth_rng hn hi (a:=a) (by omega)
 refine ⟨⟨q,rfl,h.walk hi hp (by omega)⟩,?_,?_,fun _=>?_,by simp [h.len],hs,?_⟩
 · rw [List.nodup_append]
   exact ⟨h.nd,by simp,fun x hx y hy e=>by rw [List.mem_singleton] at hy; subst hy; subst e; exact h2 hx⟩
 · intro x hx
   rw [List.mem_append] at hx
   rcases hx with hx | hx
   · exact h.ge x hx
   · rw [List.mem_singleton] at hx; omega
 · cases p with
   | cons y p=>rw [startA_app (by simp)]; exact h.st (by simp)
   | nil =>
     obtain ⟨q0,hq,hw⟩:=h.wk
     have:=hw []
     unfold wkI walkL at this
     have ha:s=a:=by injection this with e; injection e
     unfold startA
     simp only [List.nil_append,List.getElem?_cons_zero,Int.toNat_natCast,r2]
     omega
 · intro x hx
   rw [List.mem_append] at hx
   rcases hx with hx | hx
   · exact h.rg x hx
   · rw [List.mem_singleton] at hx; omega
theorem InvD.close {n:TNetwork} {s a:Int} {p q:List Int} (h:InvD n s a p q) {i:Nat} (hi:i < n.Fibers.length) (hp:(i:Int) ∉ p) (h1:othI n (i:Int) a=s) :
 ringP n (p++[(i:Int)])=if 2≤(p++[(i:Int)]).length∧lexB (p++[(i:Int)]) (p++[(i:Int)]).reverse=true then some q else none:=by
 have hs:=h.s0
 unfold ringP
 by_cases hl:2≤(p++[(i:Int)]).length
 · have hne:p ≠ []:=by
    intro e; rw [e] at hl; simp at hl
   have hw:=h.walk hi hp (by omega) []
   rw [List.append_nil,h1] at hw
   rw [if_pos hl,startA_app hne,h.st hne,hw]
   simp only [true_and,hl]
   by_cases hx:lexB (p++[(i:Int)]) (p++[(i:Int)]).reverse=true
   · rw [if_pos ⟨h.nd,h.ge,hx⟩,if_pos hx]
   · rw [if_neg (fun e=>hx e.2.2),if_neg hx]
 · rw [if_neg hl,if_neg (fun e=>hl e.1)]
theorem InvD.init {n:TNetwork} {v:Nat} (hv:v < n.Nodes.length):InvD n (v:Int) (v:Int) [] [(v:Int)] :=
 ⟨⟨[],rfl,fun _=>rfl⟩,by simp,by simp,fun h=>absurd rfl h,rfl,by omega,by simp; omega⟩
theorem InvD.le {n:TNetwork} {s a:Int} {p q:List Int} (h:InvD n s a p q):q.length≤n.Nodes.length:=nodup_le _ q h.nd h.rg
theorem InvD.nodup {n:TNetwork} {s a:Int} {p q:List Int} (h:InvD n s a p q):p.Nodup:=by
 obtain ⟨q0,hq,hw⟩:=h.wk
 have:=hw []
 rw [List.append_nil] at this
 exact wkI_nodup this
theorem flat_split {α:Type} (f:Nat→List α) {i F:Nat} (h:i≤F):∃ R,(List.range F).flatMap f=(List.range i).flatMap f++R:=by
 obtain ⟨d,rfl⟩:=Nat.exists_eq_add_of_le h
 rw [List.range_add,List.flatMap_append]
 exact ⟨_,rfl⟩
theorem flat_succ {α:Type} (f:Nat→List α) (i:Nat):(List.range (i+1)).flatMap f=(List.range i).flatMap f++f i:=by
 rw [List.range_succ,List.flatMap_append]; simp
theorem flat_len {α:Type} (f:Nat→List α) (c:Nat):∀ (i:Nat),(∀ j,j < i→(f j).length≤c)→((List.range i).flatMap f).length≤i * c
 | 0,_=>by simp
 | i + 1, h => by
   rw [flat_succ,List.length_append,Nat.succ_mul]
   have:=flat_len f c i fun j hj=>h j (by omega)
   have:=h i (by omega)
   omega
theorem stepD_len {n:TNetwork} {s:Int} {D:Int→List Int→List Int→List (List Int)} {c:Nat} (hc:1≤c) (hD:∀ a p q,(D a p q).length≤c) (a:Int) (p q:List Int) (i:Nat):(stepD n s D a p q i).length≤c:=by
 unfold stepD
 split
 · simp
 · split
   · split <;> simp; omega
   · split
     · simp
     · exact hD _ _ _
theorem dfsD_len {n:TNetwork} {s:Int} (hF:n.Fibers.length≤14):∀ (k:Nat) (a:Int) (p q:List Int),(dfsD n s k a p q).length≤14 ^ (k+1)
 | 0, a, p, q => by
   unfold dfsD bodyD
   have:=flat_len (stepD n s (fun _ _ _=>[]) a p q) 1 n.Fibers.length fun j _=>stepD_len (by omega) (fun _ _ _=>by simp) a p q j
   omega
 | k + 1, a, p, q => by
   unfold dfsD bodyD
   have h1:1≤14 ^ (k+1):=Nat.pow_pos (by omega)
   have:=flat_len (stepD n s (dfsD n s k) a p q) (14 ^ (k+1)) n.Fibers.length fun j _=>stepD_len h1 (dfsD_len hF k) a p q j
   have h2:n.Fibers.length * 14 ^ (k+1)≤14 * 14 ^ (k+1):=Nat.mul_le_mul_right _ hF
   rw [Nat.pow_succ 14 (k+1)]
   omega
end Vs

namespace Vs
open Go
def lessB (a b:List Int):Bool:=if a.length=b.length then lexB a b else decide (a.length < b.length)
theorem p_l17LessG (a b:List Int) (hl:a.length≤1048576):M_av a b=some (lessB a b):=by
 unfold lessB
 by_cases h:a.length=b.length
 · rw [if_pos h]; exact p_l17Less a b h hl
 · rw [if_neg h]
   unfold M_av
   have e:((a.length:Int) != (b.length:Int))=true:=bne_iff_ne.2 (by omega)
   rw [e,cond_true]
   congr 1
   by_cases h2:a.length < b.length <;> simp [h2] <;> omega
theorem find_shift {α:Type} (p:Nat→α→Bool) (hp:∀ i j y,p i y=p j y):∀ (xs:List α) (k:Nat),((xs.zipIdx (k+1)).find? fun q=>p q.2 q.1)=((xs.zipIdx k).find? fun q=>p q.2 q.1).map fun q=>(q.1,q.2+1)
 | [],k=>rfl
 | x :: xs, k => by
   rw [List.zipIdx_cons,List.zipIdx_cons,List.find?_cons,List.find?_cons]
   simp only [hp (k+1) k x]
   cases p k x with
   | true=>rfl
   | false=>exact find_shift p hp xs (k+1)
theorem findI_cons {α:Type} (p:Nat→α→Bool) (x:α) (xs:List α) (hp:∀ i j y,p i y=p j y) :
 findI p (x::xs)=if p 0 x then some (0,x) else (findI p xs).map fun q=>(q.1+1,q.2):=by
 unfold findI
 rw [List.zipIdx_cons,List.find?_cons]
 by_cases h:p 0 x=true
 · simp [h]
 · simp only [Bool.not_eq_true] at h
   simp only [h,Bool.false_eq_true,if_false]
   rw [find_shift p hp xs 0,Option.map_map,Option.map_map]
   rfl
theorem lexB_cons (x y:Int) (a b:List Int):lexB (x::a) (y::b)=if x=y then lexB a b else decide (x < y):=by
 unfold lexB difB
 rw [List.zip_cons_cons,findI_cons _ _ _ (fun _ _ _=>rfl)]
 by_cases h:x=y
 · simp only [h,bne_self_eq_false,Bool.false_eq_true,if_false,if_true]
   cases findI (fun _ (q:Int×Int)=>q.1 != q.2) (a.zip b) <;> rfl
 · have:(x != y)=true:=bne_iff_ne.2 h
   simp only [this,if_true,if_neg h]
theorem lexB_irr:∀ a:List Int,lexB a a=false
 | []=>rfl
 | x::a=>by rw [lexB_cons,if_pos rfl]; exact lexB_irr a
theorem lexB_trans:∀ a b c:List Int,a.length=b.length→b.length=c.length→lexB a b=true→lexB b c=true→lexB a c=true
 | [],[],[],_,_,h,_=>h
 | x :: a, y :: b, z :: c, h1, h2, h3, h4 => by
   rw [lexB_cons] at h3 h4 ⊢
   by_cases e1:x=y
   · rw [if_pos e1] at h3
     by_cases e2:y=z
     · rw [if_pos e2] at h4
       rw [if_pos (e1.trans e2)]
       exact lexB_trans a b c (by simpa using h1) (by simpa using h2) h3 h4
     · rw [if_neg e2] at h4
       rw [if_neg (by omega)]
       simp only [decide_eq_true_eq] at h4 ⊢; omega
   · rw [if_neg e1] at h3
     simp only [decide_eq_true_eq] at h3
     by_cases e2:y=z
     · rw [if_neg (by omega)]; simp only [decide_eq_true_eq]; omega
     · rw [if_neg e2] at h4
       simp only [decide_eq_true_eq] at h4
       rw [if_neg (by omega)]; simp only [decide_eq_true_eq]; omega
theorem lexB_tot:∀ a b:List Int,a.length=b.length→lexB a b=false→lexB b a=false→a=b
 | [],[],_,_,_=>rfl
 | x :: a, y :: b, h, h1, h2 => by
   rw [lexB_cons] at h1 h2
   by_cases e:x=y
   · rw [if_pos e] at h1
     rw [if_pos e.symm] at h2
     rw [e,lexB_tot a b (by simpa using h) h1 h2]
   · rw [if_neg e] at h1
     rw [if_neg (Ne.symm e)] at h2
     simp only [decide_eq_false_iff_not] at h1 h2; omega
theorem lessB_irr (a:List Int):lessB a a=false:=by
 unfold lessB; rw [if_pos rfl]; exact lexB_irr a
theorem lessB_trans {a b c:List Int} (h1:lessB a b=true) (h2:lessB b c=true):lessB a c=true:=by
 unfold lessB at *
 by_cases e1:a.length=b.length
 · rw [if_pos e1] at h1
   by_cases e2:b.length=c.length
   · rw [if_pos e2] at h2
     rw [if_pos (e1.trans e2)]
     exact lexB_trans a b c e1 e2 h1 h2
   · rw [if_neg e2] at h2
     rw [if_neg (by omega)]; simp only [decide_eq_true_eq] at h2 ⊢; omega
 · rw [if_neg e1] at h1
   simp only [decide_eq_true_eq] at h1
   by_cases e2:b.length=c.length
   · rw [if_neg (by omega)]; simp only [decide_eq_true_eq]; omega
   · rw [if_neg e2] at h2
     simp only [decide_eq_true_eq] at h2
     rw [if_neg (by omega)]; simp only [decide_eq_true_eq]; omega
theorem lessB_tot {a b:List Int} (h1:lessB a b=false) (h2:lessB b a=false):a=b:=by
 unfold lessB at *
 by_cases e:a.length=b.length
 · rw [if_pos e] at h1
   rw [if_pos e.symm] at h2
   exact lexB_tot a b e h1 h2
 · rw [if_neg e] at h1
   rw [if_neg (Ne.symm e)] at h2
   simp only [decide_eq_false_iff_not] at h1 h2; omega
theorem lessB_ntrans {a b c:List Int} (h1:lessB a b=false) (h2:lessB b c=false):lessB a c=false:=by
 cases h:lessB a c with
 | false=>rfl
 | true =>
   -- c≤b≤a < c
   cases h3:lessB b a with
   | true=>rw [lessB_trans h3 h] at h2; cases h2
   | false=>rw [lessB_tot h1 h3] at h; rw [h] at h2; cases h2
def insR (l:List (List Int)) (r:List Int):List (List Int):=l.takeWhile (fun x=>lessB x r)++[r]++l.dropWhile (fun x=>lessB x r)
def putR (l:List (List Int)) (r:List Int):List (List Int):=if l.length≤60 then insR l r else l
def putsR (l:List (List Int)) (rs:List (List Int)):List (List Int):=rs.foldl putR l
theorem insR_perm (l:List (List Int)) (r:List Int):(insR l r).Perm (r::l):=by
 unfold insR
 have h:l.takeWhile (fun x=>lessB x r)++l.dropWhile (fun x=>lessB x r)=l:=List.takeWhile_append_dropWhile
 rw [List.append_assoc]
 refine List.perm_middle.trans ?_
 show (r::(l.takeWhile (fun x=>lessB x r)++l.dropWhile (fun x=>lessB x r))).Perm (r::l)
 rw [h]
theorem insR_len (l:List (List Int)) (r:List Int):(insR l r).length=l.length+1:=(insR_perm l r).length_eq
theorem insR_srt {l:List (List Int)} {r:List Int} (h:l.Pairwise fun a b=>lessB b a=false):(insR l r).Pairwise fun a b=>lessB b a=false:=by
 induction l with
 | nil=>simp [insR]
 | cons x l ih =>
   rw [List.pairwise_cons] at h
   unfold insR
   by_cases hx:lessB x r=true
   · simp only [List.takeWhile_cons,List.dropWhile_cons,hx,if_true]
     show (x::insR l r).Pairwise _
     rw [List.pairwise_cons]
     refine ⟨fun y hy=>?_,ih h.2⟩
     have:=(insR_perm l r).mem_iff.1 hy
     rw [List.mem_cons] at this
     rcases this with e | e
     · rw [e]
       cases h':lessB r x with
       | false=>rfl
       | true=>rw [← lessB_trans hx h',lessB_irr]
     · exact h.1 y e
   · simp only [Bool.not_eq_true] at hx
     simp only [List.takeWhile_cons,List.dropWhile_cons,hx,Bool.false_eq_true,if_false]
     show (r::x::l).Pairwise _
     rw [List.pairwise_cons,List.pairwise_cons]
     refine ⟨fun y hy=>?_,h⟩
     rw [List.mem_cons] at hy
     rcases hy with e | e
     · rw [e]; exact hx
     · exact lessB_ntrans (h.1 y e) hx
theorem putR_len (l:List (List Int)) (r:List Int) (h:l.length≤61):(putR l r).length≤61:=by
 unfold putR
 split
 · rw [insR_len]; omega
 · exact h
theorem putsR_len:∀ (rs:List (List Int)) (l:List (List Int)),l.length≤61→(putsR l rs).length≤61
 | [],l,h=>h
 | r::rs,l,h=>putsR_len rs _ (putR_len l r h)
theorem putsR_full:∀ (rs:List (List Int)) (l:List (List Int)),60 < l.length→putsR l rs=l
 | [],l,h=>rfl
 | r :: rs, l, h => by
   show putsR (putR l r) rs=l
   have:putR l r=l:=by unfold putR; rw [if_neg (by omega)]
   rw [this]; exact putsR_full rs l h
theorem putsR_app (l xs ys:List (List Int)):putsR l (xs++ys)=putsR (putsR l xs) ys:=List.foldl_append
theorem putsR_spec:∀ (rs:List (List Int)) (l:List (List Int)),l.Pairwise (fun a b=>lessB b a=false)→l.length≤61→(putsR l rs).Pairwise (fun a b=>lessB b a=false) ∧
 (if l.length+rs.length≤61 then (putsR l rs).Perm (l++rs) else (putsR l rs).length=61)
 | [], l, h, hl => by
   refine ⟨h,?_⟩
   rw [if_pos (by simpa using hl),List.append_nil]; exact List.Perm.refl _
 | r :: rs, l, h, hl => by
   show (putsR (putR l r) rs).Pairwise _∧_
   by_cases h6:l.length≤60
   · have e:putR l r=insR l r:=by unfold putR; rw [if_pos h6]
     obtain ⟨h1,h2⟩:=putsR_spec rs (insR l r) (insR_srt h) (by rw [insR_len]; omega)
     rw [insR_len] at h2
     show (putsR (putR l r) rs).Pairwise _∧(if l.length+(rs.length+1)≤61 then (putsR (putR l r) rs).Perm _ else (putsR (putR l r) rs).length=61)
     rw [e]
     refine ⟨h1,?_⟩
     by_cases hc:l.length+(rs.length+1)≤61
     · rw [if_pos hc]
       rw [if_pos (by omega)] at h2
       refine h2.trans ?_
       exact ((insR_perm l r).append_right rs).trans List.perm_middle.symm
     · rw [if_neg hc]
       rw [if_neg (by omega)] at h2
       exact h2
   · have e:putR l r=l:=by unfold putR; rw [if_neg h6]
     show _∧(if l.length+(rs.length+1)≤61 then (putsR (putR l r) rs).Perm _ else (putsR (putR l r) rs).length=61)
     rw [e,putsR_full rs l (by omega)]
     exact ⟨h,by rw [if_neg (by omega)]; omega⟩
theorem srt_eq:∀ (xs ys:List (List Int)),xs.Perm ys→xs.Pairwise (fun a b=>lessB b a=false)→ys.Pairwise (fun a b=>lessB b a=false)→xs=ys
 | [],ys,h,_,_=>(List.nil_perm.1 h).symm
 | x::xs,[],h,_,_=>by have:=h.length_eq; simp at this
 | x :: xs, y :: ys, h, h1, h2 => by
   rw [List.pairwise_cons] at h1 h2
   have e:x=y:=by
    have m1:x∈y::ys:=h.mem_iff.1 List.mem_cons_self
    have m2:y∈x::xs:=h.mem_iff.2 List.mem_cons_self
    rw [List.mem_cons] at m1 m2
    rcases m1 with e | m1
    · exact e
    · rcases m2 with e | m2
      · exact e.symm
      · exact lessB_tot (h2.1 x m1) (h1.1 y m2)
   subst e
   rw [srt_eq xs ys (List.Perm.cons_inv h) h1.2 h2.2]
end Vs

namespace Vs
open Go
theorem subT_takeG {α:Type} (xs:List α) (k:Nat) (h:k≤xs.length):subT xs 0 k=xs.take k:=by
 unfold subT
 split
 · rename_i e; rw [e.2,List.take_length]
 · rw [List.drop_zero]
theorem subT_dropG {α:Type} (xs:List α) (k:Nat) (h:k≤xs.length):subT xs k (xs.length - k)=xs.drop k:=by
 unfold subT
 split
 · rename_i e; rw [e.1,List.drop_zero]
 · rw [List.take_of_length_le (by simp)]
theorem take_while {α:Type} (p:α→Bool):∀ (l:List α),l.take (l.takeWhile p).length=l.takeWhile p∧l.drop (l.takeWhile p).length=l.dropWhile p
 | []=>⟨rfl,rfl⟩
 | x :: l => by
   obtain ⟨h1,h2⟩:=take_while p l
   simp only [List.takeWhile_cons,List.dropWhile_cons]
   by_cases h:p x=true
   · simp [h,h1,h2]
   · simp only [Bool.not_eq_true] at h
     simp [h]
theorem tw_le {α:Type} (p:α→Bool) (l:List α):(l.takeWhile p).length≤l.length:=by
 rw [← (take_while p l).1,List.length_take]; omega
theorem tw_at {α:Type} (p:α→Bool):∀ (l:List α) (i:Nat),(∀ j y,j < i→l[j]?=some y→p y=true)→i≤l.length→(i=l.length∨∃ y,l[i]?=some y∧p y=false)→(l.takeWhile p).length=i
 | [],i,_,h,_=>by simp at h ⊢; omega
 | x :: l, 0, h1, h2, h3 => by
   rcases h3 with h3 | ⟨y,h3,h4⟩
   · simp at h3
   · simp at h3; subst h3; simp [List.takeWhile_cons,h4]
 | x :: l, i + 1, h1, h2, h3 => by
   have hx:=h1 0 x (by omega) rfl
   rw [List.takeWhile_cons,hx]
   simp only [if_true,List.length_cons]
   rw [tw_at p l i (fun j y hj hy=>h1 (j+1) y (by omega) (by simpa using hy)) (by simpa using h2) (by
    rcases h3 with h3 | ⟨y,h3,h4⟩
    · left; simpa using h3
    · right; exact ⟨y,by simpa using h3,h4⟩)]
theorem p_l17Put (l:List (List Int)) (r:List Int) (h:∀ x∈l,x.length≤1048576) (hl:l.length≤1000):M_bx l r=some (insR l r,l):=by
 unfold M_bx
 obtain ⟨b,hb,hq⟩:=iter_inv (f:=M_k l r) (fun s=>∃ i:Nat,s=(i:Int)∧i≤l.length∧∀ j y,j < i→l[j]?=some y→lessB y r=true) (fun s=>l.length - s.toNat) (fun b=>b=(((l.takeWhile fun x=>lessB x r).length:Nat):Int))
  (fun s ⟨i,e,h1,h2⟩=>by
   subst e
   unfold M_k
   by_cases hi:i < l.length
   · have e1:decide ((i:Int) < (l.length:Int))=true:=by simp [hi]
     have e2:l[i]?=some l[i]:=List.getElem?_eq_getElem hi
     rw [e1,cond_true,grd_t (by omega),Option.bind_some,Int.toNat_natCast,e2,Option.bind_some,p_l17LessG _ _ (h _ (List.getElem_mem hi)),Option.bind_some]
     cases hc:lessB l[i] r with
     | true =>
       left
       refine ⟨((i+1:Nat):Int),by rw [cond_true,w64_eq (by omega) (by omega)]; rfl,⟨i+1,rfl,by omega,fun j y hj hy=>?_⟩,by simp; omega⟩
       by_cases hji:j=i
       · subst hji; rw [e2] at hy; cases hy; exact hc
       · exact h2 j y (by omega) hy
     | false =>
       right
       exact ⟨_,rfl,by rw [tw_at _ l i h2 (by omega) (.inr ⟨_,e2,hc⟩)]⟩
   · have e1:decide ((i:Int) < (l.length:Int))=false:=by simp; omega
     right
     rw [e1]
     exact ⟨_,rfl,by rw [tw_at _ l i h2 h1 (.inl (by omega))]⟩) N0 0 ⟨0,rfl,by omega,fun j y hj=>by omega⟩ (N0_lt (by simp; omega))
 subst hq
 have hk:=tw_le (fun x=>lessB x r) l
 rw [hb,Option.bind_some,Int.toNat_natCast]
 rw [grd_t ⟨trivial,by omega,trivial,hk⟩,Option.bind_some]
 simp only [bnd]
 rw [subT_takeG _ _ hk,subT_dropG _ _ hk,(take_while _ l).1,(take_while _ l).2]
 rw [grd_t (by omega),Option.bind_some]
 rw [grd_t (by omega),Option.bind_some]
 rw [grd_t ⟨by omega,trivial,hk,trivial⟩,Option.bind_some]
 have hd:(l.dropWhile fun x=>lessB x r).length≤l.length:=by
  rw [← (take_while _ l).2,List.length_drop]; omega
 rw [grd_t (by simp; omega),Option.bind_some]
 rfl
theorem p_l1Own (l:List Int) (hl:l.length≤1048576):M_be l=some l:=by
 unfold M_be
 rw [grd_t (by omega),Option.bind_some]
def RcS (n:TNetwork) (s:Int) (D:Int→List Int→List Int→List (List Int)) (L:Nat) (rc:Int→Int→List ByteArray→List TFiber→List (List Int)→List Int→List Int→Option (List ByteArray×List TFiber×List (List Int)×List Int×List Int)):Prop :=
 ∀ a p q l,InvD n s a p q→q.length=L+1→l.length≤61→(∀ x∈l,x.length≤14)→rc s a n.Nodes n.Fibers l p q=some (n.Nodes,n.Fibers,putsR l (D a p q),p,q)
theorem ring_len {n:TNetwork} (hn:netOk n=true) {s a:Int} {p q:List Int} (h:InvD n s a p q):p.length+1≤8:=by
 have h1:=h.le
 have h2:=h.len
 have:=netOk_bR hn
 omega
theorem putsR_mem:∀ (rs l:List (List Int)) (x:List Int),x∈putsR l rs→x∈l∨x∈rs
 | [],l,x,h=>.inl h
 | r :: rs, l, x, h => by
   rcases putsR_mem rs (putR l r) x h with h | h
   · unfold putR at h
     split at h
     · rcases List.mem_cons.1 ((insR_perm l r).mem_iff.1 h) with h | h
       · right; rw [h]; exact List.mem_cons_self
       · exact .inl h
     · exact .inl h
   · exact .inr (List.mem_cons_of_mem _ h)
def OkD (n:TNetwork) (r:List Int):Prop:=(ringP n r).isSome=true∧r.length≤8
theorem bodyD_ok {n:TNetwork} (hn:netOk n=true) {s:Int} {D:Int→List Int→List Int→List (List Int)} {L:Nat} (hD:∀ a p q,InvD n s a p q→q.length=L+1→∀ r∈D a p q,OkD n r)
 {a:Int} {p q:List Int} (h:InvD n s a p q) (hq:q.length=L):∀ r∈bodyD n s D a p q,OkD n r:=by
 intro r hr
 unfold bodyD at hr
 rw [List.mem_flatMap] at hr
 obtain ⟨i,hi,hr⟩:=hr
 rw [List.mem_range] at hi
 unfold stepD at hr
 split at hr
 · cases hr
 · rename_i h1
   rw [not_or] at h1
   split at hr
   · rename_i h2
     split at hr
     · rename_i h3
       rw [List.mem_singleton] at hr
       subst hr
       refine ⟨by rw [h.close hi h1.2 h2,if_pos h3]; rfl,?_⟩
       have:=ring_len hn h
       simp; omega
     · cases hr
   · rename_i h2
     split at hr
     · cases hr
     · rename_i h3
       exact hD _ _ _ (h.ext hn hi h1.2 h1.1 h2 h3) (by simp [hq]) r hr
theorem dfsD_ok {n:TNetwork} (hn:netOk n=true) {s:Int}:∀ (k:Nat) {a:Int} {p q:List Int},InvD n s a p q→q.length+k=n.Nodes.length→∀ r∈dfsD n s k a p q,OkD n r
 | 0,a,p,q,h,hk=>bodyD_ok hn (L:=q.length) (fun _ _ _ _ _ _ hr=>by cases hr) h rfl
 | k+1,a,p,q,h,hk=>bodyD_ok hn (L:=q.length) (fun a' p' q' h' hq'=>dfsD_ok hn k h' (by omega)) h rfl
theorem spec_body {n:TNetwork} (hn:netOk n=true) {s:Int} {D:Int→List Int→List Int→List (List Int)} {L:Nat}
 {rc:Int→Int→List ByteArray→List TFiber→List (List Int)→List Int→List Int→Option (List ByteArray×List TFiber×List (List Int)×List Int×List Int)}
 (hrc:RcS n s D L rc) (hD:∀ a p q,InvD n s a p q→q.length=L+1→∀ r∈D a p q,OkD n r) {a:Int} {p q:List Int} (h:InvD n s a p q) (hq:q.length=L) (l0:List (List Int)) (hl0:l0.length≤61) (hx0:∀ x∈l0,x.length≤14) :
 M_by rc s a n.Nodes n.Fibers l0 p q=some (n.Nodes,n.Fibers,putsR l0 (bodyD n s D a p q),p,q):=by
 unfold M_by
 have hF:=(netOk_bR hn).2.2
 have hpl:=ring_len hn h
 have hql:=h.len
 obtain ⟨b,hb,hQ⟩:=iter_inv (f:=M_b s a p q rc) (fun t=>∃ i:Nat,t=((i:Int),n.Nodes,n.Fibers,putsR l0 ((List.range i).flatMap (stepD n s D a p q)))∧i≤n.Fibers.length) (fun t=>n.Fibers.length - t.1.toNat)
  (fun b=>b=(n.Nodes,n.Fibers,putsR l0 (bodyD n s D a p q)))
  (fun t ⟨i,e,hi⟩=>by
   subst e
   obtain ⟨l,hl⟩:∃ l,l=putsR l0 ((List.range i).flatMap (stepD n s D a p q)):=⟨_,rfl⟩
   have hll:l.length≤61:=by rw [hl]; exact putsR_len _ _ hl0
   have hlx:∀ x∈l,x.length≤14:=by
    intro x hx
    rw [hl] at hx
    rcases putsR_mem _ _ _ hx with hx | hx
    · exact hx0 x hx
    · obtain ⟨R,hR⟩:=flat_split (stepD n s D a p q) hi
      have:=(bodyD_ok hn hD h hq x (by unfold bodyD; rw [hR]; exact List.mem_append_left _ hx)).2
      omega
   have hnext:putsR l (stepD n s D a p q i)=putsR l0 ((List.range (i+1)).flatMap (stepD n s D a p q)):=by rw [flat_succ,putsR_app,hl]
   rw [← hl]
   unfold M_b
   by_cases hi2:i < n.Fibers.length
   · have e1:decide ((i:Int) < (n.Fibers.length:Int))=true:=by simp [hi2]
     simp only [e1,cond_true,Option.bind_some]
     by_cases h6:l.length≤60
     · have e2:decide ((l.length:Int)≤60)=true:=by simp; omega
       simp only [e2,cond_true]
       have e3:M_bi (⟨n.Nodes,n.Fibers⟩:TNetwork) (i:Int) a=some (othI n (i:Int) a):=p_l2Other n (i:Int) a (wi_nat hi2)
       have e4:M_aw p (i:Int)=some (decide ((i:Int)∈p)):=by rw [p_l1Has _ _ (by omega),any_mem]
       have e5:M_aw q (othI n (i:Int) a)=some (decide (othI n (i:Int) a∈q)):=by rw [p_l1Has _ _ (by omega),any_mem]
       have w1:IntKind.wrap .i64 ((i:Int)+1)=((i+1:Nat):Int):=by rw [w64_eq (by omega) (by omega)]; rfl
       have fin:∀ l',l'=putsR l (stepD n s D a p q i)→(∃ i':Nat,(((i+1:Nat):Int),n.Nodes,n.Fibers,l')=((i':Int),n.Nodes,n.Fibers,putsR l0 ((List.range i').flatMap (stepD n s D a p q)))∧i'≤n.Fibers.length) :=
        fun l' e=>⟨i+1,by rw [e,hnext],by omega⟩
       have fin2:∀ l',l'=putsR l (stepD n s D a p q i)→(n.Fibers.length - ((((i+1:Nat):Int),n.Nodes,n.Fibers,l'):Int×List ByteArray×List TFiber×List (List Int)).1.toNat < n.Fibers.length - (((i:Int),n.Nodes,n.Fibers,l):Int×List ByteArray×List TFiber×List (List Int)).1.toNat):=fun l' _=>by simp only [Int.toNat_natCast]; omega
       left
       simp only [e3,Option.bind_some,e4,w1]
       by_cases c1:othI n (i:Int) a < s
       · simp only [c1,decide_true,cond_true,Option.bind_some]
         have:l=putsR l (stepD n s D a p q i):=by unfold stepD; rw [if_pos (.inl c1)]; rfl
         exact ⟨_,rfl,fin l this,fin2 l this⟩
       · simp only [c1,decide_false,cond_false,Option.bind_some]
         by_cases c2:(i:Int)∈p
         · simp only [c2,decide_true,cond_true]
           have:l=putsR l (stepD n s D a p q i):=by unfold stepD; rw [if_pos (.inr c2)]; rfl
           exact ⟨_,rfl,fin l this,fin2 l this⟩
         · simp only [c2,decide_false,cond_false,p_l1Own p (by omega),Option.bind_some,bnd]
           rw [grd_t (by omega),Option.bind_some]
           have hne:¬ (othI n (i:Int) a < s∨(i:Int)∈p):=fun e=>e.elim c1 c2
           by_cases c3:othI n (i:Int) a=s
           · have e6:(othI n (i:Int) a==s)=true:=by rw [c3]; simp
             simp only [e6,cond_true]
             by_cases c4:2≤(p++[(i:Int)]).length
             · have e7:decide (1 < ((p++[(i:Int)]).length:Int))=true:=by rw [decide_eq_true_eq]; omega
               have hnd:(p++[(i:Int)]).Nodup:=by
                rw [List.nodup_append]
                exact ⟨h.nodup,by simp,fun x hx y hy e=>by rw [List.mem_singleton] at hy; subst hy; subst e; exact c2 hx⟩
               have e8:M_av (p++[(i:Int)]).reverse (p++[(i:Int)])=some (!lexB (p++[(i:Int)]) (p++[(i:Int)]).reverse):=by
                rw [p_l17Less _ _ (by simp) (by simp; omega),← lexB_swap]
                rw [difB_swap]
                have:=dif_rev hnd c4
                cases hd:difB (p++[(i:Int)]) (p++[(i:Int)]).reverse with
                | none=>rw [hd] at this; cases this
                | some q=>rfl
               simp only [e7,cond_true,p_l17Back (p++[(i:Int)]) (by simp; omega),Option.bind_some,e8,Bool.not_not]
               by_cases c5:lexB (p++[(i:Int)]) (p++[(i:Int)]).reverse=true
               · simp only [c5,cond_true]
                 rw [p_l17Put l _ (fun x hx=>by have:=hlx x hx; omega) (by omega)]
                 simp only [Option.bind_some]
                 have:insR l (p++[(i:Int)])=putsR l (stepD n s D a p q i):=by
                  unfold stepD; rw [if_neg hne,if_pos c3,if_pos ⟨c4,c5⟩]
                  show _=putR l _
                  unfold putR; rw [if_pos h6]
                 exact ⟨_,rfl,fin _ this,fin2 _ this⟩
               · simp only [Bool.not_eq_true] at c5
                 simp only [c5,cond_false,Option.bind_some]
                 have:l=putsR l (stepD n s D a p q i):=by
                  unfold stepD; rw [if_neg hne,if_pos c3,if_neg (fun e=>by rw [c5] at e; exact Bool.noConfusion e.2)]; rfl
                 exact ⟨_,rfl,fin _ this,fin2 _ this⟩
             · have e7:decide (1 < ((p++[(i:Int)]).length:Int))=false:=by rw [decide_eq_false_iff_not]; omega
               simp only [e7,cond_false,Option.bind_some]
               have:l=putsR l (stepD n s D a p q i):=by
                unfold stepD; rw [if_neg hne,if_pos c3,if_neg (fun e=>c4 e.1)]; rfl
               exact ⟨_,rfl,fin _ this,fin2 _ this⟩
           · have e6:(othI n (i:Int) a==s)=false:=by simp [c3]
             simp only [e6,cond_false,e5,Option.bind_some]
             by_cases c4:othI n (i:Int) a∈q
             · simp only [c4,decide_true,Bool.not_true,cond_false]
               have:l=putsR l (stepD n s D a p q i):=by
                unfold stepD; rw [if_neg hne,if_neg c3,if_pos c4]; rfl
               exact ⟨_,rfl,fin _ this,fin2 _ this⟩
             · simp only [c4,decide_false,Bool.not_false,cond_true,p_l1Own q (by omega),Option.bind_some]
               rw [grd_t (by omega),Option.bind_some]
               rw [hrc _ _ _ l (h.ext hn hi2 c2 c1 c3 c4) (by simp [hq]) hll hlx,Option.bind_some]
               have:putsR l (D (othI n (i:Int) a) (p++[(i:Int)]) (q++[othI n (i:Int) a]))=putsR l (stepD n s D a p q i):=by
                unfold stepD; rw [if_neg hne,if_neg c3,if_neg c4]
               exact ⟨_,rfl,fin _ this,fin2 _ this⟩
     · have e2:decide ((l.length:Int)≤60)=false:=by simp; omega
       right
       simp only [e2,cond_false]
       refine ⟨_,rfl,?_⟩
       obtain ⟨R,hR⟩:=flat_split (stepD n s D a p q) hi
       have:putsR l0 (bodyD n s D a p q)=l:=by
        unfold bodyD; rw [hR,putsR_app,← hl,putsR_full _ _ (by omega)]
       rw [this]
   · have e1:decide ((i:Int) < (n.Fibers.length:Int))=false:=by simp; omega
     right
     simp only [e1,cond_false,Option.bind_some]
     refine ⟨_,rfl,?_⟩
     have:i=n.Fibers.length:=by omega
     rw [hl,this]; rfl) N0 (0,n.Nodes,n.Fibers,l0) ⟨0,rfl,by omega⟩ (N0_lt (by simp; omega))
 rw [hb,hQ]; rfl
theorem p_extend {n:TNetwork} (hn:netOk n=true) {s:Int}:∀ (k m:Nat),k < m→∀ {a:Int} {p q:List Int} (l:List (List Int)),InvD n s a p q→q.length+k=n.Nodes.length→l.length≤61→(∀ x∈l,x.length≤14) →
 M_ba m s a n.Nodes n.Fibers l p q=some (n.Nodes,n.Fibers,putsR l (dfsD n s k a p q),p,q)
 | 0, m + 1, _, a, p, q, l, h, hk, hl, hx => by
   show M_by _ s a n.Nodes n.Fibers l p q=_
   exact spec_body hn (D:=fun _ _ _=>[]) (L:=q.length) (fun a' p' q' l' h' hq' _ _=>by have:=h'.le; omega) (fun _ _ _ _ _ _ hr=>by cases hr) h rfl l hl hx
 | k + 1, m + 1, hm, a, p, q, l, h, hk, hl, hx => by
   show M_by _ s a n.Nodes n.Fibers l p q=_
   exact spec_body hn (D:=dfsD n s k) (L:=q.length) (fun a' p' q' l' h' hq' hl' hx'=>p_extend hn k m (by omega) l' h' (by omega) hl' hx') (fun a' p' q' h' hq'=>dfsD_ok hn k h' (by omega)) h rfl l hl hx
def ringsD (n:TNetwork):List (List Int):=(List.range n.Nodes.length).flatMap fun v:Nat=>dfsD n (v:Int) (n.Nodes.length - 1) (v:Int) [] [(v:Int)]
theorem ringsD_ok {n:TNetwork} (hn:netOk n=true):∀ r∈ringsD n,OkD n r:=by
 intro r hr
 unfold ringsD at hr
 rw [List.mem_flatMap] at hr
 obtain ⟨v,hv,hr⟩:=hr
 rw [List.mem_range] at hv
 exact dfsD_ok hn _ (InvD.init hv) (by simp; omega) r hr
theorem p_l17All (n:TNetwork) (hn:netOk n=true):M_bz n.Nodes n.Fibers=some (putsR [] (ringsD n)):=by
 unfold M_bz
 have hN:=netOk_bR hn
 obtain ⟨b,hb,hQ⟩:=iter_inv (f:=M_al n.Nodes) (fun t=>∃ i:Nat,t=((i:Int),n.Nodes,n.Fibers,putsR [] ((List.range i).flatMap fun v:Nat=>dfsD n (v:Int) (n.Nodes.length - 1) (v:Int) [] [(v:Int)]))∧i≤n.Nodes.length) (fun t=>n.Nodes.length - t.1.toNat)
  (fun b=>b=(n.Nodes,n.Fibers,putsR [] (ringsD n)))
  (fun t ⟨i,e,hi⟩=>by
   subst e
   obtain ⟨l,hl⟩:∃ l,l=putsR [] ((List.range i).flatMap fun v:Nat=>dfsD n (v:Int) (n.Nodes.length - 1) (v:Int) [] [(v:Int)]):=⟨_,rfl⟩
   have hll:l.length≤61:=by rw [hl]; exact putsR_len _ _ (by simp)
   have hlx:∀ x∈l,x.length≤14:=by
    intro x hx
    rw [hl] at hx
    rcases putsR_mem _ _ _ hx with hx | hx
    · cases hx
    · obtain ⟨R,hR⟩:=flat_split (fun v:Nat=>dfsD n (v:Int) (n.Nodes.length - 1) (v:Int) [] [(v:Int)]) hi
      have:=(ringsD_ok hn x (by unfold ringsD; rw [hR]; exact List.mem_append_left _ hx)).2
      omega
   rw [← hl]
   unfold M_al
   by_cases hi2:i < n.Nodes.length
   · have e1:decide ((i:Int) < (n.Nodes.length:Int))=true:=by simp [hi2]
     left
     simp only [e1,cond_true,bnd]
     rw [p_extend hn (n.Nodes.length - 1) N0 (N0_lt (by omega)) l (InvD.init hi2) (by simp; omega) hll hlx,Option.bind_some]
     refine ⟨_,rfl,⟨i+1,?_,by omega⟩,?_⟩
     · rw [w64_eq (by omega) (by omega),flat_succ,putsR_app,hl]; rfl
     · simp only [Int.toNat_natCast]
       rw [w64_eq (by omega) (by omega)]; omega
   · have e1:decide ((i:Int) < (n.Nodes.length:Int))=false:=by simp; omega
     right
     simp only [e1,cond_false]
     refine ⟨_,rfl,?_⟩
     have:i=n.Nodes.length:=by omega
     rw [hl,this]; rfl) N0 (0,n.Nodes,n.Fibers,[]) ⟨0,rfl,by omega⟩ (N0_lt (by simp; omega))
 rw [hb,hQ]; rfl
end Vs

namespace Vs
open Go
theorem bits64T:IntKind.bits .i64=64:=rfl
theorem ofNat64T (a:Nat):BitVec.ofInt 64 (a:Int)=BitVec.ofNat 64 a:=by
 apply BitVec.eq_of_toNat_eq
 simp [BitVec.toNat_ofInt]
theorem borT (a b:Nat) (ha:a < 2 ^ 62) (hb:b < 2 ^ 62):bits .or .i64 (a:Int) (b:Int)=((a ||| b:Nat):Int):=by
 have hab:a ||| b < 2 ^ 62:=Nat.or_lt_two_pow ha hb
 show IntKind.wrap .i64 ((BitVec.ofInt 64 (a:Int) ||| BitVec.ofInt 64 (b:Int)).toNat:Int)=_
 rw [ofNat64T,ofNat64T,BitVec.toNat_or,BitVec.toNat_ofNat,BitVec.toNat_ofNat,Nat.mod_eq_of_lt (by omega),Nat.mod_eq_of_lt (by omega),w64_eq (by omega) (by omega)]
theorem tbitV (m i:Nat) (hi:i < 64) (hm:m < 2 ^ 62):bits .and .i64 (Int.fdiv (m:Int) (2 ^ (min i (IntKind.bits .i64)))) 1=if m.testBit i then 1 else 0:=by
 have e1:min i (IntKind.bits .i64)=i:=by rw [bits64T]; omega
 have e2:Int.fdiv (m:Int) (2 ^ i)=((m / 2 ^ i:Nat):Int):=by
  rw [Int.fdiv_eq_ediv_of_nonneg _ (by exact_mod_cast Nat.zero_le (2 ^ i))]
  simp
 have hlt:m / 2 ^ i < 2 ^ 62:=Nat.lt_of_le_of_lt (Nat.div_le_self ..) hm
 rw [e1,e2]
 have e3:bits .and .i64 ((m / 2 ^ i:Nat):Int) 1=((m / 2 ^ i % 2:Nat):Int):=by
  show IntKind.wrap .i64 ((BitVec.ofInt 64 ((m / 2 ^ i:Nat):Int) &&& BitVec.ofInt 64 ((1:Nat):Int)).toNat:Int)=_
  rw [ofNat64T,ofNat64T,BitVec.toNat_and,BitVec.toNat_ofNat,BitVec.toNat_ofNat,Nat.mod_eq_of_lt (by omega),Nat.mod_eq_of_lt (by omega),Nat.and_one_is_mod,w64_eq (by omega) (by omega)]
 rw [e3,Nat.testBit_eq_decide_div_mod_eq]
 have:=Nat.mod_two_eq_zero_or_one (m / 2 ^ i)
 rcases this with h | h <;> rw [h] <;> simp
theorem tbit0 (m i:Nat) (hi:i < 64) (hm:m < 2 ^ 62):(bits .and .i64 (Int.fdiv (m:Int) (2 ^ (min i (IntKind.bits .i64)))) 1==0)=!m.testBit i:=by
 rw [tbitV m i hi hm]
 cases m.testBit i <;> rfl
theorem shl1T (x:Nat) (hx:x < 62):IntKind.wrap .i64 (1 * 2 ^ (min x (IntKind.bits .i64)))=((2 ^ x:Nat):Int):=by
 have e1:min x (IntKind.bits .i64)=x:=by rw [bits64T]; omega
 have h:2 ^ x < 2 ^ 62:=Nat.pow_lt_pow_right (by omega) hx
 have e2:((1:Int) * 2 ^ x)=((2 ^ x:Nat):Int):=by simp
 have key:∀ q:Nat,q < 2 ^ 62→IntKind.wrap .i64 (q:Int)=(q:Int):=fun q hq=>w64_eq (by omega) (by omega)
 rw [e1,e2,key _ h]
end Vs

namespace Vs
open Go
def BitS (m:Nat) (q:List Int):Prop:=m < 2 ^ 62∧∀ i:Nat,m.testBit i=decide ((i:Int)∈q)
def RcI (n:TNetwork) (s:Int) (D:Int→List Int→List Int→List (List Int)) (L B:Nat) (rc:Int→Int→Int→List Int→TNetwork→List (List Int)→Option (TNetwork×List (List Int))):Prop :=
 ∀ a p q (m:Nat) l,InvD n s a p q→q.length=L+1→BitS m q→l.length≤B→rc s a (m:Int) p n l=some (n,l++D a p q)
theorem p_oth (n:TNetwork) {i:Nat} (hi:i < n.Fibers.length) (a:Int):((geti n.Fibers (i:Int)).bind fun y=>M_as y a)=some (othI n (i:Int) a):=by
 rw [geti_nat,List.getElem?_eq_getElem hi,Option.bind_some,p_otherEnd]
 unfold othI
 rw [Int.toNat_natCast,List.getElem?_eq_getElem hi]
theorem impl_body {n:TNetwork} (hn:netOk n=true) {s:Int} {D:Int→List Int→List Int→List (List Int)} {L B:Nat} (hB:B≤1000000000000)
 {rc:Int→Int→Int→List Int→TNetwork→List (List Int)→Option (TNetwork×List (List Int))}
 (hrc:RcI n s D L B rc) {c:Nat} (hc:1≤c) (hD:∀ a p q,(D a p q).length≤c) {a:Int} {p q:List Int} (h:InvD n s a p q) (hq:q.length=L) {m:Nat} (hm:BitS m q) (l0:List (List Int)) (hl0:l0.length+14 * c≤B) :
 M_ca rc s a (m:Int) p n l0=some (n,l0++bodyD n s D a p q):=by
 unfold M_ca
 have hN:=netOk_bR hn
 have hF:=hN.2.2
 have hpl:=ring_len hn h
 obtain ⟨b,hb,hQ⟩:=iter_inv (f:=M_a s a (m:Int) p n rc) (fun t=>∃ i:Nat,t=((i:Int),n,l0++(List.range i).flatMap (stepD n s D a p q))∧i≤n.Fibers.length) (fun t=>n.Fibers.length - t.1.toNat)
  (fun b=>b=(n,l0++bodyD n s D a p q))
  (fun t ⟨i,e,hi⟩=>by
   subst e
   obtain ⟨l,hl⟩:∃ l,l=l0++(List.range i).flatMap (stepD n s D a p q):=⟨_,rfl⟩
   have hll:l.length≤B:=by
    rw [hl,List.length_append]
    have:=flat_len (stepD n s D a p q) c i fun j _=>stepD_len hc hD a p q j
    have h2:i * c≤14 * c:=Nat.mul_le_mul_right _ (by omega)
    omega
   have hnext:l++stepD n s D a p q i=l0++(List.range (i+1)).flatMap (stepD n s D a p q):=by rw [flat_succ,hl,List.append_assoc]
   rw [← hl]
   unfold M_a
   by_cases hi2:i < n.Fibers.length
   · have e1:decide ((i:Int) < (n.Fibers.length:Int))=true:=by simp [hi2]
     have hg:geti n.Fibers (i:Int)=some n.Fibers[i]:=by rw [geti_nat,List.getElem?_eq_getElem hi2]
     have e3:M_as n.Fibers[i] a=some (othI n (i:Int) a):=by
      have:=p_oth n hi2 a
      rwa [hg,Option.bind_some] at this
     have e4:M_aq p (i:Int)=some (decide ((i:Int)∈p)):=p_ContI _ _ (by omega)
     have w1:IntKind.wrap .i64 ((i:Int)+1)=((i+1:Nat):Int):=by rw [w64_eq (by omega) (by omega)]; rfl
     have fin:∀ l',l'=l++stepD n s D a p q i→(∃ i':Nat,(((i+1:Nat):Int),n,l')=((i':Int),n,l0++(List.range i').flatMap (stepD n s D a p q))∧i'≤n.Fibers.length) :=
      fun l' e=>⟨i+1,by rw [e,hnext],by omega⟩
     have fin2:∀ l':List (List Int),(n.Fibers.length - ((((i+1:Nat):Int),n,l'):Int×TNetwork×List (List Int)).1.toNat < n.Fibers.length - (((i:Int),n,l):Int×TNetwork×List (List Int)).1.toNat):=fun l'=>by simp only [Int.toNat_natCast]; omega
     left
     simp only [e1,cond_true,hg,Option.bind_some,e3,e4,w1]
     by_cases c1:othI n (i:Int) a < s
     · simp only [c1,decide_true,cond_true,Option.bind_some]
       have:l=l++stepD n s D a p q i:=by unfold stepD; rw [if_pos (.inl c1),List.append_nil]
       exact ⟨_,rfl,fin l this,fin2 l⟩
     · simp only [c1,decide_false,cond_false,Option.bind_some]
       by_cases c2:(i:Int)∈p
       · simp only [c2,decide_true,cond_true]
         have:l=l++stepD n s D a p q i:=by unfold stepD; rw [if_pos (.inr c2),List.append_nil]
         exact ⟨_,rfl,fin l this,fin2 l⟩
       · simp only [c2,decide_false,cond_false,bnd]
         rw [grd_t (by omega),Option.bind_some]
         have hne:¬ (othI n (i:Int) a < s∨(i:Int)∈p):=fun e=>e.elim c1 c2
         have hs:=h.s0
         obtain ⟨ho,_⟩:=oth_rng hn hi2 (a:=a) (by omega)
         by_cases c3:othI n (i:Int) a=s
         · have e6:(othI n (i:Int) a==s)=true:=by rw [c3]; simp
           simp only [e6,cond_true]
           obtain ⟨w,hw,_⟩:=p_around n (p++[(i:Int)]) (by omega) (by simp; omega)
           rw [hw,Option.bind_some]
           rw [h.close hi2 c2 c3]
           by_cases c4:2≤(p++[(i:Int)]).length∧lexB (p++[(i:Int)]) (p++[(i:Int)]).reverse=true
           · rw [if_pos c4]
             simp only [Option.isSome_some,cond_true]
             rw [grd_t (by omega),Option.bind_some]
             have:l++[p++[(i:Int)]]=l++stepD n s D a p q i:=by
              unfold stepD; rw [if_neg hne,if_pos c3,if_pos c4]
             exact ⟨_,rfl,fin _ this,fin2 _⟩
           · rw [if_neg c4]
             simp only [Option.isSome_none,cond_false]
             have:l=l++stepD n s D a p q i:=by
              unfold stepD; rw [if_neg hne,if_pos c3,if_neg c4,List.append_nil]
             exact ⟨_,rfl,fin _ this,fin2 _⟩
         · have e6:(othI n (i:Int) a==s)=false:=by simp [c3]
           obtain ⟨x,hx⟩:∃ x:Nat,othI n (i:Int) a=(x:Int):=⟨(othI n (i:Int) a).toNat,by omega⟩
           have hx8:x < 8:=by omega
           simp only [e6,cond_false]
           rw [grd_t (by omega),Option.bind_some]
           rw [hx,Int.toNat_natCast,tbit0 m x (by omega) hm.1,hm.2 x,← hx]
           by_cases c4:othI n (i:Int) a∈q
           · simp only [c4,decide_true,Bool.not_true,cond_false]
             have:l=l++stepD n s D a p q i:=by
              unfold stepD; rw [if_neg hne,if_neg c3,if_pos c4,List.append_nil]
             exact ⟨_,rfl,fin _ this,fin2 _⟩
           · simp only [c4,decide_false,Bool.not_false,cond_true]
             rw [Option.bind_some,shl1T x (by omega),borT m _ hm.1 (Nat.pow_lt_pow_right (by omega) (by omega))]
             have hb':BitS (m ||| 2 ^ x) (q++[othI n (i:Int) a]):=by
              refine ⟨Nat.or_lt_two_pow hm.1 (Nat.pow_lt_pow_right (by omega) (by omega)),fun j=>?_⟩
              rw [Nat.testBit_or,Nat.testBit_two_pow,hm.2 j]
              by_cases hj:x=j
              · subst hj; simp [hx]
              · have:¬ ((j:Int)=othI n (i:Int) a):=by omega
                simp [hj,this]
             rw [hrc _ _ _ _ l (h.ext hn hi2 c2 c1 c3 c4) (by simp [hq]) hb' hll,Option.bind_some]
             have:l++D (othI n (i:Int) a) (p++[(i:Int)]) (q++[othI n (i:Int) a])=l++stepD n s D a p q i:=by
              unfold stepD; rw [if_neg hne,if_neg c3,if_neg c4]
             exact ⟨_,rfl,fin _ this,fin2 _⟩
   · have e1:decide ((i:Int) < (n.Fibers.length:Int))=false:=by simp; omega
     right
     simp only [e1,cond_false]
     refine ⟨_,rfl,?_⟩
     have:i=n.Fibers.length:=by omega
     rw [hl,this]; rfl) N0 (0,n,l0) ⟨0,by simp,by omega⟩ (N0_lt (by simp; omega))
 rw [hb,hQ]; rfl
theorem p_ext {n:TNetwork} (hn:netOk n=true) {s:Int}:∀ (k f:Nat),k < f→∀ {a:Int} {p q:List Int} {m:Nat} (l:List (List Int)),InvD n s a p q→q.length+k=n.Nodes.length→BitS m q→l.length+2 * 14 ^ (k+1)≤1000000000000 →
 M_bb f s a (m:Int) p n l=some (n,l++dfsD n s k a p q)
 | 0, f + 1, _, a, p, q, m, l, h, hk, hm, hl => by
   show M_ca _ s a (m:Int) p n l=_
   exact impl_body hn (D:=fun _ _ _=>[]) (L:=q.length) (B:=l.length+14 * 1) (by omega) (fun a' p' q' m' l' h' hq' _ _=>by have:=h'.le; omega) (Nat.le_refl 1) (fun _ _ _=>by simp) h rfl hm l (Nat.le_refl _)
 | k + 1, f + 1, hf, a, p, q, m, l, h, hk, hm, hl => by
   show M_ca _ s a (m:Int) p n l=_
   have h1:1≤14 ^ (k+1):=Nat.pow_pos (by omega)
   rw [Nat.pow_succ 14 (k+1)] at hl
   exact impl_body hn (D:=dfsD n s k) (L:=q.length) (B:=l.length+14 * 14 ^ (k+1)) (by omega) (fun a' p' q' m' l' h' hq' hm' hl'=>p_ext hn k f (by omega) l' h' (by omega) hm' (by omega)) h1 (dfsD_len (netOk_bR hn).2.2 k) h rfl hm l (Nat.le_refl _)
theorem bitS_one (v:Nat) (hv:v < 62):BitS (2 ^ v) [(v:Int)]:=by
 refine ⟨Nat.pow_lt_pow_right (by omega) hv,fun i=>?_⟩
 rw [Nat.testBit_two_pow]
 by_cases h:v=i
 · simp [h]
 · have:¬ ((i:Int)=v):=by omega
   simp [h,this]
theorem p_rings1 (n:TNetwork) (hn:netOk n=true):iter (M_q n) N0 (0,n,[])=some (ringsD n):=by
 have hN:=netOk_bR hn
 have hE:∀ k,k < n.Nodes.length→14 ^ (k+1)≤14 ^ 8:=fun k hk=>Nat.pow_le_pow_right (by omega) (by omega)
 obtain ⟨C,h8,hC⟩:∃ C:Nat,14 ^ 8≤C∧C≤2000000000:=⟨14 ^ 8,Nat.le_refl _,by simp⟩
 obtain ⟨b,hb,hQ⟩:=iter_inv (f:=M_q n) (fun t=>∃ i:Nat,t=((i:Int),n,(List.range i).flatMap fun v:Nat=>dfsD n (v:Int) (n.Nodes.length - 1) (v:Int) [] [(v:Int)])∧i≤n.Nodes.length) (fun t=>n.Nodes.length - t.1.toNat)
  (fun b=>b=ringsD n)
  (fun t ⟨i,e,hi⟩=>by
   subst e
   unfold M_q
   by_cases hi2:i < n.Nodes.length
   · have e1:decide ((i:Int) < (n.Nodes.length:Int))=true:=by simp [hi2]
     left
     simp only [e1,cond_true]
     have hlen:((List.range i).flatMap fun v:Nat=>dfsD n (v:Int) (n.Nodes.length - 1) (v:Int) [] [(v:Int)]).length≤16000000000:=by
      have h3:∀ v:Nat,(dfsD n (v:Int) (n.Nodes.length - 1) (v:Int) [] [(v:Int)]).length≤C:=fun v=>by
       have:=dfsD_len (n:=n) (s:=(v:Int)) hN.2.2 (n.Nodes.length - 1) (v:Int) [] [(v:Int)]
       have:=hE (n.Nodes.length - 1) (by omega)
       omega
      have:=flat_len (fun v:Nat=>dfsD n (v:Int) (n.Nodes.length - 1) (v:Int) [] [(v:Int)]) C i fun j _=>h3 j
      have h5:i * C≤8 * C:=Nat.mul_le_mul_right _ (by omega)
      omega
     have hp:=p_ext hn (s:=(i:Int)) (n.Nodes.length - 1) (N0+1) (by have:=N0_lt (n:=n.Nodes.length) (by omega); omega) (m:=2 ^ i) ((List.range i).flatMap fun v:Nat=>dfsD n (v:Int) (n.Nodes.length - 1) (v:Int) [] [(v:Int)]) (InvD.init hi2) (by simp; omega) (bitS_one i (by omega)) (by
      have:=hE (n.Nodes.length - 1) (by omega)
      omega)
     have hs:M_cy (i:Int) (i:Int) ((2 ^ i:Nat):Int) [] n ((List.range i).flatMap fun v:Nat=>dfsD n (v:Int) (n.Nodes.length - 1) (v:Int) [] [(v:Int)])=_:=hp
     rw [grd_t (by omega),Option.bind_some,Int.toNat_natCast,shl1T i (by omega),hs,Option.bind_some]
     refine ⟨_,rfl,⟨i+1,?_,by omega⟩,?_⟩
     · rw [w64_eq (by omega) (by omega),flat_succ]; rfl
     · simp only [Int.toNat_natCast]
       rw [w64_eq (by omega) (by omega)]; omega
   · have e1:decide ((i:Int) < (n.Nodes.length:Int))=false:=by simp; omega
     right
     simp only [e1,cond_false]
     refine ⟨_,rfl,?_⟩
     have:i=n.Nodes.length:=by omega
     rw [this]; rfl) N0 (0,n,[]) ⟨0,rfl,by omega⟩ (N0_lt (by simp; omega))
 rw [hb,hQ]
theorem ringsD_len {n:TNetwork} (hn:netOk n=true):(ringsD n).length≤16000000000:=by
 have hN:=netOk_bR hn
 obtain ⟨C,h8,hC⟩:∃ C:Nat,14 ^ 8≤C∧C≤2000000000:=⟨14 ^ 8,Nat.le_refl _,by simp⟩
 have h3:∀ v:Nat,(dfsD n (v:Int) (n.Nodes.length - 1) (v:Int) [] [(v:Int)]).length≤C:=fun v=>by
  have:=dfsD_len (n:=n) (s:=(v:Int)) hN.2.2 (n.Nodes.length - 1) (v:Int) [] [(v:Int)]
  have:14 ^ (n.Nodes.length - 1+1)≤14 ^ 8:=Nat.pow_le_pow_right (by omega) (by omega)
  omega
 have:=flat_len (fun v:Nat=>dfsD n (v:Int) (n.Nodes.length - 1) (v:Int) [] [(v:Int)]) C n.Nodes.length fun j _=>h3 j
 have h5:n.Nodes.length * C≤8 * C:=Nat.mul_le_mul_right _ hN.2.1
 unfold ringsD
 omega
theorem p_CompareT (a b:List Int) (hl:a.length≤1048576):∃ r,M_ax a b=some r:=by
 unfold M_ax
 obtain ⟨x,hx,_⟩:=iter_inv (f:=M_g a b) (fun t=>∃ i:Nat,t=(i:Int)∧i≤a.length) (fun t=>a.length - t.toNat) (fun _=>True)
  (fun t ⟨i,e,hi⟩=>by
   subst e
   unfold M_g
   by_cases h1:i < a.length
   · have e1:decide ((i:Int) < (a.length:Int))=true:=by simp [h1]
     rw [e1,cond_true,geti_nat,List.getElem?_eq_getElem h1,Option.bind_some]
     by_cases h2:b.length≤i
     · have e2:decide ((b.length:Int)≤(i:Int))=true:=by simp [h2]
       right
       rw [e2]
       exact ⟨_,rfl,trivial⟩
     · have e2:decide ((b.length:Int)≤(i:Int))=false:=by simp; omega
       rw [e2,cond_false,geti_nat,List.getElem?_eq_getElem (by omega:i < b.length),Option.bind_some,p_cmp,Option.bind_some]
       cases (cmpI a[i] (b[i]'(by omega)) != 0) with
       | true=>right; exact ⟨_,rfl,trivial⟩
       | false =>
         left
         refine ⟨_,rfl,⟨i+1,by rw [w64_eq (by omega) (by omega)]; rfl,by omega⟩,?_⟩
         rw [w64_eq (by omega) (by omega)]
         simp only [Int.toNat_natCast]; omega
   · have e1:decide ((i:Int) < (a.length:Int))=false:=by simp; omega
     right
     rw [e1]
     exact ⟨_,rfl,trivial⟩) N0 0 ⟨0,rfl,by omega⟩ (N0_lt (by simp; omega))
 rw [hx,Option.bind_some]
 cases x with
 | inr v=>exact ⟨v,rfl⟩
 | inl u =>
   cases decide ((a.length:Int) < (b.length:Int)) with
   | true=>exact ⟨_,rfl⟩
   | false=>exact ⟨_,rfl⟩
theorem p_Or2 (x y:Int):M_bc [x,y]=some (if x=0 then y else x):=by
 unfold M_bc
 have key:=iter_findI (f:=M_d [x,y]) [x,y] (fun _ x=>x != 0) (fun _ x=>x) () (fun i z hz _=>by
  have hlt:=(List.getElem?_eq_some_iff.1 hz).1
  have h1:decide ((i:Int) < (([x,y]:List Int).length:Int))=true:=by simp only [decide_eq_true_eq]; omega
  simp only [M_d,h1,cond_true,geti_nat,hz,Option.bind_some]
  rw [w64_eq (by omega) (by simp at hlt; omega)]
  cases z != 0 <;> rfl) (by simp [M_d]) (by simp)
 rw [key]
 by_cases h1:x=0
 · by_cases h2:y=0
   · subst h1; subst h2; rfl
   · have:(y != 0)=true:=bne_iff_ne.2 h2
     simp [findI,h1,this]
 · have:(x != 0)=true:=bne_iff_ne.2 h1
   simp [findI,h1,this]
theorem p_c2 (a b:List Int) (ha:a.length≤1048576) (hb:b.length≤1048576):∃ r,M_ay a b=some r∧decide (r < 0)=lessB a b:=by
 unfold M_ay
 obtain ⟨r,hr⟩:=p_CompareT a b ha
 simp only [p_cmp,Option.bind_some,hr,bnd,p_Or2]
 refine ⟨_,rfl,?_⟩
 unfold lessB
 by_cases h:a.length=b.length
 · rw [if_pos h]
   obtain ⟨r',h1,h2⟩:=p_CompareI a b h ha
   rw [hr] at h1
   cases h1
   rw [if_pos (by rw [h]; unfold cmpI; simp),h2]
 · rw [if_neg h]
   unfold cmpI
   by_cases h2:a.length < b.length
   · have e1:(a.length:Int) < (b.length:Int):=by omega
     simp [e1,h2]
   · have e1:¬ (a.length:Int) < (b.length:Int):=by omega
     have e2:(b.length:Int) < (a.length:Int):=by omega
     simp [e1,e2,h2]
def cfR (a b:List Int):Int:=(M_ay a b).getD 0
theorem p_rings (n:TNetwork) (hn:netOk n=true):∃ ys,M_cb n=some ys∧ys.Perm (ringsD n)∧ys.Pairwise (fun a b=>lessB b a=false):=by
 unfold M_cb
 rw [p_rings1 n hn,Option.bind_some]
 have hlen:=ringsD_len hn
 have hk:∀ x∈ringsD n,∀ y∈ringsD n,M_ay x y=some (cfR x y)∧(cfR x y < 0↔lessB x y=true):=by
  intro x hx y hy
  have h1:=(ringsD_ok hn x hx).2
  have h2:=(ringsD_ok hn y hy).2
  obtain ⟨r,h3,h4⟩:=p_c2 x y (by omega) (by omega)
  unfold cfR
  rw [h3]
  exact ⟨rfl,by rw [← h4]; simp⟩
 obtain ⟨ys,h1,h2,h3⟩:=sortX_spec (cmp:=fun x0 x1=>M_ay x0 x1) (xs:=ringsD n) cfR (by omega) (fun x hx y hy=>(hk x hx y hy).1)
  (fun x hx=>by rw [(hk x hx x hx).2,lessB_irr]; simp)
  (fun x hx y hy z hz a b=>(hk x hx z hz).2.2 (lessB_trans ((hk x hx y hy).2.1 a) ((hk y hy z hz).2.1 b)))
  (fun x hx y hy z hz a b=>by
   rw [(hk x hx y hy).2,Bool.not_eq_true] at a
   rw [(hk y hy z hz).2,Bool.not_eq_true] at b
   rw [(hk x hx z hz).2,Bool.not_eq_true]
   exact lessB_ntrans a b)
 rw [h1]
 refine ⟨ys,rfl,h2,?_⟩
 refine List.Pairwise.imp_of_mem ?_ h3
 intro a b ha hb hab
 rw [(hk b (h2.mem_iff.1 hb) a (h2.mem_iff.1 ha)).2,Bool.not_eq_true] at hab
 exact hab
def arP (n:TNetwork):List (List Int)×Bool:=if netOk n then (if (ringsD n).length≤60 then (putsR [] (ringsD n),true) else ([],false)) else ([],false)
theorem puts_le {n:TNetwork}:(putsR [] (ringsD n)).Pairwise (fun a b=>lessB b a=false)∧(if (ringsD n).length≤61 then (putsR [] (ringsD n)).Perm (ringsD n) else (putsR [] (ringsD n)).length=61):=by
 have:=putsR_spec (ringsD n) [] List.Pairwise.nil (by simp)
 simpa using this
theorem p_impl_AllRings (n:TNetwork) (hz:z_Network n≤1048576):M_bf n=some (arP n):=by
 unfold M_bf arP
 rw [p_IsValidNetwork n hz,Option.bind_some]
 cases hn:netOk n with
 | false=>rfl
 | true =>
   obtain ⟨ys,h1,h2,h3⟩:=p_rings n hn
   simp only [Bool.not_true,cond_false,h1,Option.bind_some,if_true]
   have hl:=h2.length_eq
   obtain ⟨q1,q2⟩:=puts_le (n:=n)
   by_cases h6:(ringsD n).length≤60
   · have e:decide (60 < (ys.length:Int))=false:=by simp; omega
     rw [if_pos (by omega)] at q2
     rw [e,cond_false,if_pos h6,srt_eq ys _ (h2.trans q2.symm) h3 q1]
   · have e:decide (60 < (ys.length:Int))=true:=by simp; omega
     rw [e,cond_true,if_neg h6]
theorem p_spec_AllRings (n:TNetwork) (hz:z_Network n≤1048576):M_cc n.Nodes n.Fibers=some ((arP n).2,(arP n).1):=by
 unfold M_cc arP
 rw [p_l2Good n hz,Option.bind_some]
 cases hn:netOk n with
 | false=>rfl
 | true =>
   simp only [Bool.not_true,cond_false,p_l17All n hn,Option.bind_some,if_true]
   obtain ⟨q1,q2⟩:=puts_le (n:=n)
   by_cases h6:(ringsD n).length≤60
   · rw [if_pos (by omega)] at q2
     have:=q2.length_eq
     have e:decide (60 < ((putsR [] (ringsD n)).length:Int))=false:=by simp; omega
     rw [e,cond_false,if_pos h6]
   · have:60 < (putsR [] (ringsD n)).length:=by
      split at q2
      · have:=q2.length_eq; omega
      · omega
     have e:decide (60 < ((putsR [] (ringsD n)).length:Int))=true:=by simp; omega
     rw [e,cond_true,if_neg h6]
theorem arP_ok {n:TNetwork} (h:(arP n).2=true):netOk n=true∧(arP n).1.length≤60∧∀ r∈(arP n).1,OkD n r:=by
 unfold arP at h ⊢
 cases hn:netOk n with
 | false=>rw [hn] at h; cases h
 | true =>
   rw [hn] at h
   simp only [if_true] at h ⊢
   by_cases h6:(ringsD n).length≤60
   · rw [if_pos h6]
     obtain ⟨q1,q2⟩:=puts_le (n:=n)
     rw [if_pos (by omega)] at q2
     exact ⟨trivial,by have:=q2.length_eq; simp only; omega,fun r hr=>ringsD_ok hn r (q2.mem_iff.1 hr)⟩
   · rw [if_neg h6] at h; cases h
theorem sum_leA {α:Type} (f:α→Nat) (c:Nat):∀ (l:List α),(∀ x∈l,f x≤c)→(l.map f).sum≤l.length * c
 | [],_=>by simp
 | x :: l, h => by
   have:=sum_leA f c l fun y hy=>h y (List.mem_cons_of_mem _ hy)
   have:=h x List.mem_cons_self
   simp only [List.map_cons,List.sum_cons,List.length_cons,Nat.succ_mul]
   omega
theorem zr_AllRings (n:TNetwork) (hz:z_Network n≤1048576):z_IntSS (arP n).1≤1048576:=by
 cases h:(arP n).2 with
 | false =>
   have:(arP n).1=[]:=by
    unfold arP at h ⊢
    split at h
    · split at h
      · cases h
      · rename_i h1 h2; rw [if_pos h1,if_neg h2]
    · rename_i h1; rw [if_neg h1]
   rw [this]; simp [z_IntSS]
 | true =>
   obtain ⟨hn,h6,hok⟩:=arP_ok h
   unfold z_IntSS
   have:=sum_leA (fun x=>z_IntS x) 8 _ fun r hr=>(hok r hr).2
   omega
end Vs

namespace Vs
open Go
theorem subT_len {α:Type} {xs:List α} {n:Nat} (h:xs.length=n):subT xs 0 n=xs:=by subst h; exact subT_all xs
theorem p_FnExactAllRings (x1:TNetwork) (o1:ok_Network x1):M_cx x1=some true:=by
 unfold M_cx
 rw [p_szNetwork x1 _ (by omega) (by omega) o1]
 simp only [Option.bind_some]
 by_cases hc1:(1048576:Int) - z_Network x1 < 0
 · simp [hc1]
 simp only [hc1,if_false,decide_false,cond_false]
 have z1:z_Network x1≤1048576:=by omega
 have zr:=zr_AllRings x1 z1
 have zr1:=zr
 have w1:=w_da x1
 have f1:=mkr_fst_Network 1 x1
 have m1:=p_markNetwork x1 1 (by omega) (by omega) z1
 have n1:decide ((mkr_Network 1 x1).1 < 0)=false:=decide_eq_false (by omega)
 have w2:=w_db (arP x1).1
 have f2:=markL_fst mk_IntSS w_at hw_IntSS (arP x1).1 1
 have m2:=p_markIntSS (arP x1).1 1 (by omega) (by omega) zr1
 have n2:decide ((markL mk_IntSS 1 (arP x1).1).1 < 0)=false:=decide_eq_false (by omega)
 have grZ23:=p_heldIntSS (arP x1).1 1 (by omega) (by omega) zr1
 have grZ32:=p_heldIntSS (arP x1).1 1 (by omega) (by omega) zr1
 simp only [p_spec_AllRings x1 z1,p_impl_AllRings x1 z1,p_toNetwork x1 z1,p_eqIntSS ((arP x1).1) zr1,p_eqNetwork x1 z1,m1,n1,m2,n2,subT_len (markL_len mk_IntSS (arP x1).1 1),grZ23,grZ32,subT_all,Option.bind_some,Bool.not_true,beq_self_eq_true,bnd,bne_self_eq_false,cond_false,cond_true]
end Vs

