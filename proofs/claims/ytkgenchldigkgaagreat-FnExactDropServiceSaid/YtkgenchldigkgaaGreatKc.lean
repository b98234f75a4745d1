/-
  Part of the proof that the law FnExactDropService returns true at every input; no condition beside the row's own.
-/
import Derived.Test.YtkgenchldigkgaaGreatXe
import Derived.Test.YtkgenchldigkgaaGreatKa
set_option linter.defProp false
set_option linter.unusedSimpArgs false
set_option linter.unusedVariables false
namespace Vs
open Go
theorem b2s_len:∀ (ns:List Int) (r:ByteArray),(ns.foldl (fun r n=>r.push (UInt8.ofNat n.toNat)) r).size=r.size+ns.length
 | [],r=>by simp
 | n :: ns, r => by
   simp only [List.foldl_cons,b2s_len ns,List.length_cons,ByteArray.size_push]; omega
theorem b2s_size (ns:List Int):(b2s ns).size=ns.length:=by
 unfold b2s; rw [b2s_len]; simp
def txt (k:Int):ByteArray:=(M_ci k).getD ⟨#[]⟩
theorem p_markText (k:Int) (h0:0≤k) (h1:k≤1000000000000):M_ci k=some (txt k):=by
 have:∃ r,M_ci k=some r:=by
  unfold M_ci
  by_cases h:k≤0
  · exact ⟨_,by rw [decide_eq_true h,cond_true]⟩
  · rw [decide_eq_false h,cond_false]
    obtain ⟨b,hb,hq⟩:=iter_inv (f:=M_ae) (fun s=>0≤s.1∧s.2.size≤13∧s.1 * 10 ^ s.2.size≤1000000000000) (fun s=>s.1.toNat) (fun b=>b.size≤13) (fun s hI=>by
     obtain ⟨a,z⟩:=s
     obtain ⟨i1,i2,i3⟩:=hI
     simp only at i1 i2 i3
     by_cases hp:0 < a
     · left
       have hz:z.size≤12:=by
        apply Decidable.byContradiction
        intro hc
        have e:z.size=13:=by omega
        rw [e] at i3
        omega
       have hd:10 * (a.tdiv 10)≤a:=by rw [Int.tdiv_eq_ediv_of_nonneg i1]; omega
       have hd2:a.tdiv 10 < a:=by rw [Int.tdiv_eq_ediv_of_nonneg i1]; omega
       have hd3:0≤a.tdiv 10:=by rw [Int.tdiv_eq_ediv_of_nonneg i1]; omega
       have hpow:(0:Int)≤10 ^ z.size:=Int.le_of_lt (Int.pow_pos (by omega))
       have ha:a≤1000000000000:=by
        have h1:(1:Int)≤10 ^ z.size:=Int.pow_pos (by omega)
        have:=Int.mul_le_mul_of_nonneg_left h1 i1
        omega
       refine ⟨(a.tdiv 10,b2s [IntKind.wrap .u8 (IntKind.wrap .i64 (48+(Int.tmod a 10)))]++z),?_,⟨hd3,?_,?_⟩,by simp only; omega⟩
       · simp only [M_ae,decide_eq_true hp,cond_true,bnd]
         rw [grd_t (by omega),grd_t (by rw [b2s_size]; simp; omega)]
         simp only [Option.bind_some]
         rw [w64_eq (n:=Int.tdiv a 10) (by omega) (by omega)]
       · simp only [ByteArray.size_append,b2s_size,List.length_cons,List.length_nil]; omega
       · simp only [ByteArray.size_append,b2s_size,List.length_cons,List.length_nil]
         rw [show 0+1+z.size=z.size+1 by omega,Int.pow_succ,Int.mul_comm (10 ^ z.size) 10,← Int.mul_assoc,Int.mul_comm (a.tdiv 10) 10]
         exact Int.le_trans (Int.mul_le_mul_of_nonneg_right hd hpow) i3
     · right
       exact ⟨z,by simp only [M_ae,decide_eq_false hp,cond_false],i2⟩) N0 (k,⟨#[]⟩) ⟨h0,by show (0:Nat)≤13; omega,by show k * 10 ^ 0≤1000000000000; simpa using h1⟩ (N0_lt (by simp; omega))
    rw [hb]
    simp only [Option.bind_some]
    rw [grd_t (by have:(⟨#[109]⟩:ByteArray).size=1:=rfl; omega)]
    exact ⟨_,rfl⟩
 obtain ⟨r,hr⟩:=this
 unfold txt; rw [hr]; rfl
def z_StringS (xs:(List ByteArray)):Nat:=xs.length+(xs.map fun x=>x.size).sum
def ok_StringS (xs:(List ByteArray)):Prop:=xs.length≤9223372036854775807∧∀ x∈xs,x.size≤9223372036854775807
theorem p_szStringS (xs:(List ByteArray)) (l:Int) (h1:0≤l) (h2:l≤1048576) (hs:ok_StringS xs):M_dp xs l=some (if l - z_StringS xs < 0 then (-1:Int) else l - z_StringS xs):=by
 unfold M_dp
 have hs1:=hs.1
 rw [w64_eq (by omega) (by omega)]
 simp only [cond_ite,decide_eq_true_eq]
 by_cases h:l - (xs.length:Int) < 0
 · rw [if_pos h,if_pos (by unfold z_StringS; omega)]
 · rw [if_neg h,sz_loop (f:=M_af xs) xs (fun x=>x.size) (fun i x l' hx h3 h4=>by
    have hlt:=(List.getElem?_eq_some_iff.1 hx).1
    have h1:decide ((i:Int) < xs.length)=true:=by simp [hlt]
    have hx2:=hs.2 x (List.mem_of_getElem? hx)
    simp only [M_af,h1,cond_true,geti_nat,hx,Option.bind_some,cond_ite,decide_eq_true_eq]
    rw [w64_eq (by omega) (by omega),w64_eq (by omega) (by omega)]
    by_cases h5:l' - (x.size:Int) < 0
    · simp only [if_pos h5,if_true]
    · simp only [if_neg h5,if_true]; rfl) (fun l=>by simp [M_af]) _ (by omega) (by omega) (by omega)]
   have e:l - (xs.length:Int) - ((xs.map fun x=>x.size).sum:Nat)=l - (z_StringS xs:Int):=by unfold z_StringS; omega
   rw [e]
   by_cases h5:l - (z_StringS xs:Int) < 0
   · simp only [if_pos h5,Option.bind_some]
   · simp only [if_neg h5,Option.bind_some]
theorem p_toStringS (xs:(List ByteArray)) (hl:z_StringS xs≤1048576):M_dq xs=some xs:=by
 unfold M_dq
 have hlen:xs.length≤1048576:=by unfold z_StringS at hl; omega
 have key:=fun l0 (h0:l0.length=xs.length)=>iter_copy (f:=M_ag xs) xs id l0 h0 (fun i l x y hx hy hll=>by
  have hlt:=(List.getElem?_eq_some_iff.1 hx).1
  have h1:decide ((i:Int) < xs.length)=true:=by simp [hlt]
  have h2:(0≤(i:Int)∧(i:Int) < (l.length:Int)):=by omega
  simp only [M_ag,h1,cond_true,geti_nat,hx,Option.bind_some,grd_t h2,Int.toNat_natCast,hy,bnd,id]
  rw [w64_eq (by omega) (by omega)]; rfl) (fun l=>by simp [M_ag]) (by omega)
 rw [grd_t (by omega)]
 simp only [Option.bind_some,bnd]
 rw [key _ (by simp)]; simp
theorem p_eqStringS (xs:(List ByteArray)) (hl:z_StringS xs≤1048576):M_dr xs xs=some true:=by
 unfold M_dr
 have hlen:xs.length≤1048576:=by unfold z_StringS at hl; omega
 rw [eq_loop (f:=M_ah xs xs) xs (fun i x hx=>by
  have hlt:=(List.getElem?_eq_some_iff.1 hx).1
  have h1:decide ((i:Int) < xs.length)=true:=by simp [hlt]
  simp only [M_ah,h1,cond_true,geti_nat,hx,Option.bind_some,beq_self_eq_true,Bool.not_true,cond_false]
  rw [w64_eq (by omega) (by omega)]; rfl) (by simp [M_ah]) (by omega)]
 simp
theorem p_toFiber (x:TFiber):M_cs x=some x:=by unfold M_cs; rfl
theorem p_eqFiber (x:TFiber):M_ct x x=some true:=by unfold M_ct; simp
def z_FiberS (xs:(List TFiber)):Nat:=xs.length
def ok_FiberS (xs:(List TFiber)):Prop:=xs.length≤9223372036854775807
theorem p_szFiberS (xs:(List TFiber)) (l:Int) (h1:0≤l) (h2:l≤1048576) (hs:ok_FiberS xs):M_ds xs l=some (if l - z_FiberS xs < 0 then (-1:Int) else l - z_FiberS xs):=by
 unfold M_ds
 unfold ok_FiberS at hs
 rw [w64_eq (by omega) (by omega)]
 simp only [cond_ite,decide_eq_true_eq]
 by_cases h:l - (xs.length:Int) < 0
 · rw [if_pos h,if_pos (show l - (z_FiberS xs:Int) < 0 from h)]
 · rw [if_neg h,if_neg (show ¬ l - (z_FiberS xs:Int) < 0 from h)]; rfl
theorem p_toFiberS (xs:(List TFiber)) (hl:z_FiberS xs≤1048576):M_dt xs=some xs:=by
 unfold M_dt
 have hlen:xs.length≤1048576:=by unfold z_FiberS at hl; omega
 have key:=fun l0 (h0:l0.length=xs.length)=>iter_copy (f:=M_ai xs) xs id l0 h0 (fun i l x y hx hy hll=>by
  have hlt:=(List.getElem?_eq_some_iff.1 hx).1
  have h1:decide ((i:Int) < xs.length)=true:=by simp [hlt]
  have h2:(0≤(i:Int)∧(i:Int) < (l.length:Int)):=by omega
  have hto:M_cs x=some x:=p_toFiber x
  simp only [M_ai,h1,cond_true,geti_nat,hx,Option.bind_some,grd_t h2,Int.toNat_natCast,hy,hto,bnd,id]
  rw [w64_eq (by omega) (by omega)]; rfl) (fun l=>by simp [M_ai]) (by omega)
 rw [grd_t (by omega)]
 simp only [Option.bind_some,bnd]
 rw [key _ (by simp)]; simp
theorem p_eqFiberS (xs:(List TFiber)) (hl:z_FiberS xs≤1048576):M_du xs xs=some true:=by
 unfold M_du
 have hlen:xs.length≤1048576:=by unfold z_FiberS at hl; omega
 rw [eq_loop (f:=M_aj xs xs) xs (fun i x hx=>by
  have hlt:=(List.getElem?_eq_some_iff.1 hx).1
  have h1:decide ((i:Int) < xs.length)=true:=by simp [hlt]
  have he:M_ct x x=some true:=p_eqFiber x
  simp only [M_aj,h1,cond_true,geti_nat,hx,Option.bind_some,he,Bool.not_true,cond_false]
  rw [w64_eq (by omega) (by omega)]; rfl) (by simp [M_aj]) (by omega)]
 simp
def z_Network (x:TNetwork):Nat:=z_StringS x.Nodes+z_FiberS x.Fibers
def ok_Network (x:TNetwork):Prop:=ok_StringS x.Nodes∧ok_FiberS x.Fibers
theorem p_szNetwork (x:TNetwork) (l:Int) (h1:0≤l) (h2:l≤1048576) (hs:ok_Network x):M_dv x l=some (if l - z_Network x < 0 then (-1:Int) else l - z_Network x):=by
 unfold M_dv
 obtain ⟨hs0,hs1⟩:=hs
 rw [p_szStringS _ _ (by omega) (by omega) hs0]
 simp only [Option.bind_some]
 by_cases h10:l - (z_StringS x.Nodes:Int) < 0
 · rw [if_pos h10,if_pos (show l - (z_Network x:Int) < 0 by unfold z_Network; omega)]; simp
 · simp only [if_neg h10]
   simp only [h10,decide_false,cond_false]
   rw [p_szFiberS _ _ (by omega) (by omega) hs1]
   simp only [Option.bind_some]
   by_cases h11:l - (z_StringS x.Nodes:Int) - (z_FiberS x.Fibers:Int) < 0
   · rw [if_pos h11,if_pos (show l - (z_Network x:Int) < 0 by unfold z_Network; omega)]; simp
   · simp only [if_neg h11]
     simp only [h11,decide_false,cond_false]
     have e:l - (z_StringS x.Nodes:Int) - (z_FiberS x.Fibers:Int)=l - (z_Network x:Int):=by unfold z_Network; omega
     rw [e,if_neg (by omega)]
theorem p_toNetwork (x:TNetwork) (hl:z_Network x≤1048576):M_bg x=some x:=by
 unfold M_bg
 simp only [p_toStringS x.Nodes (by unfold z_Network at hl; omega),p_toFiberS x.Fibers (by unfold z_Network at hl; omega),Option.bind_some]
theorem p_eqNetwork (x:TNetwork) (hl:z_Network x≤1048576):M_dw x x=some true:=by
 unfold M_dw
 simp [p_eqStringS x.Nodes (by unfold z_Network at hl; omega),p_eqFiberS x.Fibers (by unfold z_Network at hl; omega)]
def z_IntS (xs:(List Int)):Nat:=xs.length
def ok_IntS (xs:(List Int)):Prop:=xs.length≤9223372036854775807
theorem p_szIntS (xs:(List Int)) (l:Int) (h1:0≤l) (h2:l≤1048576) (hs:ok_IntS xs):M_dx xs l=some (if l - z_IntS xs < 0 then (-1:Int) else l - z_IntS xs):=by
 unfold M_dx
 unfold ok_IntS at hs
 rw [w64_eq (by omega) (by omega)]
 simp only [cond_ite,decide_eq_true_eq]
 by_cases h:l - (xs.length:Int) < 0
 · rw [if_pos h,if_pos (show l - (z_IntS xs:Int) < 0 from h)]
 · rw [if_neg h,if_neg (show ¬ l - (z_IntS xs:Int) < 0 from h)]; rfl
theorem p_toIntS (xs:(List Int)) (hl:z_IntS xs≤1048576):M_dy xs=some xs:=by
 unfold M_dy
 have hlen:xs.length≤1048576:=by unfold z_IntS at hl; omega
 have key:=fun l0 (h0:l0.length=xs.length)=>iter_copy (f:=M_ak xs) xs id l0 h0 (fun i l x y hx hy hll=>by
  have hlt:=(List.getElem?_eq_some_iff.1 hx).1
  have h1:decide ((i:Int) < xs.length)=true:=by simp [hlt]
  have h2:(0≤(i:Int)∧(i:Int) < (l.length:Int)):=by omega
  simp only [M_ak,h1,cond_true,geti_nat,hx,Option.bind_some,grd_t h2,Int.toNat_natCast,hy,bnd,id]
  rw [w64_eq (by omega) (by omega)]; rfl) (fun l=>by simp [M_ak]) (by omega)
 rw [grd_t (by omega)]
 simp only [Option.bind_some,bnd]
 rw [key _ (by simp)]; simp
theorem p_eqIntS (xs:(List Int)) (hl:z_IntS xs≤1048576):M_dz xs xs=some true:=by
 unfold M_dz
 have hlen:xs.length≤1048576:=by unfold z_IntS at hl; omega
 rw [eq_loop (f:=M_al xs xs) xs (fun i x hx=>by
  have hlt:=(List.getElem?_eq_some_iff.1 hx).1
  have h1:decide ((i:Int) < xs.length)=true:=by simp [hlt]
  simp only [M_al,h1,cond_true,geti_nat,hx,Option.bind_some,bne_self_eq_false,cond_false]
  rw [w64_eq (by omega) (by omega)]; rfl) (by simp [M_al]) (by omega)]
 simp
def z_Route (x:TRoute):Nat:=z_IntS x.Fibers
def ok_Route (x:TRoute):Prop:=ok_IntS x.Fibers
theorem p_szRoute (x:TRoute) (l:Int) (h1:0≤l) (h2:l≤1048576) (hs:ok_Route x):M_cj x l=some (if l - z_Route x < 0 then (-1:Int) else l - z_Route x):=by
 unfold M_cj
 have hs0:ok_IntS x.Fibers:=hs
 rw [p_szIntS _ _ (by omega) (by omega) hs0]
 simp only [Option.bind_some]
 by_cases h10:l - (z_IntS x.Fibers:Int) < 0
 · rw [if_pos h10,if_pos (show l - (z_Route x:Int) < 0 by unfold z_Route; omega)]; simp
 · simp only [if_neg h10]
   simp only [h10,decide_false,cond_false]
   have e:l - (z_IntS x.Fibers:Int)=l - (z_Route x:Int):=by unfold z_Route; omega
   rw [e,if_neg (by omega)]
theorem p_toRoute (x:TRoute) (hl:z_Route x≤1048576):M_ck x=some x:=by
 unfold M_ck
 simp only [p_toIntS x.Fibers (by unfold z_Route at hl; omega),Option.bind_some]
theorem p_eqRoute (x:TRoute) (hl:z_Route x≤1048576):M_cl x x=some true:=by
 unfold M_cl
 simp [p_eqIntS x.Fibers (by unfold z_Route at hl; omega)]
theorem p_toBlock (x:TBlock):M_cm x=some x:=by unfold M_cm; rfl
theorem p_eqBlock (x:TBlock):M_cn x x=some true:=by unfold M_cn; simp
def z_Service (x:TService):Nat:=z_Route x.Work+z_Route x.Spare
def ok_Service (x:TService):Prop:=ok_Route x.Work∧ok_Route x.Spare
theorem p_szService (x:TService) (l:Int) (h1:0≤l) (h2:l≤1048576) (hs:ok_Service x):M_ea x l=some (if l - z_Service x < 0 then (-1:Int) else l - z_Service x):=by
 unfold M_ea
 obtain ⟨hs0,hs1⟩:=hs
 rw [p_szRoute _ _ (by omega) (by omega) hs0]
 simp only [Option.bind_some]
 by_cases h10:l - (z_Route x.Work:Int) < 0
 · rw [if_pos h10,if_pos (show l - (z_Service x:Int) < 0 by unfold z_Service; omega)]; simp
 · simp only [if_neg h10]
   simp only [h10,decide_false,cond_false]
   rw [p_szRoute _ _ (by omega) (by omega) hs1]
   simp only [Option.bind_some]
   by_cases h11:l - (z_Route x.Work:Int) - (z_Route x.Spare:Int) < 0
   · rw [if_pos h11,if_pos (show l - (z_Service x:Int) < 0 by unfold z_Service; omega)]; simp
   · simp only [if_neg h11]
     simp only [h11,decide_false,cond_false]
     have e:l - (z_Route x.Work:Int) - (z_Route x.Spare:Int)=l - (z_Service x:Int):=by unfold z_Service; omega
     rw [e,if_neg (by omega)]
theorem p_toService (x:TService) (hl:z_Service x≤1048576):M_cu x=some x:=by
 unfold M_cu
 simp only [p_toRoute x.Work (by unfold z_Service at hl; omega),p_toBlock x.WorkBlock,p_toRoute x.Spare (by unfold z_Service at hl; omega),p_toBlock x.SpareBlock,Option.bind_some]
theorem p_eqService (x:TService) (hl:z_Service x≤1048576):M_cv x x=some true:=by
 unfold M_cv
 simp [p_eqRoute x.Work (by unfold z_Service at hl; omega),p_eqBlock x.WorkBlock,p_eqRoute x.Spare (by unfold z_Service at hl; omega),p_eqBlock x.SpareBlock]
def z_ServiceS (xs:(List TService)):Nat:=xs.length+(xs.map fun x=>z_Service x).sum
def ok_ServiceS (xs:(List TService)):Prop:=xs.length≤9223372036854775807∧∀ x∈xs,ok_Service x
theorem p_szServiceS (xs:(List TService)) (l:Int) (h1:0≤l) (h2:l≤1048576) (hs:ok_ServiceS xs):M_eb xs l=some (if l - z_ServiceS xs < 0 then (-1:Int) else l - z_ServiceS xs):=by
 unfold M_eb
 have hs1:=hs.1
 rw [w64_eq (by omega) (by omega)]
 simp only [cond_ite,decide_eq_true_eq]
 by_cases h:l - (xs.length:Int) < 0
 · rw [if_pos h,if_pos (by unfold z_ServiceS; omega)]
 · rw [if_neg h,sz_loop (f:=M_am xs) xs (fun x=>z_Service x) (fun i x l' hx h3 h4=>by
    have hlt:=(List.getElem?_eq_some_iff.1 hx).1
    have h1:decide ((i:Int) < xs.length)=true:=by simp [hlt]
    simp only [M_am,h1,cond_true,geti_nat,hx,Option.bind_some,p_szService x l' h3 h4 (hs.2 x (List.mem_of_getElem? hx)),cond_ite,decide_eq_true_eq]
    rw [w64_eq (by omega) (by omega)]
    by_cases h5:l' - (z_Service x:Int) < 0
    · simp only [if_pos h5,if_true,Int.reduceNeg,Int.reduceLT]
    · simp only [if_neg h5,if_true]; rfl) (fun l=>by simp [M_am]) _ (by omega) (by omega) (by omega)]
   have e:l - (xs.length:Int) - ((xs.map fun x=>z_Service x).sum:Nat)=l - (z_ServiceS xs:Int):=by unfold z_ServiceS; omega
   rw [e]
   by_cases h5:l - (z_ServiceS xs:Int) < 0
   · simp only [if_pos h5,Option.bind_some]
   · simp only [if_neg h5,Option.bind_some]
theorem p_toServiceS (xs:(List TService)) (hl:z_ServiceS xs≤1048576):M_bh xs=some xs:=by
 unfold M_bh
 have hlen:xs.length≤1048576:=by unfold z_ServiceS at hl; omega
 have key:=fun l0 (h0:l0.length=xs.length)=>iter_copy (f:=M_an xs) xs id l0 h0 (fun i l x y hx hy hll=>by
  have hlt:=(List.getElem?_eq_some_iff.1 hx).1
  have h1:decide ((i:Int) < xs.length)=true:=by simp [hlt]
  have h2:(0≤(i:Int)∧(i:Int) < (l.length:Int)):=by omega
  have hto:M_cu x=some x:=p_toService x (by have:=sum_ge (fun x=>z_Service x) hx; unfold z_ServiceS at hl; omega)
  simp only [M_an,h1,cond_true,geti_nat,hx,Option.bind_some,grd_t h2,Int.toNat_natCast,hy,hto,bnd,id]
  rw [w64_eq (by omega) (by omega)]; rfl) (fun l=>by simp [M_an]) (by omega)
 rw [grd_t (by omega)]
 simp only [Option.bind_some,bnd]
 rw [key _ (by simp)]; simp
theorem p_eqServiceS (xs:(List TService)) (hl:z_ServiceS xs≤1048576):M_bi xs xs=some true:=by
 unfold M_bi
 have hlen:xs.length≤1048576:=by unfold z_ServiceS at hl; omega
 rw [eq_loop (f:=M_ao xs xs) xs (fun i x hx=>by
  have hlt:=(List.getElem?_eq_some_iff.1 hx).1
  have h1:decide ((i:Int) < xs.length)=true:=by simp [hlt]
  have he:M_cv x x=some true:=p_eqService x (by have:=sum_ge (fun x=>z_Service x) hx; unfold z_ServiceS at hl; omega)
  simp only [M_ao,h1,cond_true,geti_nat,hx,Option.bind_some,he,Bool.not_true,cond_false]
  rw [w64_eq (by omega) (by omega)]; rfl) (by simp [M_ao]) (by omega)]
 simp
def mk_StringS (k:Int) (_:ByteArray):Int×ByteArray:=(k+1,txt k)
def w_bd (_:ByteArray):Nat:=1
theorem hw_StringS (k:Int) (x:ByteArray):(mk_StringS k x).1=k+(w_bd x:Int):=rfl
theorem w_fd (xs:(List ByteArray)):(xs.map w_bd).sum≤16 * z_StringS xs:=by
 unfold z_StringS
 induction xs with
 | nil=>simp
 | cons x xs ih=>simp only [List.map_cons,List.sum_cons,List.length_cons,w_bd] at ih ⊢; omega
theorem p_markStringS (xs:(List ByteArray)) (k0:Int) (hk:0≤k0) (hK:k0+((xs.map w_bd).sum:Nat)≤1000000000000) (hl:z_StringS xs≤1048576):M_ec k0 xs=some (markL mk_StringS k0 xs):=by
 unfold M_ec
 have hlen:xs.length≤1048576:=by unfold z_StringS at hl; omega
 rw [mark_loop (f:=M_ap) xs mk_StringS w_bd hw_StringS 1000000000000 (fun i x k l hll hi hx hli h0 hK2=>by
  have hw1:w_bd x=w_bd x:=rfl
  have h1:decide ((i:Int) < (l.length:Int))=true:=decide_eq_true (by omega)
  have h2:0≤(i:Int)∧(i:Int) < (l.length:Int):=by omega
  simp only [M_ap,h1,cond_true,grd_t h2,Option.bind_some,Int.toNat_natCast,hli,bnd,p_markText k h0 (by omega)]
  rw [w64_eq (n:=k+1) (by unfold w_bd at hK2; omega) (by unfold w_bd at hK2; omega),w64_eq (n:=(i:Int)+1) (by unfold w_bd at hK2; omega) (by unfold w_bd at hK2; omega)]
  rfl) (fun k l hll=>by simp [M_ap,hll]) k0 hk hK (by omega)]
 rfl
def mk_FiberS (k:Int) (_:TFiber):Int×TFiber:=(k+4,⟨k,k+1,k+2,k+3⟩)
def w_ba (_:TFiber):Nat:=4
theorem hw_FiberS (k:Int) (x:TFiber):(mk_FiberS k x).1=k+(w_ba x:Int):=rfl
theorem w_fe (xs:(List TFiber)):(xs.map w_ba).sum≤16 * z_FiberS xs:=by
 unfold z_FiberS
 induction xs with
 | nil=>simp
 | cons x xs ih=>simp only [List.map_cons,List.sum_cons,List.length_cons,w_ba] at ih ⊢; omega
theorem p_markFiberS (xs:(List TFiber)) (k0:Int) (hk:0≤k0) (hK:k0+((xs.map w_ba).sum:Nat)≤1000000000000) (hl:z_FiberS xs≤1048576):M_ed k0 xs=some (markL mk_FiberS k0 xs):=by
 unfold M_ed
 have hlen:xs.length≤1048576:=by unfold z_FiberS at hl; omega
 rw [mark_loop (f:=M_aq) xs mk_FiberS w_ba hw_FiberS 1000000000000 (fun i x k l hll hi hx hli h0 hK2=>by
  have hw1:w_ba x=w_ba x:=rfl
  have h1:decide ((i:Int) < (l.length:Int))=true:=decide_eq_true (by omega)
  have h2:0≤(i:Int)∧(i:Int) < (l.length:Int):=by omega
  simp only [M_aq,h1,cond_true,grd_t h2,Option.bind_some,Int.toNat_natCast,hli,bnd,List.getElem?_set_self (show i < l.length by omega),List.set_set]
  rw [w64_eq (n:=k+1) (by unfold w_ba at hK2; omega) (by unfold w_ba at hK2; omega),w64_eq (n:=k+1+1) (by unfold w_ba at hK2; omega) (by unfold w_ba at hK2; omega),w64_eq (n:=k+1+1+1) (by unfold w_ba at hK2; omega) (by unfold w_ba at hK2; omega),w64_eq (n:=k+1+1+1+1) (by unfold w_ba at hK2; omega) (by unfold w_ba at hK2; omega),w64_eq (n:=(i:Int)+1) (by unfold w_ba at hK2; omega) (by unfold w_ba at hK2; omega)]
  simp only [Int.add_assoc,Int.reduceAdd,mk_FiberS]
  rfl) (fun k l hll=>by simp [M_aq,hll]) k0 hk hK (by omega)]
 rfl
def mkr_Network (k:Int) (x:TNetwork):Int×List ByteArray×List TFiber:=((markL mk_FiberS (markL mk_StringS k x.Nodes).1 x.Fibers).1,(markL mk_StringS k x.Nodes).2,(markL mk_FiberS (markL mk_StringS k x.Nodes).1 x.Fibers).2)
def wr_Network (x:TNetwork):Nat:=(x.Nodes.map w_bd).sum+(x.Fibers.map w_ba).sum
theorem mkr_fst_Network (k:Int) (x:TNetwork):(mkr_Network k x).1=k+(wr_Network x:Int):=by
 unfold mkr_Network wr_Network
 simp only [markL_fst mk_StringS w_bd hw_StringS,markL_fst mk_FiberS w_ba hw_FiberS]
 try omega
theorem w_fc (x:TNetwork):wr_Network x≤16 * z_Network x:=by
 unfold wr_Network
 have hz:z_Network x=z_StringS x.Nodes+z_FiberS x.Fibers:=by unfold z_Network; omega
 have:=w_fd x.Nodes
 have:=w_fe x.Fibers
 omega
theorem p_markNetwork (x:TNetwork) (k0:Int) (hk:0≤k0) (hK:k0+(wr_Network x:Int)≤1000000000000) (hl:z_Network x≤1048576):M_ee k0 x.Nodes x.Fibers=some (mkr_Network k0 x):=by
 unfold M_ee
 unfold wr_Network at hK
 have hz:z_Network x=z_StringS x.Nodes+z_FiberS x.Fibers:=by unfold z_Network; omega
 have f0:=markL_fst mk_StringS w_bd hw_StringS x.Nodes k0
 have f1:=markL_fst mk_FiberS w_ba hw_FiberS x.Fibers ((markL mk_StringS k0 x.Nodes).1)
 rw [p_markStringS x.Nodes k0 (by omega) (by omega) (by omega)]
 simp only [Option.bind_some]
 rw [p_markFiberS x.Fibers ((markL mk_StringS k0 x.Nodes).1) (by omega) (by omega) (by omega)]
 simp only [Option.bind_some]
 rfl
def mk_IntS (k:Int) (_:Int):Int×Int:=(k+1,k)
def w_IntS (_:Int):Nat:=1
theorem hw_IntS (k:Int) (x:Int):(mk_IntS k x).1=k+(w_IntS x:Int):=rfl
theorem w_ev (xs:(List Int)):(xs.map w_IntS).sum≤16 * z_IntS xs:=by
 unfold z_IntS
 induction xs with
 | nil=>simp
 | cons x xs ih=>simp only [List.map_cons,List.sum_cons,List.length_cons,w_IntS] at ih ⊢; omega
theorem p_markIntS (xs:(List Int)) (k0:Int) (hk:0≤k0) (hK:k0+((xs.map w_IntS).sum:Nat)≤1000000000000) (hl:z_IntS xs≤1048576):M_co k0 xs=some (markL mk_IntS k0 xs):=by
 unfold M_co
 have hlen:xs.length≤1048576:=by unfold z_IntS at hl; omega
 rw [mark_loop (f:=M_ar) xs mk_IntS w_IntS hw_IntS 1000000000000 (fun i x k l hll hi hx hli h0 hK2=>by
  have hw1:w_IntS x=w_IntS x:=rfl
  have h1:decide ((i:Int) < (l.length:Int))=true:=decide_eq_true (by omega)
  have h2:0≤(i:Int)∧(i:Int) < (l.length:Int):=by omega
  simp only [M_ar,h1,cond_true,grd_t h2,Option.bind_some,Int.toNat_natCast,hli,bnd]
  rw [w64_eq (n:=k+1) (by unfold w_IntS at hK2; omega) (by unfold w_IntS at hK2; omega),w64_eq (n:=(i:Int)+1) (by unfold w_IntS at hK2; omega) (by unfold w_IntS at hK2; omega)]
  rfl) (fun k l hll=>by simp [M_ar,hll]) k0 hk hK (by omega)]
 rfl
theorem p_heldIntS (xs:(List Int)) (k0:Int) (hk:0≤k0) (hK:k0+((xs.map w_IntS).sum:Nat)≤1000000000000) (hl:z_IntS xs≤1048576):M_bm (markL mk_IntS k0 xs).2 k0=some (markL mk_IntS k0 xs).1:=by
 unfold M_bm
 have hlen:xs.length≤1048576:=by unfold z_IntS at hl; omega
 rw [held_loop (f:=M_as (markL mk_IntS k0 xs).2) xs mk_IntS w_IntS hw_IntS 1000000000000 k0 (fun i x k hx hm h0 hK2=>by
  have hi:=(List.getElem?_eq_some_iff.1 hx).1
  have h1:decide ((i:Int) < ((markL mk_IntS k0 xs).2.length:Int))=true:=decide_eq_true (by rw [markL_len]; omega)
  simp only [M_as,h1,cond_true,geti_nat,hm,Option.bind_some,mk_IntS,bne_self_eq_false,cond_false]
  rw [w64_eq (n:=k+1) (by unfold w_IntS at hK2; omega) (by unfold w_IntS at hK2; omega),w64_eq (n:=(i:Int)+1) (by unfold w_IntS at hK2; omega) (by unfold w_IntS at hK2; omega)]
  rfl) (fun k=>by simp [M_as,markL_len]) hk hK (by omega)]
 rfl
def mk_ServiceS (k:Int) (x:TService):Int×TService:=((markL mk_IntS ((markL mk_IntS (k+1+1+1) x.Work.Fibers).1+1+1+1) x.Spare.Fibers).1+1+1,⟨k,k+1,⟨k+1+1,(markL mk_IntS (k+1+1+1) x.Work.Fibers).2⟩,⟨(markL mk_IntS (k+1+1+1) x.Work.Fibers).1,(markL mk_IntS (k+1+1+1) x.Work.Fibers).1+1⟩,⟨(markL mk_IntS (k+1+1+1) x.Work.Fibers).1+1+1,(markL mk_IntS ((markL mk_IntS (k+1+1+1) x.Work.Fibers).1+1+1+1) x.Spare.Fibers).2⟩,⟨(markL mk_IntS ((markL mk_IntS (k+1+1+1) x.Work.Fibers).1+1+1+1) x.Spare.Fibers).1,(markL mk_IntS ((markL mk_IntS (k+1+1+1) x.Work.Fibers).1+1+1+1) x.Spare.Fibers).1+1⟩⟩)
def w_bc (x:TService):Nat:=8+(x.Work.Fibers.map w_IntS).sum+(x.Spare.Fibers.map w_IntS).sum
theorem hw_ServiceS (k:Int) (x:TService):(mk_ServiceS k x).1=k+(w_bc x:Int):=by
 unfold mk_ServiceS w_bc
 simp only [markL_fst mk_IntS w_IntS hw_IntS]
 omega
theorem w_fb (xs:(List TService)):(xs.map w_bc).sum≤16 * z_ServiceS xs:=by
 unfold z_ServiceS
 induction xs with
 | nil=>simp
 | cons x xs ih =>
   have t0:=w_ev x.Work.Fibers
   simp only [z_IntS] at t0
   have t1:=w_ev x.Spare.Fibers
   simp only [z_IntS] at t1
   simp only [List.map_cons,List.sum_cons,List.length_cons,w_bc,z_Service,z_Route,z_IntS] at ih ⊢
   omega
theorem p_markServiceS (xs:(List TService)) (k0:Int) (hk:0≤k0) (hK:k0+((xs.map w_bc).sum:Nat)≤1000000000000) (hl:z_ServiceS xs≤1048576):M_bn k0 xs=some (markL mk_ServiceS k0 xs):=by
 unfold M_bn
 have hlen:xs.length≤1048576:=by unfold z_ServiceS at hl; omega
 rw [mark_loop (f:=M_at) xs mk_ServiceS w_bc hw_ServiceS 1000000000000 (fun i x k l hll hi hx hli h0 hK2=>by
  have hw1:w_bc x=w_bc x:=rfl
  have h1:decide ((i:Int) < (l.length:Int))=true:=decide_eq_true (by omega)
  have h2:0≤(i:Int)∧(i:Int) < (l.length:Int):=by omega
  have hb:z_Service x≤1048576:=by have:=sum_ge (fun x=>z_Service x) hx; unfold z_ServiceS at hl; omega
  unfold z_Service z_Route z_IntS at hb
  unfold w_bc at hK2
  simp only [M_at,h1,cond_true,grd_t h2,Option.bind_some,Int.toNat_natCast,hli,bnd,List.getElem?_set_self (show i < l.length by omega),List.set_set]
  rw [w64_eq (n:=k+1) (by omega) (by omega),w64_eq (n:=k+1+1) (by omega) (by omega),w64_eq (n:=k+1+1+1) (by omega) (by omega)]
  have f0:=markL_fst mk_IntS w_IntS hw_IntS x.Work.Fibers (k+1+1+1)
  have g0:=w_ev x.Work.Fibers
  unfold z_IntS at g0
  rw [p_markIntS x.Work.Fibers (k+1+1+1) (by omega) (by omega) (by unfold z_IntS; omega)]
  simp only [Option.bind_some,List.getElem?_set_self (show i < l.length by omega),List.set_set]
  rw [w64_eq (n:=(markL mk_IntS (k+1+1+1) x.Work.Fibers).1+1) (by omega) (by omega),w64_eq (n:=(markL mk_IntS (k+1+1+1) x.Work.Fibers).1+1+1) (by omega) (by omega),w64_eq (n:=(markL mk_IntS (k+1+1+1) x.Work.Fibers).1+1+1+1) (by omega) (by omega)]
  have f1:=markL_fst mk_IntS w_IntS hw_IntS x.Spare.Fibers ((markL mk_IntS (k+1+1+1) x.Work.Fibers).1+1+1+1)
  have g1:=w_ev x.Spare.Fibers
  unfold z_IntS at g1
  rw [p_markIntS x.Spare.Fibers ((markL mk_IntS (k+1+1+1) x.Work.Fibers).1+1+1+1) (by omega) (by omega) (by unfold z_IntS; omega)]
  simp only [Option.bind_some,List.getElem?_set_self (show i < l.length by omega),List.set_set]
  rw [w64_eq (n:=(markL mk_IntS ((markL mk_IntS (k+1+1+1) x.Work.Fibers).1+1+1+1) x.Spare.Fibers).1+1) (by omega) (by omega),w64_eq (n:=(markL mk_IntS ((markL mk_IntS (k+1+1+1) x.Work.Fibers).1+1+1+1) x.Spare.Fibers).1+1+1) (by omega) (by omega)]
  rw [w64_eq (n:=(i:Int)+1) (by omega) (by omega)]
  rfl) (fun k l hll=>by simp [M_at,hll]) k0 hk hK (by omega)]
 rfl
theorem p_heldServiceS (xs:(List TService)) (k0:Int) (hk:0≤k0) (hK:k0+((xs.map w_bc).sum:Nat)≤1000000000000) (hl:z_ServiceS xs≤1048576):M_cp (markL mk_ServiceS k0 xs).2 k0=some (markL mk_ServiceS k0 xs).1:=by
 unfold M_cp
 have hlen:xs.length≤1048576:=by unfold z_ServiceS at hl; omega
 rw [held_loop (f:=M_au (markL mk_ServiceS k0 xs).2) xs mk_ServiceS w_bc hw_ServiceS 1000000000000 k0 (fun i x k hx hm h0 hK2=>by
  have hi:=(List.getElem?_eq_some_iff.1 hx).1
  have h1:decide ((i:Int) < ((markL mk_ServiceS k0 xs).2.length:Int))=true:=decide_eq_true (by rw [markL_len]; omega)
  have hb:z_Service x≤1048576:=by have:=sum_ge (fun x=>z_Service x) hx; unfold z_ServiceS at hl; omega
  unfold z_Service z_Route z_IntS at hb
  unfold w_bc at hK2
  simp only [M_au,h1,cond_true,geti_nat,hm,Option.bind_some,mk_ServiceS]
  rw [w64_eq (n:=k+1) (by omega) (by omega),w64_eq (n:=k+1+1) (by omega) (by omega),w64_eq (n:=k+1+1+1) (by omega) (by omega)]
  have f0:=markL_fst mk_IntS w_IntS hw_IntS x.Work.Fibers (k+1+1+1)
  have g0:=w_ev x.Work.Fibers
  unfold z_IntS at g0
  have hh0:M_bm (markL mk_IntS (k+1+1+1) x.Work.Fibers).2 (k+1+1+1)=some (markL mk_IntS (k+1+1+1) x.Work.Fibers).1:=p_heldIntS x.Work.Fibers (k+1+1+1) (by omega) (by omega) (by unfold z_IntS; omega)
  have hn0:decide ((markL mk_IntS (k+1+1+1) x.Work.Fibers).1 < 0)=false:=decide_eq_false (by omega)
  simp only [bne_self_eq_false,cond_false,hh0,Option.bind_some,hn0]
  rw [w64_eq (n:=(markL mk_IntS (k+1+1+1) x.Work.Fibers).1+1) (by omega) (by omega),w64_eq (n:=(markL mk_IntS (k+1+1+1) x.Work.Fibers).1+1+1) (by omega) (by omega),w64_eq (n:=(markL mk_IntS (k+1+1+1) x.Work.Fibers).1+1+1+1) (by omega) (by omega)]
  have f1:=markL_fst mk_IntS w_IntS hw_IntS x.Spare.Fibers ((markL mk_IntS (k+1+1+1) x.Work.Fibers).1+1+1+1)
  have g1:=w_ev x.Spare.Fibers
  unfold z_IntS at g1
  have hh1:M_bm (markL mk_IntS ((markL mk_IntS (k+1+1+1) x.Work.Fibers).1+1+1+1) x.Spare.Fibers).2 ((markL mk_IntS (k+1+1+1) x.Work.Fibers).1+1+1+1)=some (markL mk_IntS ((markL mk_IntS (k+1+1+1) x.Work.Fibers).1+1+1+1) x.Spare.Fibers).1:=p_heldIntS x.Spare.Fibers ((markL mk_IntS (k+1+1+1) x.Work.Fibers).1+1+1+1) (by omega) (by omega) (by unfold z_IntS; omega)
  have hn1:decide ((markL mk_IntS ((markL mk_IntS (k+1+1+1) x.Work.Fibers).1+1+1+1) x.Spare.Fibers).1 < 0)=false:=decide_eq_false (by omega)
  simp only [bne_self_eq_false,cond_false,hh1,Option.bind_some,hn1]
  rw [w64_eq (n:=(markL mk_IntS ((markL mk_IntS (k+1+1+1) x.Work.Fibers).1+1+1+1) x.Spare.Fibers).1+1) (by omega) (by omega),w64_eq (n:=(markL mk_IntS ((markL mk_IntS (k+1+1+1) x.Work.Fibers).1+1+1+1) x.Spare.Fibers).1+1+1) (by omega) (by omega)]
  rw [w64_eq (n:=(i:Int)+1) (by omega) (by omega)]
  simp only [bne_self_eq_false,cond_false]
  rfl) (fun k=>by simp [M_au,markL_len]) hk hK (by omega)]
 rfl
end Vs

namespace Vs
open Go
def wi (x a b:Int):Bool:=decide (a≤x)&&decide (x≤b)
theorem wi_iff {x a b:Int}:wi x a b=true↔a≤x∧x≤b:=by simp [wi]
theorem wi_false {x a b:Int}:wi x a b=false↔¬ (a≤x∧x≤b):=by rw [← wi_iff]; simp
theorem p_within (x a b:Int):M_n x a b=some (wi x a b):=by
 unfold M_n wi; by_cases h:a≤x <;> simp [h]
theorem p_l1In (x a b:Int):M_a x a b=some (wi x a b):=by
 unfold M_a wi; by_cases h:a≤x <;> simp [h]
def letB (c:UInt8):Bool:=decide (97≤c.toNat)&&decide (c.toNat≤122)
def digB (c:UInt8):Bool:=decide (48≤c.toNat)&&decide (c.toNat≤57)
def nameBad (i:Nat) (c:UInt8):Bool:=!letB c&&(!digB c||i==0)
def nameB (s:ByteArray):Bool:=!anyI nameBad s.data.toList&&wi s.size 1 8
theorem getz_nat (s:ByteArray) (i:Nat):getz s (i:Int)=s.data.toList[i]?:=by
 unfold getz
 rw [if_pos (by omega),Int.toNat_natCast]
 by_cases h:i < s.size
 · have h2:i < s.data.toList.length:=by simpa using h
   rw [getElem?_pos s i h,List.getElem?_eq_getElem h2]
   rfl
 · have h2:¬ i < s.data.toList.length:=by simpa using h
   rw [getElem?_neg s i h,List.getElem?_eq_none (Nat.le_of_not_lt h2)]
theorem size_list (s:ByteArray):s.size=s.data.toList.length:=by show s.data.size=s.data.toList.length; rw [Array.length_toList]
theorem letB_c (c:UInt8):letB c=(decide (97≤(c.toNat:Int))&&decide ((c.toNat:Int)≤122)):=by
 unfold letB
 congr 1 <;> exact decide_eq_decide.2 (by omega)
theorem digB_c (c:UInt8):digB c=(decide (48≤(c.toNat:Int))&&decide ((c.toNat:Int)≤57)):=by
 unfold digB
 congr 1 <;> exact decide_eq_decide.2 (by omega)
theorem p_isName (s:ByteArray) (hl:s.size≤1048576):M_en s=some (nameB s):=by
 unfold M_en nameB
 rw [size_list] at *
 rw [iter_anyI (f:=M_o s) s.data.toList nameBad (.inr false) (.inl ()) (fun i c hc _=>by
  have hlt:=(List.getElem?_eq_some_iff.1 hc).1
  have h1:decide ((i:Int) < s.size)=true:=decide_eq_true (by rw [size_list]; omega)
  simp only [M_o,h1,cond_true,getz_nat,hc,Option.bind_some,nameBad,letB_c,digB_c]
  rw [w64_eq (by omega) (by omega)]
  have hi:((i:Int)==0)=(i==0):=by rw [Bool.eq_iff_iff]; simp
  rw [hi]
  cases decide (97≤(c.toNat:Int)) <;> cases decide ((c.toNat:Int)≤122) <;> cases decide (48≤(c.toNat:Int)) <;> cases decide ((c.toNat:Int)≤57) <;> cases (i==0) <;> rfl) (by simp [M_o]) (by omega)]
 rw [← size_list]
 cases anyI nameBad s.data.toList <;> simp [p_within]
theorem p_l2Sign (c:UInt8):M_ek (c.toNat:Int)=some (letB c||digB c):=by
 unfold M_ek
 simp only [letB_c,digB_c]
 cases decide (97≤(c.toNat:Int)) <;> cases decide ((c.toNat:Int)≤122) <;> cases decide (48≤(c.toNat:Int)) <;> rfl
theorem fstc (c:UInt8):(cond (decide ((c.toNat:Int) < 97)) (some true) (some (decide (122 < (c.toNat:Int)))):Option Bool)=some (!letB c):=by
 rw [letB_c]
 by_cases h1:(c.toNat:Int) < 97
 · have h2:¬ 97≤(c.toNat:Int):=by omega
   simp [h1,h2]
 · have h2:97≤(c.toNat:Int):=by omega
   simp only [h1,decide_false,cond_false,h2,decide_true,Bool.true_and]
   by_cases h3:122 < (c.toNat:Int)
   · have h4:¬ (c.toNat:Int)≤122:=by omega
     simp [h3,h4]
   · have h4:(c.toNat:Int)≤122:=by omega
     simp [h3,h4]
theorem p_l2Name (s:ByteArray) (hl:s.size≤1048576):M_el s=some (nameB s):=by
 unfold M_el nameB
 simp only [p_l1In,Option.bind_some]
 rcases bt (wi s.size 1 8) with hw | hw
 · simp only [hw,Bool.not_true,cond_false,Bool.and_true]
   have hs:0 < s.data.toList.length:=by rw [← size_list]; have:=(wi_iff.1 hw).1; omega
   have h0:s.data.toList[0]?=some s.data.toList[0]:=List.getElem?_eq_getElem hs
   have g0:getz s 0=some s.data.toList[0]:=by rw [← h0]; exact getz_nat s 0
   simp only [g0,Option.bind_some]
   have key:=iter_anyI (f:=M_aw s) s.data.toList (fun _ c=>!(letB c||digB c)) (.inr false) (.inl ()) (fun i c hc _=>by
    have hlt:=(List.getElem?_eq_some_iff.1 hc).1
    have h1:decide ((i:Int) < s.size)=true:=decide_eq_true (by rw [size_list]; omega)
    rw [size_list] at hl
    simp only [M_aw,h1,cond_true,getz_nat,hc,Option.bind_some,p_l2Sign]
    rw [w64_eq (by omega) (by omega)]
    cases letB c <;> cases digB c <;> rfl) (by simp [M_aw]) (by rw [size_list] at hl; omega)
   rw [fstc]
   simp only [Option.bind_some,key]
   rcases bt (letB s.data.toList[0]) with hL | hL
   · simp only [hL,Bool.not_true,cond_false]
     have e:anyI (fun _ c=>!(letB c||digB c)) s.data.toList=anyI nameBad s.data.toList:=by
      refine anyI_congr fun i c hc _=>?_
      unfold nameBad
      by_cases hi:i=0
      · subst hi; rw [h0] at hc; cases hc; rw [hL]; rfl
      · have:(i==0)=false:=by simpa using hi
        rw [this]
        cases letB c <;> cases digB c <;> rfl
     rw [e]
     cases anyI nameBad s.data.toList <;> rfl
   · have:anyI nameBad s.data.toList=true:=anyI_iff.2 ⟨0,_,h0,by unfold nameBad; rw [hL]; simp⟩
     simp only [hL,this,Bool.not_false,cond_true,Bool.not_true]
 · simp [hw]
def idxZ (v:ByteArray) (xs:List ByteArray):Option (Nat×ByteArray):=findI (fun _ x=>x.toList==v.toList) xs
def fidx (v:ByteArray) (xs:List ByteArray):Int:=match idxZ v xs with | some q=>(q.1:Int) | none=>-1
theorem p_l2Find (xs:List ByteArray) (v:ByteArray) (hl:xs.length≤1048576):M_em xs v=some (fidx v xs):=by
 unfold M_em fidx
 rw [iter_findI (f:=M_ax xs v) xs (fun _ x=>x.toList==v.toList) (fun i _=>(i:Int)) () (fun i x hx _=>by
  have hlt:=(List.getElem?_eq_some_iff.1 hx).1
  have h1:decide ((i:Int) < xs.length)=true:=by simp [hlt]
  simp only [M_ax,h1,cond_true,geti_nat,hx,Option.bind_some]
  rw [w64_eq (by omega) (by omega)]
  cases x.toList==v.toList <;> rfl) (by simp [M_ax]) (by omega)]
 unfold idxZ
 cases findI (fun _ x=>x.toList==v.toList) xs <;> rfl
theorem p_Contains_z (xs:List ByteArray) (v:ByteArray) (hl:xs.length≤1048576):M_eo xs v=some (xs.any fun x=>x.toList==v.toList):=by
 unfold M_eo M_ey
 rw [iter_findI (f:=M_ay xs v) xs (fun _ x=>x.toList==v.toList) (fun i _=>(i:Int)) () (fun i x hx _=>by
  have hlt:=(List.getElem?_eq_some_iff.1 hx).1
  have h1:decide ((i:Int) < xs.length)=true:=by simp [hlt]
  simp only [M_ay,h1,cond_true,geti_nat,hx,Option.bind_some]
  rw [w64_eq (by omega) (by omega),show (v.toList==x.toList)=(x.toList==v.toList) from Bool.beq_comm ..]
  cases x.toList==v.toList <;> rfl) (by simp [M_ay]) (by omega)]
 cases e:findI (fun _ x=>x.toList==v.toList) xs with
 | none =>
   have:=findI_none.1 e
   have h:(xs.any fun x=>x.toList==v.toList)=false:=by
    rw [← anyI_any (fun x:ByteArray=>x.toList==v.toList),anyI_false]; exact this
   rw [h]; rfl
 | some q =>
   obtain ⟨i,x⟩:=q
   obtain ⟨h1,h2,_⟩:=findI_some.1 e
   have h:(xs.any fun x=>x.toList==v.toList)=true:=List.any_eq_true.2 ⟨x,List.mem_of_getElem? h1,h2⟩
   rw [h]; simp
def cmpI (x y:Int):Int:=if x < y then -1 else if y < x then 1 else 0
theorem p_cmp (x y:Int):M_bk x y=some (cmpI x y):=by
 unfold M_bk M_bj cmpI
 by_cases h:x < y
 · simp [h]
 · by_cases h2:y < x <;> simp [h,h2]
def cmpF (f g:TFiber):Int:=if f.A ≠ g.A then cmpI f.A g.A else if f.B ≠ g.B then cmpI f.B g.B else if f.Length ≠ g.Length then cmpI f.Length g.Length else cmpI f.Risk g.Risk
theorem cmpI_zero {x y:Int}:cmpI x y=0↔x=y:=by
 unfold cmpI
 split
 · simp; omega
 · split
   · simp; omega
   · simp; omega
theorem p_compareFibers (f g:TFiber):M_ep f g=some (cmpF f g):=by
 unfold M_ep
 simp only [p_cmp,Option.bind_some,bnd]
 unfold M_ez
 have key:=iter_findI (f:=M_az [cmpI f.A g.A,cmpI f.B g.B,cmpI f.Length g.Length,cmpI f.Risk g.Risk]) [cmpI f.A g.A,cmpI f.B g.B,cmpI f.Length g.Length,cmpI f.Risk g.Risk] (fun _ x=>x != 0) (fun _ x=>x) () (fun i x hx _=>by
  have hlt:=(List.getElem?_eq_some_iff.1 hx).1
  have h1:decide ((i:Int) < ([cmpI f.A g.A,cmpI f.B g.B,cmpI f.Length g.Length,cmpI f.Risk g.Risk].length:Nat))=true:=decide_eq_true (by omega)
  simp only [List.length_cons,List.length_nil] at hlt
  simp only [M_az,h1,cond_true,geti_nat,hx,Option.bind_some]
  rw [w64_eq (by omega) (by omega)]
  cases x != 0 <;> rfl) (by simp [M_az]) (by simp)
 rw [key]
 unfold cmpF findI
 simp only [List.zipIdx_cons,List.zipIdx_nil,List.find?_cons,List.find?_nil]
 by_cases h1:f.A=g.A
 · rw [cmpI_zero.2 h1]
   by_cases h2:f.B=g.B
   · rw [cmpI_zero.2 h2]
     by_cases h3:f.Length=g.Length
     · rw [cmpI_zero.2 h3]
       by_cases h4:f.Risk=g.Risk
       · simp [h1,h2,h3,h4,cmpI_zero.2]
       · have:(cmpI f.Risk g.Risk != 0)=true:=bne_iff_ne.2 fun e=>h4 (cmpI_zero.1 e)
         simp [h1,h2,h3,this]
     · have:(cmpI f.Length g.Length != 0)=true:=bne_iff_ne.2 fun e=>h3 (cmpI_zero.1 e)
       simp [h1,h2,h3,this]
   · have:(cmpI f.B g.B != 0)=true:=bne_iff_ne.2 fun e=>h2 (cmpI_zero.1 e)
     simp [h1,h2,this]
 · have:(cmpI f.A g.A != 0)=true:=bne_iff_ne.2 fun e=>h1 (cmpI_zero.1 e)
   simp [h1,this]
end Vs

namespace Vs
open Go
theorem slT_nat {α:Type} (xs:List α) (i:Nat) (h:i≤xs.length):slT xs (i:Int)=some (xs.take i):=by
 unfold slT
 rw [if_pos ⟨by omega,by simpa using h⟩]; simp
theorem z_net {n:TNetwork} (h:z_Network n≤1048576):n.Nodes.length≤1048576∧n.Fibers.length≤1048576∧∀ x∈n.Nodes,x.size≤1048576:=by
 unfold z_Network z_StringS z_FiberS at h
 refine ⟨by omega,by omega,fun x hx=>?_⟩
 obtain ⟨i,hi,rfl⟩:=List.getElem_of_mem hx
 have:n.Nodes[i].size≤(n.Nodes.map fun x:ByteArray=>x.size).sum:=sum_ge (fun x:ByteArray=>x.size) (xs:=n.Nodes) (i:=i) (x:=n.Nodes[i]) (by simp [hi])
 omega
def nodeBad (n:TNetwork) (i:Nat) (x:ByteArray):Bool:=!nameB x||(n.Nodes.take i).any fun y=>y.toList==x.toList
def fib1 (m:Nat) (f:TFiber):Bool:=decide (f.A < 0)||decide (f.B≤f.A)||decide ((m:Int)≤f.B)||!wi f.Length 1 5000||!wi f.Risk 0 9
def fibBad (n:TNetwork) (i:Nat) (f:TFiber):Bool:=fib1 n.Nodes.length f||(decide (0 < i)&&match n.Fibers[i - 1]? with | some g=>decide (0 < cmpF g f) | none=>false)
def netOk (n:TNetwork):Bool:=!anyI (nodeBad n) n.Nodes&&!anyI (fibBad n) n.Fibers&&wi n.Nodes.length 2 8&&decide (n.Fibers.length≤14)
theorem p_IsValidNetwork (n:TNetwork) (hz:z_Network n≤1048576):M_dl n=some (netOk n):=by
 obtain ⟨h1,h2,h3⟩:=z_net hz
 unfold M_dl netOk
 rw [iter_anyI (f:=M_z n) n.Nodes (nodeBad n) (.inr false) (.inl ()) (fun i x hx _=>by
  have hlt:=(List.getElem?_eq_some_iff.1 hx).1
  have e1:decide ((i:Int) < n.Nodes.length)=true:=by simp [hlt]
  simp only [M_z,e1,cond_true,geti_nat,hx,Option.bind_some,p_isName x (h3 x (List.mem_of_getElem? hx)),slT_nat n.Nodes i (Nat.le_of_lt hlt),p_Contains_z (n.Nodes.take i) x (by simp; omega),nodeBad]
  rw [w64_eq (by omega) (by omega)]
  rcases bt (nameB x) with e | e <;> rcases bt ((n.Nodes.take i).any (fun y=>y.toList==x.toList)) with e' | e' <;> simp only [e,e'] <;> rfl) (by simp [M_z]) (by omega)]
 rcases bt (anyI (nodeBad n) n.Nodes) with hN | hN
 · simp [hN]
 · simp only [hN,Bool.false_eq_true,if_false,Option.bind_some,Bool.not_false,Bool.true_and]
   rw [iter_anyI (f:=M_i n) n.Fibers (fibBad n) (.inr false) (.inl ()) (fun i x hx _=>by
    have hlt:=(List.getElem?_eq_some_iff.1 hx).1
    have e1:decide ((i:Int) < n.Fibers.length)=true:=by simp [hlt]
    simp only [M_i,e1,cond_true,geti_nat,hx,Option.bind_some,p_within]
    rw [w64_eq (n:=(i:Int)+1) (by omega) (by omega)]
    unfold fibBad fib1
    cases decide (x.A < 0)
    · cases decide (x.B≤x.A)
      · cases decide ((n.Nodes.length:Int)≤x.B)
        · cases wi x.Length 1 5000
          · rfl
          · cases wi x.Risk 0 9
            · rfl
            · by_cases hi:0 < i
              · have hi':decide ((0:Int) < (i:Int))=true:=by simp [hi]
                have hp:n.Fibers[i - 1]?=some n.Fibers[i - 1]:=List.getElem?_eq_getElem (by omega)
                have hw:IntKind.wrap .i64 ((i:Int) - 1)=((i - 1:Nat):Int):=by rw [w64_eq (by omega) (by omega)]; omega
                simp only [hi',cond_true,cond_false,Bool.not_true,hw,geti_nat,hp,Option.bind_some,p_compareFibers,hi,decide_true,Bool.true_and,Bool.false_or]
                cases decide (0 < cmpF n.Fibers[i - 1] x) <;> rfl
              · have hi':decide ((0:Int) < (i:Int))=false:=by simp; omega
                simp [hi',hi]
        · rfl
      · rfl
    · rfl) (by simp [M_i]) (by omega)]
   rcases bt (anyI (fibBad n) n.Fibers) with hF | hF
   · simp [hF]
   · simp only [hF,Bool.false_eq_true,if_false,Option.bind_some,Bool.not_false,Bool.true_and,p_within]
     have e:decide ((n.Fibers.length:Int)≤14)=decide (n.Fibers.length≤14):=decide_eq_decide.2 (by omega)
     rw [e]
     cases wi n.Nodes.length 2 8 <;> rfl
theorem find_dup (n:TNetwork) (i:Nat) (x:ByteArray) (hx:n.Nodes[i]?=some x) :
 (fidx x n.Nodes != (i:Int))=(n.Nodes.take i).any fun y=>y.toList==x.toList:=by
 unfold fidx
 cases e:idxZ x n.Nodes with
 | none =>
   have:=findI_none.1 e i x hx
   simp at this
 | some q =>
   obtain ⟨j,y⟩:=q
   obtain ⟨h1,h2,h3⟩:=findI_some.1 e
   simp only
   by_cases hj:j=i
   · subst hj
     have:((n.Nodes.take j).any fun y=>y.toList==x.toList)=false:=by
      rw [List.any_eq_false]
      intro z hz
      obtain ⟨k,hk,rfl⟩:=List.getElem_of_mem hz
      simp only [List.length_take] at hk
      have:=h3 k (n.Nodes.take j)[k] (by omega) (by rw [List.getElem_take]; exact List.getElem?_eq_getElem (by omega))
      rw [this]; simp
     rw [this]; simp
   · have hji:j < i:=by
      rcases Nat.lt_trichotomy j i with h | h | h
      · exact h
      · exact (hj h).elim
      · have:=h3 i x h hx
        simp at this
     have:((n.Nodes.take i).any fun y=>y.toList==x.toList)=true:=List.any_eq_true.2 ⟨y,by
      have:(n.Nodes.take i)[j]?=some y:=by rw [List.getElem?_take,if_pos hji]; exact h1
      exact List.mem_of_getElem? this,h2⟩
     rw [this]
     simp; omega
theorem p_l2Fiber (f:TFiber) (m:Nat) (hm:m≤8) (hm2:2≤m):M_dm f (m:Int)=some (!fib1 m f):=by
 unfold M_dm fib1
 simp only [p_l1In,Option.bind_some]
 rw [w64_eq (n:=(m:Int) - 1) (by omega) (by omega)]
 rcases bt (wi f.A 0 ((m:Int) - 1)) with h1 | h1
 · have h2:=wi_iff.1 h1
   rw [w64_eq (n:=f.A+1) (by omega) (by omega)]
   rcases bt (wi f.B (f.A+1) ((m:Int) - 1)) with h3 | h3
   · have h4:=wi_iff.1 h3
     have a1:decide (f.A < 0)=false:=by simp; omega
     have a2:decide (f.B≤f.A)=false:=by simp; omega
     have a3:decide ((m:Int)≤f.B)=false:=by simp; omega
     simp only [h1,h3,a1,a2,a3,cond_true,Bool.false_or]
     cases wi f.Length 1 5000 <;> cases wi f.Risk 0 9 <;> rfl
   · have h4:=wi_false.1 h3
     simp only [h1,h3,cond_true,cond_false]
     by_cases a2:f.B≤f.A
     · simp [a2]
     · have a3:(m:Int)≤f.B:=by omega
       simp [a3]
 · have h2:=wi_false.1 h1
   simp only [h1,cond_false]
   by_cases a1:f.A < 0
   · simp [a1]
   · by_cases a2:f.B≤f.A
     · simp [a2]
     · have a3:(m:Int)≤f.B:=by omega
       simp [a3]
structure FibOk (m:Int) (f:TFiber):Prop where
 a0:0≤f.A
 ab:f.A < f.B
 bm:f.B < m
 l1:1≤f.Length
 l2:f.Length≤5000
 r0:0≤f.Risk
 r9:f.Risk≤9
theorem fib1_ok {m:Nat} {f:TFiber} (h:fib1 m f=false):FibOk m f:=by
 unfold fib1 at h
 simp only [Bool.or_eq_false_iff,decide_eq_false_iff_not,Bool.not_eq_false',wi_iff] at h
 obtain ⟨⟨⟨⟨h1,h2⟩,h3⟩,h4,h5⟩,h6,h7⟩:=h
 exact ⟨by omega,by omega,by omega,h4,h5,h6,h7⟩
theorem p_before (f g:TFiber) (m:Nat) (hm:m≤8) (hf:FibOk m f) (hg:FibOk m g):∃ r,M_dn f g=some r∧decide (0 < r)=decide (0 < cmpF f g):=by
 obtain ⟨a1,a2,a3,a4,a5,a6,a7⟩:=hf
 obtain ⟨b1,b2,b3,b4,b5,b6,b7⟩:=hg
 have sgn:∀ x y:Int,decide (0 < x - y)=decide (0 < cmpI x y):=by
  intro x y
  unfold cmpI
  by_cases h:x < y
  · rw [if_pos h]; exact decide_eq_decide.2 (by omega)
  · rw [if_neg h]
    by_cases h2:y < x
    · rw [if_pos h2]; exact decide_eq_decide.2 (by omega)
    · rw [if_neg h2]; exact decide_eq_decide.2 (by omega)
 unfold M_dn cmpF
 rw [w64_eq (n:=f.A - g.A) (by omega) (by omega),w64_eq (n:=f.B - g.B) (by omega) (by omega),w64_eq (n:=f.Length - g.Length) (by omega) (by omega),w64_eq (n:=f.Risk - g.Risk) (by omega) (by omega)]
 by_cases h1:f.A=g.A
 · have e1:(f.A != g.A)=false:=by rw [h1]; simp
   by_cases h2:f.B=g.B
   · have e2:(f.B != g.B)=false:=by rw [h2]; simp
     by_cases h3:f.Length=g.Length
     · have e3:(f.Length != g.Length)=false:=by rw [h3]; simp
       exact ⟨f.Risk - g.Risk,by simp only [e1,e2,e3,cond_false],by simp only [h1,h2,h3,ne_eq,not_true,if_false]; exact sgn _ _⟩
     · have e3:(f.Length != g.Length)=true:=bne_iff_ne.2 h3
       exact ⟨f.Length - g.Length,by simp only [e1,e2,e3,cond_false,cond_true],by simp only [h1,h2,h3,ne_eq,not_true,not_false_eq_true,if_false,if_true]; exact sgn _ _⟩
   · have e2:(f.B != g.B)=true:=bne_iff_ne.2 h2
     exact ⟨f.B - g.B,by simp only [e1,e2,cond_false,cond_true],by simp only [h1,h2,ne_eq,not_true,not_false_eq_true,if_false,if_true]; exact sgn _ _⟩
 · have e1:(f.A != g.A)=true:=bne_iff_ne.2 h1
   exact ⟨f.A - g.A,by simp only [e1,cond_true],by simp only [h1,ne_eq,not_false_eq_true,if_true]; exact sgn _ _⟩
theorem p_l2Good (n:TNetwork) (hz:z_Network n≤1048576):M_cf n=some (netOk n):=by
 obtain ⟨z1,z2,z3⟩:=z_net hz
 unfold M_cf netOk
 simp only [p_l1In,Option.bind_some]
 rcases bt (wi n.Nodes.length 2 8) with hw | hw
 · have hw2:=wi_iff.1 hw
   have e:decide (14 < (n.Fibers.length:Int))=!decide (n.Fibers.length≤14):=by
    rw [← decide_not]; exact decide_eq_decide.2 (by omega)
   simp only [hw,e,Bool.not_true,cond_false,Option.bind_some,Bool.and_true]
   rcases bt (decide (n.Fibers.length≤14)) with h14 | h14
   · simp only [h14,Bool.not_true,cond_false,Bool.and_true]
     rw [iter_anyI (f:=M_aa n) n.Nodes (nodeBad n) (.inr false) (.inl ()) (fun i x hx _=>by
      have hlt:=(List.getElem?_eq_some_iff.1 hx).1
      have e1:decide ((i:Int) < n.Nodes.length)=true:=by simp [hlt]
      simp only [M_aa,e1,cond_true,geti_nat,hx,Option.bind_some,p_l2Name x (z3 x (List.mem_of_getElem? hx)),p_l2Find n.Nodes x z1,find_dup n i x hx,nodeBad]
      rw [w64_eq (by omega) (by omega)]
      rcases bt (nameB x) with e | e <;> rcases bt ((n.Nodes.take i).any (fun y=>y.toList==x.toList)) with e' | e' <;> simp only [e,e'] <;> rfl) (by simp [M_aa]) (by omega)]
     rcases bt (anyI (nodeBad n) n.Nodes) with hN | hN
     · simp [hN]
     · simp only [hN,Bool.false_eq_true,if_false,Option.bind_some,Bool.not_false,Bool.true_and]
       rw [iter_anyI (f:=M_ab n) n.Fibers (fibBad n) (.inr false) (.inl ()) (fun i x hx hprev=>by
        have hlt:=(List.getElem?_eq_some_iff.1 hx).1
        have e1:decide ((i:Int) < n.Fibers.length)=true:=by simp [hlt]
        simp only [M_ab,e1,cond_true,geti_nat,hx,Option.bind_some,p_l2Fiber x n.Nodes.length (by omega) (by omega),Bool.not_not]
        rw [w64_eq (n:=(i:Int)+1) (by omega) (by omega)]
        unfold fibBad
        rcases bt (fib1 n.Nodes.length x) with h1 | h1
        · simp [h1]
        · simp only [h1,cond_false,Bool.false_or]
          by_cases hi:0 < i
          · have hi':decide ((0:Int) < (i:Int))=true:=by simp [hi]
            have hp:n.Fibers[i - 1]?=some n.Fibers[i - 1]:=List.getElem?_eq_getElem (by omega)
            have hw:IntKind.wrap .i64 ((i:Int) - 1)=((i - 1:Nat):Int):=by rw [w64_eq (by omega) (by omega)]; omega
            have hb:=hprev (i - 1) n.Fibers[i - 1] (by omega) hp
            unfold fibBad at hb
            simp only [Bool.or_eq_false_iff] at hb
            obtain ⟨r,r1,r2⟩:=p_before n.Fibers[i - 1] x n.Nodes.length (by omega) (fib1_ok hb.1) (fib1_ok h1)
            simp only [hi',cond_true,hw,geti_nat,hp,Option.bind_some,r1,r2,hi,decide_true,Bool.true_and]
            cases decide (0 < cmpF n.Fibers[i - 1] x) <;> rfl
          · have hi':decide ((0:Int) < (i:Int))=false:=by simp; omega
            simp [hi',hi]) (by simp [M_ab]) (by omega)]
       cases anyI (fibBad n) n.Fibers <;> rfl
   · simp [h14]
 · simp [hw]
end Vs

namespace Vs
open Go
theorem netOk_b {n:TNetwork} (h:netOk n=true):2≤n.Nodes.length∧n.Nodes.length≤8∧n.Fibers.length≤14:=by
 unfold netOk at h
 simp only [Bool.and_eq_true,decide_eq_true_eq,wi_iff] at h
 omega
theorem netOk_fib {n:TNetwork} (h:netOk n=true) {i:Nat} {f:TFiber} (hf:n.Fibers[i]?=some f):FibOk n.Nodes.length f:=by
 unfold netOk at h
 simp only [Bool.and_eq_true,Bool.not_eq_true'] at h
 have:=anyI_false.1 h.1.1.2 i f hf
 unfold fibBad at this
 simp only [Bool.or_eq_false_iff] at this
 exact fib1_ok this.1
def idxs (r:Int):Nat→List TFiber→List Int
 | _,[]=>[]
 | i,f::fs=>if f.Risk=r then (i:Int)::idxs r (i+1) fs else idxs r (i+1) fs
theorem idxs_cons (r:Int) (i:Nat) (f:TFiber) (fs:List TFiber):idxs r i (f::fs)=if f.Risk=r then (i:Int)::idxs r (i+1) fs else idxs r (i+1) fs:=rfl
theorem idxs_len (r:Int):∀ (fs:List TFiber) (i:Nat),(idxs r i fs).length≤fs.length
 | [],i=>by simp [idxs]
 | f :: fs, i => by
   have:=idxs_len r fs (i+1)
   rw [idxs_cons]; split <;> simp <;> omega
theorem idxs_mem (r:Int):∀ (fs:List TFiber) (i:Nat) (x:Int),x∈idxs r i fs↔∃ j f,fs[j]?=some f∧f.Risk=r∧x=((i+j:Nat):Int)
 | [],i,x=>by simp [idxs]
 | f :: fs, i, x => by
   have ih:=idxs_mem r fs (i+1) x
   have step:(∃ j g,(f::fs)[j]?=some g∧g.Risk=r∧x=((i+j:Nat):Int))↔(f.Risk=r∧x=(i:Int))∨∃ j g,fs[j]?=some g∧g.Risk=r∧x=((i+1+j:Nat):Int):=by
    constructor
    · rintro ⟨j,g,h1,h2,h3⟩
      cases j with
      | zero=>simp at h1; subst h1; exact .inl ⟨h2,h3⟩
      | succ j=>exact .inr ⟨j,g,by simpa using h1,h2,by rw [h3]; congr 1; omega⟩
    · rintro (⟨h1,h2⟩ | ⟨j,g,h1,h2,h3⟩)
      · exact ⟨0,f,rfl,h1,h2⟩
      · exact ⟨j+1,g,by simpa using h1,h2,by rw [h3]; congr 1; omega⟩
   rw [step,← ih]
   rw [idxs_cons]
   split
   · rename_i h; simp [h]
   · rename_i h; simp [h]
theorem idxs_fold (r:Int):∀ (fs:List TFiber) (i:Nat) (acc:List Int),walkL (fun i (f:TFiber) (a:List Int)=>(.inl (if f.Risk=r then a++[(i:Int)] else a):List Int ⊕ List Int)) (fun a=>a) i fs acc=acc++idxs r i fs
 | [],i,acc=>by simp [walkL,idxs]
 | f :: fs, i, acc => by
   simp only [walkL]
   rw [idxs_fold r fs (i+1)]
   rw [idxs_cons]
   split <;> simp
def risks:List Int:=[1,2,3,4,5,6,7,8,9]
def groupsP (n:TNetwork):List (List Int):=((risks.map fun r=>idxs r 0 n.Fibers).filter fun l=>decide (0 < l.length))++(idxs 0 0 n.Fibers).map fun i=>[i]
theorem groupsP_len (n:TNetwork) (h:n.Fibers.length≤14):(groupsP n).length≤23:=by
 have:=idxs_len 0 n.Fibers 0
 have h2:=List.length_filter_le (fun l:List Int=>decide (0 < l.length)) (risks.map fun r=>idxs r 0 n.Fibers)
 have h3:(risks.map fun r=>idxs r 0 n.Fibers).length=9:=rfl
 unfold groupsP
 simp only [List.length_append,List.length_map]
 omega
theorem idx_loop {f:Int×List Int→Option ((Int×List Int) ⊕ List Int)} (fs:List TFiber) (r:Int) (hl:fs.length≤1048576)
 (h1:∀ (i:Nat) x (a:List Int),fs[i]?=some x→a.length≤i→f ((i:Int),a)=some (.inl (((i+1:Nat):Int),if x.Risk=r then a++[(i:Int)] else a)))
 (h2:∀ a,f ((fs.length:Int),a)=some (.inr a)):iter f N0 (0,[])=some (idxs r 0 fs):=by
 have:=iter_list (f:=f) fs (fun i (a:List Int)=>((i:Int),a)) (fun i x a=>.inl (if x.Risk=r then a++[(i:Int)] else a)) (fun a=>a) (fun i a=>a.length≤i) (fun i a x hx hI=>by
  refine .inl ⟨_,rfl,?_,h1 i x a hx hI⟩
  split <;> first | omega | (simp only [List.length_append,List.length_cons,List.length_nil]; omega)) (fun a _=>h2 a) [] (by simp) (by omega)
 rw [show iter f N0 (0,[])=_ from this,idxs_fold]; rfl
theorem app_loop {f:Int×List (List Int)→Option ((Int×List (List Int)) ⊕ List (List Int))} (fs:List TFiber) (G:List (List Int)) (hl:fs.length≤1048576) (hG:G.length≤100)
 (h1:∀ (i:Nat) x (a:List (List Int)),fs[i]?=some x→a.length≤100+i→f ((i:Int),a)=some (.inl (((i+1:Nat):Int),if x.Risk=0 then a++[[(i:Int)]] else a)))
 (h2:∀ a,f ((fs.length:Int),a)=some (.inr a)):iter f N0 (0,G)=some (G++(idxs 0 0 fs).map fun i=>[i]):=by
 have:=iter_list (f:=f) fs (fun i (a:List (List Int))=>((i:Int),a)) (fun i x a=>.inl (if x.Risk=0 then a++[[(i:Int)]] else a)) (fun a=>a) (fun i a=>a.length≤100+i) (fun i a x hx hI=>by
  refine .inl ⟨_,rfl,?_,h1 i x a hx hI⟩
  split <;> first | omega | (simp only [List.length_append,List.length_cons,List.length_nil]; omega)) (fun a _=>h2 a) G (by omega) (by omega)
 rw [show iter f N0 (0,G)=_ from this]
 have gen:∀ (fs:List TFiber) (i:Nat) (acc:List (List Int)),walkL (fun i (f:TFiber) (a:List (List Int))=>(.inl (if f.Risk=0 then a++[[(i:Int)]] else a):List (List Int) ⊕ List (List Int))) (fun a=>a) i fs acc=acc++(idxs 0 i fs).map fun i=>[i]:=by
  intro fs
  induction fs with
  | nil=>intro i acc; simp [walkL,idxs]
  | cons f fs ih =>
    intro i acc
    simp only [walkL]
    rw [ih (i+1)]
    rw [idxs_cons]
    split <;> simp
 rw [gen]
theorem risk_loop {f:Int×List (List Int)→Option ((Int×List (List Int)) ⊕ List (List Int))} (fs:List TFiber)
 (h1:∀ (r:Int) (a:List (List Int)),1≤r→r≤9→a.length≤10→f (r,a)=some (.inl (r+1,if 0 < (idxs r 0 fs).length then a++[idxs r 0 fs] else a)))
 (h2:∀ a,f (10,a)=some (.inr a)):iter f N0 (1,[])=some ((risks.map fun r=>idxs r 0 fs).filter fun l=>decide (0 < l.length)):=by
 have:=iter_list (f:=f) risks (fun i (a:List (List Int))=>((i:Int)+1,a)) (fun i r a=>.inl (if 0 < (idxs r 0 fs).length then a++[idxs r 0 fs] else a)) (fun a=>a) (fun i a=>a.length≤i) (fun i a r hr hI=>by
  have hi:i < 9:=by have:=(List.getElem?_eq_some_iff.1 hr).1; simpa [risks] using this
  have e:(i:Int)+1=r:=by
   rcases i with _ | _ | _ | _ | _ | _ | _ | _ | _ | i <;> first | (simp [risks] at hr; omega) | omega
  refine .inl ⟨_,rfl,?_,?_⟩
  · split <;> first | omega | (simp only [List.length_append,List.length_cons,List.length_nil]; omega)
  · rw [e,h1 r a (by omega) (by omega) (by omega)]
    have:((i+1:Nat):Int)+1=r+1:=by omega
    rw [this]) (fun a _=>by have:=h2 a; simpa [risks] using this) [] (by simp) (by simp [risks])
 rw [show iter f N0 (1,[])=_ from this]
 have gen:∀ (rs:List Int) (i:Nat) (acc:List (List Int)),walkL (fun (_:Nat) (r:Int) (a:List (List Int))=>(.inl (if 0 < (idxs r 0 fs).length then a++[idxs r 0 fs] else a):List (List Int) ⊕ List (List Int))) (fun a=>a) i rs acc =
  acc++(rs.map fun r=>idxs r 0 fs).filter fun l=>decide (0 < l.length):=by
  intro rs
  induction rs with
  | nil=>intro i acc; simp [walkL]
  | cons r rs ih =>
    intro i acc
    simp only [walkL]
    rw [ih (i+1),List.map_cons,List.filter_cons]
    by_cases h:0 < (idxs r 0 fs).length
    · simp [h]
    · simp [h]
 rw [gen]; rfl
theorem p_groups (n:TNetwork) (h:n.Fibers.length≤14):M_do n=some (groupsP n):=by
 unfold M_do
 rw [risk_loop (f:=M_j n) n.Fibers (fun r a hr1 hr9 ha=>by
  have e1:decide (r≤9)=true:=by simp [hr9]
  simp only [M_j,e1,cond_true]
  rw [idx_loop (f:=M_k n (r,a)) n.Fibers r (by omega) (fun i x b hx hb=>by
   have hlt:=(List.getElem?_eq_some_iff.1 hx).1
   have e1:decide ((i:Int) < n.Fibers.length)=true:=by simp [hlt]
   simp only [M_k,e1,cond_true,geti_nat,hx,Option.bind_some,bnd]
   rw [grd_t (by omega),w64_eq (by omega) (by omega)]
   by_cases e:x.Risk=r
   · simp [e]
   · simp [e,cond_ite]) (fun a=>by simp [M_k])]
  simp only [Option.bind_some,bnd]
  rw [grd_t (by omega),w64_eq (by omega) (by omega)]
  by_cases e:0 < (idxs r 0 n.Fibers).length
  · have e':decide ((0:Int) < ((idxs r 0 n.Fibers).length:Int))=true:=by simpa using e
    simp only [e',cond_true,if_pos e,Option.bind_some]
  · have e':decide ((0:Int) < ((idxs r 0 n.Fibers).length:Int))=false:=by simpa using e
    simp only [e',cond_false,if_neg e]) (fun a=>by simp [M_j])]
 simp only [Option.bind_some]
 have hl:=List.length_filter_le (fun l:List Int=>decide (0 < l.length)) (risks.map fun r=>idxs r 0 n.Fibers)
 have hl9:(risks.map fun r=>idxs r 0 n.Fibers).length=9:=rfl
 rw [app_loop (f:=M_l n) n.Fibers _ (by omega) (by omega) (fun i x a hx ha=>by
  have hlt:=(List.getElem?_eq_some_iff.1 hx).1
  have e1:decide ((i:Int) < n.Fibers.length)=true:=by simp [hlt]
  simp only [M_l,e1,cond_true,geti_nat,hx,Option.bind_some,bnd]
  rw [grd_t (by omega),w64_eq (by omega) (by omega)]
  by_cases e:x.Risk=0
  · simp [e]
  · simp [e,cond_ite]) (fun a=>by simp [M_l])]
 rfl
theorem p_l2Group (n:TNetwork) (h:n.Fibers.length≤14) (i:Nat) (f:TFiber) (hf:n.Fibers[i]?=some f) (hr:f.Risk ≠ 0):M_cc n (i:Int)=some (idxs f.Risk 0 n.Fibers):=by
 unfold M_cc
 have e:(f.Risk==0)=false:=by simpa using hr
 simp only [geti_nat,hf,Option.bind_some,e,cond_false]
 rw [idx_loop (f:=M_m n (i:Int)) n.Fibers f.Risk (by omega) (fun j x b hx hb=>by
  have hlt:=(List.getElem?_eq_some_iff.1 hx).1
  have e1:decide ((j:Int) < n.Fibers.length)=true:=by simp [hlt]
  simp only [M_m,e1,cond_true,geti_nat,hx,hf,Option.bind_some,bnd]
  rw [grd_t (by omega),w64_eq (by omega) (by omega)]
  by_cases e:x.Risk=f.Risk
  · simp [e]
  · simp [e,cond_ite]) (fun a=>by simp [M_m])]
 rfl
end Vs

namespace Vs
open Go
theorem idxs_rng {r:Int} {fs:List TFiber} (h:fs.length≤14):∀ x∈idxs r 0 fs,0≤x∧x < 14:=by
 intro x hx
 obtain ⟨j,f,hj,_,rfl⟩:=(idxs_mem r fs 0 x).1 hx
 have:=(List.getElem?_eq_some_iff.1 hj).1
 omega
theorem groups_rng {n:TNetwork} (h:n.Fibers.length≤14):∀ g∈groupsP n,g.length≤14∧∀ x∈g,0≤x∧x < 14:=by
 intro g hg
 unfold groupsP at hg
 rw [List.mem_append] at hg
 rcases hg with hg | hg
 · obtain ⟨r,_,rfl⟩:=List.mem_map.1 (List.mem_filter.1 hg).1
   exact ⟨Nat.le_trans (idxs_len ..) h,idxs_rng h⟩
 · obtain ⟨x,hx,rfl⟩:=List.mem_map.1 hg
   exact ⟨by simp,fun y hy=>by rw [List.mem_singleton.1 hy]; exact idxs_rng h x hx⟩
theorem net_ends {n:TNetwork} (h:netOk n=true):∀ f∈n.Fibers,f.A < n.Nodes.length∧f.B < n.Nodes.length:=by
 intro f hf
 obtain ⟨i,hi⟩:=List.getElem?_of_mem hf
 obtain ⟨h1,h2,h3⟩:=netOk_fib h hi
 omega
def riskI (n:TNetwork) (e:Int):Int:=match n.Fibers[e.toNat]? with | some f=>f.Risk | none=>0
def grpI (n:TNetwork) (e:Int):List Int:=if riskI n e=0 then [e] else idxs (riskI n e) 0 n.Fibers
def sameG (n:TNetwork) (x y:Int):Prop:=x=y∨(riskI n x ≠ 0∧riskI n x=riskI n y)
def fibI (n:TNetwork) (e:Int):Prop:=0≤e∧e < (n.Fibers.length:Int)
theorem fibI_at {n:TNetwork} {e:Int} (h:fibI n e):∃ f,n.Fibers[e.toNat]?=some f∧riskI n e=f.Risk:=by
 have hlt:e.toNat < n.Fibers.length:=by have:=h.1; have:=h.2; omega
 refine ⟨_,List.getElem?_eq_getElem hlt,?_⟩
 unfold riskI; rw [List.getElem?_eq_getElem hlt]
theorem idxs_I {n:TNetwork} {r x:Int}:x∈idxs r 0 n.Fibers↔fibI n x∧riskI n x=r:=by
 rw [idxs_mem]
 constructor
 · rintro ⟨j,f,h1,h2,rfl⟩
   have:=(List.getElem?_eq_some_iff.1 h1).1
   refine ⟨⟨by omega,by omega⟩,?_⟩
   unfold riskI
   rw [show ((0+j:Nat):Int).toNat=j by omega,h1]; exact h2
 · rintro ⟨h,hr⟩
   obtain ⟨f,h1,h2⟩:=fibI_at h
   exact ⟨x.toNat,f,h1,by rw [← h2]; exact hr,by have:=h.1; omega⟩
theorem grpI_mem {n:TNetwork} {x y:Int} (hy:fibI n y):y∈grpI n x↔sameG n x y:=by
 unfold grpI sameG
 by_cases h:riskI n x=0
 · rw [if_pos h,List.mem_singleton]
   exact ⟨fun e=>.inl e.symm,fun e=>e.elim Eq.symm fun q=>(q.1 h).elim⟩
 · rw [if_neg h,idxs_I]
   constructor
   · exact fun q=>.inr ⟨h,q.2.symm⟩
   · rintro (rfl | q)
     · exact ⟨hy,rfl⟩
     · exact ⟨hy,q.2.symm⟩
theorem group_same {n:TNetwork} {g:List Int} (hg:g∈groupsP n) {x y:Int} (hx:x∈g) (hfx:fibI n x) (hfy:fibI n y):y∈g↔sameG n x y:=by
 unfold groupsP at hg
 rw [List.mem_append] at hg
 rcases hg with hg | hg
 · obtain ⟨h1,_⟩:=List.mem_filter.1 hg
   obtain ⟨r,hr,rfl⟩:=List.mem_map.1 h1
   have hr0:r ≠ 0:=by unfold risks at hr; simp at hr; omega
   rw [idxs_I] at hx ⊢
   unfold sameG
   constructor
   · exact fun q=>.inr ⟨by rw [hx.2]; exact hr0,by rw [hx.2,q.2]⟩
   · rintro (rfl | q)
     · exact hx
     · exact ⟨hfy,by rw [← q.2,hx.2]⟩
 · obtain ⟨z,hz,rfl⟩:=List.mem_map.1 hg
   rw [List.mem_singleton] at hx ⊢
   subst hx
   have h0:=(idxs_I.1 hz).2
   unfold sameG
   exact ⟨fun e=>.inl e.symm,fun e=>e.elim Eq.symm fun q=>(q.1 h0).elim⟩
theorem group_ex {n:TNetwork} (h:netOk n=true) {x:Int} (hx:fibI n x):∃ g∈groupsP n,x∈g:=by
 obtain ⟨f,h1,h2⟩:=fibI_at hx
 have hf:=netOk_fib h h1
 obtain ⟨_,_,_,_,_,_,_⟩:=hf
 unfold groupsP
 by_cases h0:riskI n x=0
 · exact ⟨[x],List.mem_append_right _ (List.mem_map.2 ⟨x,idxs_I.2 ⟨hx,h0⟩,rfl⟩),by simp⟩
 · have hm:x∈idxs (riskI n x) 0 n.Fibers:=idxs_I.2 ⟨hx,rfl⟩
   refine ⟨_,List.mem_append_left _ (List.mem_filter.2 ⟨List.mem_map.2 ⟨riskI n x,?_,rfl⟩,by simpa using List.length_pos_of_mem hm⟩),hm⟩
   unfold risks
   rw [h2] at h0 ⊢
   simp only [List.mem_cons,List.not_mem_nil,or_false]
   omega
def gofI (n:TNetwork) (e:Int):Int:=match findI (fun _ (g:List Int)=>decide (e∈g)) (groupsP n) with | some q=>(q.1:Int) | none=>-1
theorem gof_same {n:TNetwork} (h:netOk n=true) {x y:Int} (hx:fibI n x) (hy:fibI n y):gofI n x=gofI n y↔sameG n x y:=by
 obtain ⟨g,hg,hm⟩:=group_ex h hx
 constructor
 · intro e
   unfold gofI at e
   cases hf:findI (fun _ (g:List Int)=>decide (x∈g)) (groupsP n) with
   | none =>
     obtain ⟨i,hi⟩:=List.getElem?_of_mem hg
     have:=findI_none.1 hf i g hi
     simp [hm] at this
   | some q =>
     obtain ⟨i,gx⟩:=q
     obtain ⟨k1,k2,_⟩:=findI_some.1 hf
     rw [hf] at e
     cases hf2:findI (fun _ (g:List Int)=>decide (y∈g)) (groupsP n) with
     | none=>rw [hf2] at e; simp only at e; omega
     | some q2 =>
       obtain ⟨j,gy⟩:=q2
       obtain ⟨m1,m2,_⟩:=findI_some.1 hf2
       rw [hf2] at e
       have hij:i=j:=by simp only at e; omega
       subst hij
       rw [k1] at m1
       cases m1
       exact (group_same (List.mem_of_getElem? k1) (by simpa using k2) hx hy).1 (by simpa using m2)
 · intro e
   have e':sameG n y x:=e.elim (fun q=>.inl q.symm) fun q=>.inr ⟨by rw [← q.2]; exact q.1,q.2.symm⟩
   have key:∀ g∈groupsP n,(x∈g↔y∈g):=fun g hg=>⟨fun q=>(group_same hg q hx hy).2 e,fun q=>(group_same hg q hy hx).2 e'⟩
   have:findI (fun _ (g:List Int)=>decide (y∈g)) (groupsP n)=findI (fun _ (g:List Int)=>decide (x∈g)) (groupsP n):=by
    cases hf:findI (fun _ (g:List Int)=>decide (x∈g)) (groupsP n) with
    | none =>
      rw [findI_none] at hf ⊢
      intro i z hz
      have:=hf i z hz
      simp only [decide_eq_false_iff_not] at this ⊢
      exact fun q=>this ((key z (List.mem_of_getElem? hz)).2 q)
    | some q =>
      obtain ⟨i,gx⟩:=q
      rw [findI_some] at hf ⊢
      obtain ⟨k1,k2,k3⟩:=hf
      simp only [decide_eq_true_eq,decide_eq_false_iff_not] at k2 k3 ⊢
      exact ⟨k1,(key gx (List.mem_of_getElem? k1)).1 k2,fun j z hj hz q=>k3 j z hj hz ((key z (List.mem_of_getElem? hz)).2 q)⟩
   unfold gofI
   rw [this]
def apP (n:TNetwork) (a b:List Int):Bool:=!a.any fun x=>b.any fun y=>decide (y∈grpI n x)
theorem apart_sep {n:TNetwork} (h:netOk n=true) {a b:List Int} (ha:∀ x∈a,fibI n x) (hb:∀ x∈b,fibI n x):(!(a.map (gofI n)).any fun x=>decide (x∈b.map (gofI n)))=apP n a b:=by
 unfold apP
 congr 1
 rw [Bool.eq_iff_iff]
 simp only [List.any_eq_true,List.mem_map,decide_eq_true_eq]
 constructor
 · rintro ⟨_,⟨x,hx,rfl⟩,y,hy,e⟩
   exact ⟨x,hx,y,hy,(grpI_mem (hb y hy)).2 ((gof_same h (ha x hx) (hb y hy)).1 e.symm)⟩
 · rintro ⟨x,hx,y,hy,e⟩
   exact ⟨_,⟨x,hx,rfl⟩,y,hy,((gof_same h (ha x hx) (hb y hy)).2 ((grpI_mem (hb y hy)).1 e)).symm⟩
end Vs

namespace Vs
open Go
def otherP (f:TFiber) (v:Int):Int:=if v=f.A then f.B else if v=f.B then f.A else -1
def othI (n:TNetwork) (e v:Int):Int:=match n.Fibers[e.toNat]? with | some f=>otherP f v | none=>-1
end Vs

namespace Vs
open Go
theorem p_l1Has (l:List Int) (x:Int) (hl:l.length≤1048576):M_bl l x=some (l.any fun y=>y==x):=by
 unfold M_bl
 rw [iter_any (f:=M_t l x) l (fun y=>y==x) (.inr true) (.inl ()) (fun i y hy=>by
  have hlt:=(List.getElem?_eq_some_iff.1 hy).1
  have h1:decide ((i:Int) < l.length)=true:=by simp [hlt]
  simp only [M_t,h1,cond_true,geti_nat,hy,Option.bind_some]
  rw [w64_eq (by omega) (by omega)]
  cases y==x <;> rfl) (by simp [M_t]) (by omega)]
 cases l.any fun y=>y==x <;> rfl
theorem geti_fib {n:TNetwork} {e:Int} (h:wi e 0 ((n.Fibers.length:Int) - 1)=true):∃ f,geti n.Fibers e=some f∧n.Fibers[e.toNat]?=some f:=by
 rw [wi_iff] at h
 have hlt:e.toNat < n.Fibers.length:=by omega
 refine ⟨n.Fibers[e.toNat],?_,List.getElem?_eq_getElem hlt⟩
 have h3:=geti_nat n.Fibers e.toNat
 rw [Int.toNat_of_nonneg h.1] at h3
 rw [h3]
 exact List.getElem?_eq_getElem hlt
theorem p_l2Other (n:TNetwork) (e v:Int) (h:wi e 0 ((n.Fibers.length:Int) - 1)=true):M_dd n e v=some (othI n e v):=by
 obtain ⟨f,h1,h2⟩:=geti_fib h
 unfold M_dd othI otherP
 rw [h1,h2]
 simp only [Option.bind_some]
 by_cases a:v=f.A
 · rw [show (v==f.A)=true from by simpa using a,cond_true,if_pos a]
 · rw [show (v==f.A)=false from by simpa using a,cond_false,if_neg a]
   by_cases b:v=f.B
   · rw [show (v==f.B)=true from by simpa using b,cond_true,if_pos b]
   · rw [show (v==f.B)=false from by simpa using b,cond_false,if_neg b]
end Vs

namespace Vs
open Go
theorem p_ContI (xs:List Int) (v:Int) (hl:xs.length≤1048576):M_bo xs v=some (decide (v∈xs)):=by
 unfold M_bo M_ew
 rw [iter_findI (f:=M_av xs v) xs (fun _ x=>v==x) (fun i _=>(i:Int)) () (fun i x hx _=>by
  have hlt:=(List.getElem?_eq_some_iff.1 hx).1
  have h1:decide ((i:Int) < xs.length)=true:=by simp [hlt]
  simp only [M_av,h1,cond_true,geti_nat,hx,Option.bind_some]
  rw [w64_eq (by omega) (by omega)]
  cases v==x <;> rfl) (by simp [M_av]) (by omega)]
 cases e:findI (fun _ x=>v==x) xs with
 | none =>
   have:=findI_none.1 e
   have h:¬ v∈xs:=fun hm=>by
    obtain ⟨i,hi⟩:=List.getElem?_of_mem hm
    have:=this i v hi
    simp at this
   rw [decide_eq_false h]; rfl
 | some q =>
   obtain ⟨i,x⟩:=q
   obtain ⟨h1,h2,_⟩:=findI_some.1 e
   have h:v∈xs:=by
    have:=eq_of_beq h2
    rw [this]; exact List.mem_of_getElem? h1
   rw [decide_eq_true h]; simp
theorem p_otherEnd (f:TFiber) (v:Int):M_ef f v=some (otherP f v):=by
 unfold M_ef otherP
 by_cases a:v=f.A
 · rw [show (v==f.A)=true from by simpa using a,cond_true,if_pos a]
 · rw [show (v==f.A)=false from by simpa using a,cond_false,if_neg a]
   by_cases b:v=f.B
   · rw [show (v==f.B)=true from by simpa using b,cond_true,if_pos b]
   · rw [show (v==f.B)=false from by simpa using b,cond_false,if_neg b]
theorem any_mem (l:List Int) (e:Int):decide (e∈l)=l.any fun x=>x==e:=by
 rw [Bool.eq_iff_iff,decide_eq_true_iff,List.any_eq_true]
 constructor
 · intro h; exact ⟨e,h,by simp⟩
 · rintro ⟨x,hx,he⟩; rw [← eq_of_beq he]; exact hx
end Vs

namespace Vs
open Go
theorem walkL_rel {α A B C:Type} (s1:Nat→α→A→A ⊕ B) (s2:Nat→α→A→A ⊕ C) (f1:A→B) (f2:A→C) (R:B→C→Prop) (h:∀ i x a,(∃ a',s1 i x a=.inl a'∧s2 i x a=.inl a')∨∃ b c,s1 i x a=.inr b∧s2 i x a=.inr c∧R b c) (hf:∀ a,R (f1 a) (f2 a)) :
 ∀ (xs:List α) (i:Nat) (a:A),R (walkL s1 f1 i xs a) (walkL s2 f2 i xs a)
 | [],_,a=>hf a
 | x :: xs, i, a => by
   simp only [walkL]
   rcases h i x a with ⟨a',h1,h2⟩ | ⟨b,c,h1,h2,h3⟩
   · rw [h1,h2]; exact walkL_rel s1 s2 f1 f2 R h hf xs (i+1) a'
   · rw [h1,h2]; exact h3
def visB (n:TNetwork) (e:Int) (a:Int×List Int):Bool:=!wi e 0 ((n.Fibers.length:Int) - 1)||decide (othI n e a.1 < 0)||decide (othI n e a.1∈a.2)
def visS (n:TNetwork) (_:Nat) (e:Int) (a:Int×List Int):(Int×List Int) ⊕ Option (List Int):=if visB n e a then .inr none else .inl (othI n e a.1,a.2++[othI n e a.1])
def visP (n:TNetwork) (r:TRoute):Option (List Int):=if !wi r.Start 0 ((n.Nodes.length:Int) - 1)||decide (r.Fibers.length=0) then none else walkL (visS n) (fun a=>some a.2) 0 r.Fibers (r.Start,[r.Start])
def visI (n:TNetwork) (_:Nat) (e:Int) (a:Int×List Int):(Int×List Int) ⊕ ((List Int) ⊕ (List Int×Bool)):=if visB n e a then .inr (.inr ([],false)) else .inl (othI n e a.1,a.2++[othI n e a.1])
def visK (n:TNetwork) (_:Nat) (e:Int) (a:Int×List Int):(Int×List Int) ⊕ ((List Int) ⊕ (List Int×Bool)):=if visB n e a then .inr (.inr (a.2,false)) else .inl (othI n e a.1,a.2++[othI n e a.1])
theorem len0 (l:List Int):((l.length:Int)==0)=decide (l.length=0):=by
 rw [Bool.eq_iff_iff]; simp
theorem p_visited (n:TNetwork) (r:TRoute) (hN:n.Nodes.length≤1048576) (hF:n.Fibers.length≤1048576) (hr:r.Fibers.length≤1048576):M_cg n r=some (match visP n r with | some l=>(l,true) | none=>([],false)):=by
 unfold M_cg visP
 simp only [p_within,Option.bind_some,len0]
 rw [w64_eq (n:=(n.Nodes.length:Int) - 1) (by omega) (by omega)]
 have hc:(cond (!wi r.Start 0 ((n.Nodes.length:Int) - 1)) (some true) (some (decide (r.Fibers.length=0))):Option Bool)=some (!wi r.Start 0 ((n.Nodes.length:Int) - 1)||decide (r.Fibers.length=0)):=by
  cases wi r.Start 0 ((n.Nodes.length:Int) - 1) <;> rfl
 rw [hc]
 simp only [Option.bind_some]
 rcases bt (!wi r.Start 0 ((n.Nodes.length:Int) - 1)||decide (r.Fibers.length=0)) with e | e
 · rw [e]; rfl
 rw [e]
 simp only [cond_false,bnd,Bool.false_eq_true,if_false]
 have key:=iter_list (f:=M_ac n r) r.Fibers (fun i (a:Int×List Int)=>(a.1,(i:Int),a.2)) (visI n) (fun a=>.inl a.2) (fun i a=>a.2.length=i+1) (fun i a x hx hI=>by
  have hlt:=(List.getElem?_eq_some_iff.1 hx).1
  have h1:decide ((i:Int) < r.Fibers.length)=true:=by simp [hlt]
  simp only [M_ac,h1,cond_true,geti_nat,hx,Option.bind_some,p_within]
  rw [w64_eq (n:=(n.Fibers.length:Int) - 1) (by omega) (by omega),w64_eq (n:=(i:Int)+1) (by omega) (by omega)]
  unfold visI visB
  rcases bt (wi x 0 ((n.Fibers.length:Int) - 1)) with e1 | e1
  · obtain ⟨f,f1,f2⟩:=geti_fib e1
    have ho:othI n x a.1=otherP f a.1:=by unfold othI; rw [f2]
    simp only [e1,Bool.not_true,cond_false,f1,Option.bind_some,p_otherEnd,← ho,p_ContI a.2 (othI n x a.1) (by omega),Bool.false_or]
    by_cases h3:othI n x a.1 < 0
    · exact .inr ⟨_,by simp [h3]; rfl,by simp [h3]⟩
    · by_cases h4:othI n x a.1∈a.2
      · exact .inr ⟨_,by simp [h4]; rfl,by simp [h3,h4]⟩
      · refine .inl ⟨(othI n x a.1,a.2++[othI n x a.1]),by simp [h3,h4],by simp [hI],?_⟩
        simp only [decide_eq_false h3,decide_eq_false h4,cond_false,Option.bind_some,bnd]
        rw [grd_t (by omega)]
        rfl
  · exact .inr ⟨_,by simp [e1]; rfl,by simp [e1]⟩) (fun a _=>by simp [M_ac]) (r.Start,[r.Start]) rfl (by omega)
 have e0:((0:Nat):Int)=0:=rfl
 simp only [e0] at key
 rw [key]
 have:=walkL_rel (visS n) (visI n) (fun a=>some a.2) (fun a=>(.inl a.2:(List Int) ⊕ (List Int×Bool))) (fun b c=>match b with | some l=>c=.inl l | none=>c=.inr ([],false)) (fun i x a=>by
  unfold visS visI
  cases visB n x a
  · exact .inl ⟨_,rfl,rfl⟩
  · exact .inr ⟨_,_,rfl,rfl,rfl⟩) (fun a=>rfl) r.Fibers 0 (r.Start,[r.Start])
 revert this
 generalize walkL (visI n) (fun a=>(.inl a.2:(List Int) ⊕ (List Int×Bool))) 0 r.Fibers (r.Start,[r.Start])=c
 cases walkL (visS n) (fun a=>some a.2) 0 r.Fibers (r.Start,[r.Start]) with
 | none=>intro h; rw [h]; rfl
 | some l=>intro h; rw [h]; rfl
theorem p_l4Walk (n:TNetwork) (r:TRoute) (hN:n.Nodes.length≤1048576) (hF:n.Fibers.length≤1048576) (hr:r.Fibers.length≤1048576):∃ o,M_ch n r=some (o,(visP n r).isSome)∧∀ l,visP n r=some l→o=l:=by
 unfold M_ch visP
 simp only [p_l1In,Option.bind_some,len0,bnd]
 rw [w64_eq (n:=(n.Nodes.length:Int) - 1) (by omega) (by omega)]
 have hc:(cond (!wi r.Start 0 ((n.Nodes.length:Int) - 1)) (some true) (some (decide (r.Fibers.length=0))):Option Bool)=some (!wi r.Start 0 ((n.Nodes.length:Int) - 1)||decide (r.Fibers.length=0)):=by
  cases wi r.Start 0 ((n.Nodes.length:Int) - 1) <;> rfl
 rw [hc]
 simp only [Option.bind_some]
 rcases bt (!wi r.Start 0 ((n.Nodes.length:Int) - 1)||decide (r.Fibers.length=0)) with e | e
 · rw [e]; exact ⟨[r.Start],rfl,fun l h=>by simp at h⟩
 rw [e]
 simp only [cond_false,Bool.false_eq_true,if_false]
 have key:=iter_list (f:=M_ad n r) r.Fibers (fun i (a:Int×List Int)=>((i:Int),a.2)) (visK n) (fun a=>.inl a.2) (fun i a=>a.2.length=i+1∧a.2[i]?=some a.1) (fun i a x hx hI=>by
  have hlt:=(List.getElem?_eq_some_iff.1 hx).1
  have h1:decide ((i:Int) < r.Fibers.length)=true:=by simp [hlt]
  simp only [M_ad,h1,cond_true,geti_nat,hx,Option.bind_some,p_l1In]
  have hl1:IntKind.wrap .i64 ((a.2.length:Int) - 1)=(i:Int):=by rw [w64_eq (by omega) (by omega)]; omega
  rw [w64_eq (n:=(n.Fibers.length:Int) - 1) (by omega) (by omega),w64_eq (n:=(i:Int)+1) (by omega) (by omega),hl1]
  unfold visK visB
  rcases bt (wi x 0 ((n.Fibers.length:Int) - 1)) with e1 | e1
  · simp only [e1,Bool.not_true,cond_false,Option.bind_some,Bool.false_or,Int.toNat_natCast,hI.2]
    rw [grd_t (by omega)]
    simp only [Option.bind_some,p_l2Other n x a.1 e1,p_l1Has a.2 (othI n x a.1) (by omega)]
    have hm:(a.2.any fun y=>y==othI n x a.1)=decide (othI n x a.1∈a.2):=by
     rw [Bool.eq_iff_iff]; simp
    rw [hm]
    by_cases h3:othI n x a.1 < 0
    · exact .inr ⟨_,by simp [h3]; rfl,by simp [h3]⟩
    · by_cases h4:othI n x a.1∈a.2
      · exact .inr ⟨_,by simp [h4]; rfl,by simp [h3,h4]⟩
      · refine .inl ⟨(othI n x a.1,a.2++[othI n x a.1]),by simp [h3,h4],⟨by simp [hI.1],by rw [← hI.1]; simp⟩,?_⟩
        simp only [decide_eq_false h3,decide_eq_false h4,cond_false,Option.bind_some]
        rw [grd_t (by omega)]
        rfl
  · exact .inr ⟨_,by simp [e1]; rfl,by simp [e1]⟩) (fun a _=>by simp [M_ad]) (r.Start,[r.Start]) ⟨rfl,rfl⟩ (by omega)
 have e0:((0:Nat):Int)=0:=rfl
 simp only [e0] at key
 rw [key]
 have:=walkL_rel (visS n) (visK n) (fun a=>some a.2) (fun a=>(.inl a.2:(List Int) ⊕ (List Int×Bool))) (fun b c=>match b with | some l=>c=.inl l | none=>∃ o,c=.inr (o,false)) (fun i x a=>by
  unfold visS visK
  cases visB n x a
  · exact .inl ⟨_,rfl,rfl⟩
  · exact .inr ⟨_,_,rfl,rfl,_,rfl⟩) (fun a=>rfl) r.Fibers 0 (r.Start,[r.Start])
 revert this
 generalize walkL (visK n) (fun a=>(.inl a.2:(List Int) ⊕ (List Int×Bool))) 0 r.Fibers (r.Start,[r.Start])=c
 cases walkL (visS n) (fun a=>some a.2) 0 r.Fibers (r.Start,[r.Start]) with
 | none=>rintro ⟨o,h⟩; rw [h]; exact ⟨o,rfl,fun l h=>by cases h⟩
 | some l=>intro h; rw [h]; exact ⟨l,rfl,fun l' h=>by cases h; rfl⟩
def rteOk (n:TNetwork) (r:TRoute):Bool:=netOk n&&(visP n r).isSome
theorem p_l4Good (n:TNetwork) (r:TRoute) (hz:z_Network n≤1048576) (hr:r.Fibers.length≤1048576):M_bp n r=some (rteOk n r):=by
 obtain ⟨h1,h2,_⟩:=z_net hz
 unfold M_bp rteOk
 rw [p_l2Good n hz]
 simp only [Option.bind_some]
 rcases bt (netOk n) with e | e
 · obtain ⟨o,o1,_⟩:=p_l4Walk n r (by omega) (by omega) hr
   rw [e]
   simp only [Bool.not_true,cond_false,o1,Option.bind_some,Bool.true_and]
 · rw [e]; rfl
theorem vis_facts {n:TNetwork} (hE:∀ f∈n.Fibers,f.A < n.Nodes.length∧f.B < n.Nodes.length):∀ (xs:List Int) (i:Nat) (a:Int×List Int) (l:List Int),walkL (visS n) (fun a=>some a.2) i xs a=some l→a.2.Nodup→(∀ v∈a.2,0≤v∧v < (n.Nodes.length:Int))→a.1∈a.2 →
 l.Nodup∧(∀ v∈l,0≤v∧v < (n.Nodes.length:Int))∧l.length=a.2.length+xs.length∧(∀ e∈xs,0≤e∧e < (n.Fibers.length:Int))∧xs.Nodup∧∀ e∈xs,∀ f,n.Fibers[e.toNat]?=some f→¬ (f.A∈a.2∧f.B∈a.2)
 | [],_,a,l,h,hd,hv,_=>by simp only [walkL,Option.some.injEq] at h; subst h; exact ⟨hd,hv,by simp,by simp,by simp,by simp⟩
 | x :: xs, i, a, l, h, hd, hv, ha => by
   simp only [walkL,visS] at h
   rcases bt (visB n x a) with e | e
   · rw [e] at h; cases h
   · rw [e] at h
     simp only [Bool.false_eq_true,if_false] at h
     simp only [visB,Bool.or_eq_false_iff,Bool.not_eq_false',decide_eq_false_iff_not,wi_iff] at e
     obtain ⟨⟨e1,e2⟩,e3⟩:=e
     have hi:x.toNat < n.Fibers.length:=by omega
     have hf:=hE _ (List.getElem_mem hi)
     have hg:=List.getElem?_eq_getElem hi
     generalize n.Fibers[x.toNat]=f at hf hg
     have ho:othI n x a.1=otherP f a.1:=by unfold othI; rw [hg]
     have hend:(f.A=a.1∧f.B=othI n x a.1)∨(f.B=a.1∧f.A=othI n x a.1):=by
      rw [ho] at e2 ⊢
      unfold otherP at e2 ⊢
      split
      · rename_i h1; exact .inl ⟨h1.symm,rfl⟩
      · split
        · rename_i h1; exact .inr ⟨h1.symm,rfl⟩
        · rename_i h1 h2; simp [h1,h2] at e2
     have hlt:othI n x a.1 < n.Nodes.length:=by omega
     obtain ⟨g1,g2,g3,g4,g5,g6⟩:=vis_facts hE xs (i+1) _ l h (by
      rw [List.nodup_append]
      exact ⟨hd,by simp,fun u hu v hv=>by simp at hv; subst hv; intro e; subst e; exact e3 hu⟩) (fun v hv2=>by
      simp only [List.mem_append,List.mem_singleton] at hv2
      rcases hv2 with h | h
      · exact hv v h
      · subst h; exact ⟨by omega,hlt⟩) (by simp)
     refine ⟨g1,g2,by rw [g3]; simp; omega,fun e he=>?_,List.nodup_cons.2 ⟨fun hm=>?_,g5⟩,fun e he f' hf'=>?_⟩
     · rcases List.mem_cons.1 he with rfl | he
       · omega
       · exact g4 e he
     · refine g6 x hm f hg ?_
       simp only [List.mem_append,List.mem_singleton]
       rcases hend with ⟨h1,h2⟩ | ⟨h1,h2⟩
       · exact ⟨.inl (h1 ▸ ha),.inr h2⟩
       · exact ⟨.inr h2,.inl (h1 ▸ ha)⟩
     · rcases List.mem_cons.1 he with rfl | he
       · rw [hg] at hf'; cases hf'
         rcases hend with ⟨h1,h2⟩ | ⟨h1,h2⟩
         · exact fun h=>e3 (h2 ▸ h.2)
         · exact fun h=>e3 (h2 ▸ h.1)
       · exact fun h=>g6 e he f' hf' ⟨List.mem_append_left _ h.1,List.mem_append_left _ h.2⟩
theorem rte_facts {n:TNetwork} {r:TRoute} (hE:∀ f∈n.Fibers,f.A < n.Nodes.length∧f.B < n.Nodes.length) {l:List Int} (h:visP n r=some l):l.Nodup∧(∀ v∈l,0≤v∧v < (n.Nodes.length:Int))∧l.length=r.Fibers.length+1∧(∀ e∈r.Fibers,0≤e∧e < (n.Fibers.length:Int))∧r.Fibers.Nodup:=by
 unfold visP at h
 split at h
 · cases h
 · rename_i hc
   simp only [Bool.or_eq_true,Bool.not_eq_true',decide_eq_true_eq,not_or,Bool.not_eq_false,wi_iff] at hc
   obtain ⟨g1,g2,g3,g4,g5,_⟩:=vis_facts hE _ _ _ _ h (by simp) (fun v hv=>by simp at hv; subst hv; omega) (by simp)
   exact ⟨g1,g2,by rw [g3]; simp; omega,g4,g5⟩
theorem nodup_le:∀ (m:Nat) (l:List Int),l.Nodup→(∀ x∈l,0≤x∧x < (m:Int))→l.length≤m
 | 0, l, _, h => by
   cases l with
   | nil=>simp
   | cons x l=>have:=h x (by simp); omega
 | m + 1, l, hn, h => by
   by_cases hm:(m:Int)∈l
   · have:=nodup_le m (l.erase (m:Int)) (hn.erase _) (fun x hx=>by
      have h1:=(hn.mem_erase_iff).1 hx
      have:=h x h1.2
      have h3:=h1.1
      omega)
     rw [List.length_erase_of_mem hm] at this
     omega
   · have:=nodup_le m l hn (fun x hx=>by
      have:=h x hx
      have:x ≠ (m:Int):=fun e=>hm (e ▸ hx)
      omega)
     omega
end Vs

namespace Vs
open Go
def gz (l:List Int) (p:Nat):Int:=(l[p]?).getD 0
theorem gz_at {l:List Int} {p:Nat} (h:p < l.length):l[p]?=some (gz l p):=by
 unfold gz; rw [List.getElem?_eq_getElem h]; rfl
theorem gz_set {l:List Int} {p q:Nat} {x:Int} (h:p < l.length):gz (l.set p x) q=if q=p then x else gz l q:=by
 unfold gz
 rw [List.getElem?_set]
 by_cases e:p=q
 · rw [if_pos e,if_pos h,if_pos e.symm]; rfl
 · rw [if_neg e,if_neg (Ne.symm e)]
theorem p_Less (x y:Int):M_eg x y=some (decide (x < y)):=by
 unfold M_eg M_bj; simp
theorem perm_swap {l:List Int} {i j:Nat} (hi:i < l.length) (hj:j < l.length):((l.set i (gz l j)).set j (gz l i)).Perm l:=by
 by_cases e:i=j
 · subst e
   have:(l.set i (gz l i)).set i (gz l i)=l:=by
    apply List.ext_getElem?
    intro k
    rw [List.getElem?_set,List.getElem?_set]
    by_cases h:i=k
    · subst h; simp [hi]; unfold gz; rw [List.getElem?_eq_getElem hi]; rfl
    · simp [h]
   rw [this]
 · have g1:gz l j=l[j]:=by unfold gz; rw [List.getElem?_eq_getElem hj]; rfl
   have g2:gz l i=l[i]:=by unfold gz; rw [List.getElem?_eq_getElem hi]; rfl
   rw [g1,g2]
   exact List.set_set_perm hi hj
def SrtI (i j:Nat) (l:List Int):Prop:=(∀ p q,p < q→q≤i→p ≠ j→q ≠ j→gz l p≤gz l q)∧∀ q,j < q→q≤i→gz l j≤gz l q
def SrtB (n:Nat) (l:List Int):Prop:=∀ p q,p < q→q < n→gz l p≤gz l q
theorem p_sortL2 (n i:Nat) (l0:List Int) (hl:l0.length=n) (hn:n≤1048576) (hi:i < n) (hs:SrtB i l0) :
 ∃ l,iter (M_e 0) N0 ((i:Int),l0)=some l∧l.Perm l0∧SrtB (i+1) l:=by
 refine iter_inv (f:=M_e 0) (fun s=>∃ j:Nat,s.1=j∧j≤i∧s.2.length=n∧s.2.Perm l0∧SrtI i j s.2) (fun s=>s.1.toNat) (fun l=>l.Perm l0∧SrtB (i+1) l) (fun s hI=>?_) N0 ((i:Int),l0)
  ⟨i,rfl,Nat.le_refl _,hl,List.Perm.refl _,fun p q h1 h2 h3 h4=>hs p q h1 (by omega),fun q h1 h2=>by omega⟩ (N0_lt (by simp; omega))
 obtain ⟨j',l⟩:=s
 obtain ⟨j,rfl,hj,hll,hp,hA,hB⟩:=hI
 simp only at hll hp hA hB
 by_cases h0:0 < j
 · have e1:decide ((0:Int) < (j:Int))=true:=decide_eq_true (by omega)
   have ew:IntKind.wrap .i64 ((j:Int) - 1)=((j - 1:Nat):Int):=by rw [w64_eq (by omega) (by omega)]; omega
   have g1:l[j]?=some (gz l j):=gz_at (by omega)
   have g2:l[j - 1]?=some (gz l (j - 1)):=gz_at (by omega)
   have d1:grd (0≤(j:Int)∧(j:Int) < (l.length:Int))=some ():=grd_t (by omega)
   have d2:grd (0≤((j - 1:Nat):Int)∧((j - 1:Nat):Int) < (l.length:Int))=some ():=grd_t (by omega)
   by_cases hlt:gz l j < gz l (j - 1)
   · left
     have e2:decide (gz l j < gz l (j - 1))=true:=decide_eq_true hlt
     have g3:(l.set j (gz l (j - 1)))[j - 1]?=some (gz l (j - 1)):=by
      rw [List.getElem?_set,if_neg (by omega)]; exact g2
     refine ⟨(((j - 1:Nat):Int),(l.set j (gz l (j - 1))).set (j - 1) (gz l j)),?_,⟨j - 1,rfl,by omega,by simp [hll],?_,?_,?_⟩,?_⟩
     · simp only [M_e,e1,cond_true,Int.toNat_natCast,ew,d1,d2,g1,g2,p_Less,e2,Option.bind_some,bnd,g3]
     · exact (perm_swap (by omega) (by omega)).trans hp
     · intro p q h1 h2 h3 h4
       simp only at *
       rw [gz_set (by simp; omega),gz_set (by omega),gz_set (by simp; omega),gz_set (by omega),if_neg h3,if_neg h4]
       by_cases c1:p=j
       · rw [if_pos c1,if_neg (by omega)]; exact hA (j - 1) q (by omega) h2 (by omega) (by omega)
       · rw [if_neg c1]
         by_cases c2:q=j
         · rw [if_pos c2]; exact hA p (j - 1) (by omega) (by omega) c1 (by omega)
         · rw [if_neg c2]; exact hA p q h1 h2 c1 c2
     · intro q h1 h2
       simp only at *
       rw [gz_set (by simp; omega),if_pos rfl,gz_set (by simp; omega),if_neg (by omega),gz_set (by omega)]
       by_cases c2:q=j
       · rw [if_pos c2]; omega
       · rw [if_neg c2]; exact hB q (by omega) h2
     · simp only [Int.toNat_natCast]; omega
   · right
     have e2:decide (gz l j < gz l (j - 1))=false:=decide_eq_false hlt
     refine ⟨l,?_,hp,?_⟩
     · simp only [M_e,e1,cond_true,Int.toNat_natCast,ew,d1,d2,g1,g2,Option.bind_some,p_Less,e2,cond_false]
     · intro p q h1 h2
       by_cases c1:p=j
       · rw [c1]; exact hB q (by omega) (by omega)
       · by_cases c2:q=j
         · rw [c2]
           by_cases c3:p=j - 1
           · rw [c3]; omega
           · have:=hA p (j - 1) (by omega) (by omega) c1 (by omega); omega
         · exact hA p q h1 (by omega) c1 c2
 · right
   have e1:decide ((0:Int) < (j:Int))=false:=decide_eq_false (by omega)
   refine ⟨l,by simp only [M_e,e1,cond_false,Option.bind_some],hp,fun p q h1 h2=>?_⟩
   by_cases c1:p=j
   · rw [c1]; exact hB q (by omega) (by omega)
   · exact hA p q h1 (by omega) c1 (by omega)
theorem p_sortI (n:Nat) (xs:List Int) (hl:xs.length=n) (hn:n≤1048576):∃ l,M_eh 0 (n:Int) xs=some l∧l.Perm xs∧SrtB n l:=by
 unfold M_eh
 obtain ⟨l,h1,h2,h3⟩:=iter_inv (f:=M_q 0 (n:Int)) (fun s=>∃ i:Nat,s.1=i∧1≤i∧i≤n+1∧s.2.length=n∧s.2.Perm xs∧SrtB i s.2) (fun s=>n+1 - s.1.toNat) (fun l=>l.Perm xs∧SrtB n l) (fun s hI=>by
  obtain ⟨i',l⟩:=s
  obtain ⟨i,rfl,h0,hi,hll,hp,hs⟩:=hI
  simp only at hll hp hs
  by_cases h:i < n
  · left
    have e1:decide ((i:Int) < (n:Int))=true:=decide_eq_true (by omega)
    obtain ⟨l',g1,g2,g3⟩:=p_sortL2 n i l hll hn h hs
    refine ⟨(((i+1:Nat):Int),l'),?_,⟨i+1,rfl,by omega,by omega,by rw [g2.length_eq]; exact hll,g2.trans hp,g3⟩,by simp only [Int.toNat_natCast]; omega⟩
    simp only [M_q,e1,cond_true,g1,Option.bind_some]
    rw [w64_eq (by omega) (by omega)]; rfl
  · right
    have e1:decide ((i:Int) < (n:Int))=false:=decide_eq_false (by omega)
    exact ⟨l,by simp only [M_q,e1,cond_false],hp,fun p q h1 h2=>hs p q h1 (by omega)⟩) N0 (((1:Nat):Int),xs) ⟨1,rfl,by omega,by omega,hl,List.Perm.refl _,fun p q h1 h2=>by omega⟩ (N0_lt (by simp; omega))
 refine ⟨l,?_,h2,h3⟩
 have e:IntKind.wrap .i64 ((0:Int)+1)=((1:Nat):Int):=by rw [w64_eq (by omega) (by omega)]; rfl
 rw [e,h1]; rfl
theorem bitsLen12:∀ n:Fin 13,(M_ei (IntKind.wrap .u64 (n.val:Int))).isSome=true:=by decide +kernel
theorem p_SortI (xs:List Int) (h:xs.length≤12):∃ l,M_ej xs=some l∧l.Perm xs∧l.Pairwise (·≤·):=by
 obtain ⟨l,h1,h2,h3⟩:=p_sortI xs.length xs rfl (by omega)
 refine ⟨l,?_,h2,?_⟩
 · have hb:=bitsLen12 ⟨xs.length,by omega⟩
   simp only at hb
   unfold M_ej
   cases hx:M_ei (IntKind.wrap .u64 (xs.length:Int)) with
   | none=>rw [hx] at hb; cases hb
   | some r =>
     simp only [Option.bind_some]
     unfold M_ex
     have hN:N0=(N0 - 1)+1:=by unfold N0; omega
     rw [hN,iter]
     have e1:decide (IntKind.wrap .i64 ((xs.length:Int) - 0)≤12)=true:=by rw [w64_eq (by omega) (by omega)]; exact decide_eq_true (by omega)
     simp only [M_bb,e1,cond_true,h1,Option.bind_some]
 · rw [List.pairwise_iff_getElem]
   intro i j hi hj hij
   have:=h3 i j hij (by rw [← h2.length_eq]; exact hj)
   unfold gz at this
   rw [List.getElem?_eq_getElem hi,List.getElem?_eq_getElem hj] at this
   exact this
end Vs

namespace Vs
open Go
def comP (a gone:List Int):List Int:=a.filter fun x=>decide (x∈gone)
theorem walkL_fil1 (p:Int→Bool):∀ (xs:List Int) (i:Nat) (l:List Int),walkL (fun (_:Nat) (x:Int) (l:List Int)=>(.inl (if p x then l++[x] else l):List Int ⊕ List Int)) (fun l=>l) i xs l=l++xs.filter p
 | [],_,l=>by simp [walkL]
 | x :: xs, i, l => by
   simp only [walkL]
   rw [walkL_fil1 p xs (i+1)]
   by_cases h:p x=true
   · simp [h]
   · simp [h]
theorem p_comL (a gone:List Int) (ha:a.length≤1048576) (hg:gone.length≤1048576):iter (M_c a gone) N0 (0,[])=some (comP a gone):=by
 have key:=iter_list (f:=M_c a gone) a (fun i (l:List Int)=>((i:Int),l)) (fun _ x l=>.inl (if decide (x∈gone) then l++[x] else l)) (fun l=>l) (fun i l=>l.length≤i) (fun i l x hx hI=>by
  have hlt:=(List.getElem?_eq_some_iff.1 hx).1
  have h1:decide ((i:Int) < a.length)=true:=by simp [hlt]
  refine .inl ⟨_,rfl,by split <;> (try simp only [List.length_append,List.length_cons,List.length_nil]) <;> omega,?_⟩
  simp only [M_c,h1,cond_true,geti_nat,hx,Option.bind_some,p_ContI gone x hg,bnd]
  rw [w64_eq (n:=(i:Int)+1) (by omega) (by omega)]
  by_cases h:x∈gone
  · rw [decide_eq_true h,cond_true,grd_t (by omega),if_pos rfl]; rfl
  · rw [decide_eq_false h,cond_false,if_neg (by simp)]; rfl) (fun l _=>by simp [M_c]) [] (Nat.le_refl 0) (by omega)
 have e0:((0:Nat):Int)=0:=rfl
 simp only [e0] at key
 rw [key,walkL_fil1]
 rfl
def ddp (ys:List Int):Nat→List Int
 | 0=>[]
 | j+1=>if 0 < j∧ys[j]?=ys[j - 1]? then ddp ys j else ddp ys j++(ys[j]?).toList
theorem ddp_take (ys:List Int):∀ k,(∀ i,1≤i→i < k→ys[i]? ≠ ys[i - 1]?)→ddp ys k=ys.take k
 | 0,_=>by simp [ddp]
 | k + 1, h => by
   unfold ddp
   rw [if_neg (fun e=>h k (by omega) (by omega) e.2),ddp_take ys k (fun i h1 h2=>h i h1 (by omega)),List.take_add_one]
theorem take_set1 {l:List Int} {k:Nat} (y:Int) (h:k < l.length):(l.set k y).take (k+1)=l.take k++[y]:=by
 rw [List.take_add_one,List.getElem?_set_self h,List.take_set_of_le (Nat.le_refl k)]; rfl
theorem ddp_sorted {ys:List Int} (hs:ys.Pairwise (·≤·)):∀ j,j≤ys.length→(ddp ys j).Pairwise (· < ·)∧(∀ x∈ddp ys j,∀ y,ys[j - 1]?=some y→x≤y)∧∀ x,x∈ddp ys j↔x∈ys.take j
 | 0,_=>by simp [ddp]
 | j + 1, h => by
   obtain ⟨h1,h2,h3⟩:=ddp_sorted hs j (by omega)
   have hy:ys[j]?=some (ys[j]'(by omega)):=List.getElem?_eq_getElem (by omega)
   generalize ys[j]'(by omega)=y at hy
   unfold ddp
   rw [List.take_add_one,hy]
   by_cases c:0 < j∧some y=ys[j - 1]?
   · rw [if_pos c]
     refine ⟨h1,fun x hx z hz=>?_,fun x=>?_⟩
     · simp only [Nat.add_sub_cancel,hy,Option.some.injEq] at hz
       subst hz
       exact h2 x hx y c.2.symm
     · have hm:y∈ys.take j:=by
        rw [List.mem_take_iff_getElem]
        obtain ⟨q1,q2⟩:=List.getElem?_eq_some_iff.1 c.2.symm
        exact ⟨j - 1,by omega,q2⟩
       simp only [Option.toList_some,List.mem_append,List.mem_singleton,h3]
       exact ⟨.inl,fun q=>q.elim id fun e=>e ▸ hm⟩
   · rw [if_neg c]
     have hlt:∀ x∈ddp ys j,x < y:=fun x hx=>by
      by_cases hj:0 < j
      · have hz:ys[j - 1]?=some (ys[j - 1]'(by omega)):=List.getElem?_eq_getElem (by omega)
        have:=h2 x hx _ hz
        have h5:ys[j - 1]'(by omega)≤ys[j]'(by omega):=List.pairwise_iff_getElem.1 hs (j - 1) j (by omega) (by omega) (by omega)
        have h6:ys[j]'(by omega)=y:=(List.getElem?_eq_some_iff.1 hy).2
        have h7:ys[j - 1]'(by omega) ≠ y:=fun e=>c ⟨hj,by rw [hz,e]⟩
        omega
      · have:j=0:=by omega
        subst this; simp [ddp] at hx
     refine ⟨?_,fun x hx z hz=>?_,fun x=>?_⟩
     · rw [List.pairwise_append]
       exact ⟨h1,by simp,fun a ha b hb=>by simp at hb; subst hb; exact hlt a ha⟩
     · simp only [Nat.add_sub_cancel,hy,Option.some.injEq] at hz
       subst hz
       simp only [Option.toList_some,List.mem_append,List.mem_singleton] at hx
       rcases hx with hx | hx
       · have:=hlt x hx; omega
       · omega
     · simp only [List.mem_append,h3]
theorem p_CompL2 (ys:List Int) (hl:ys.length≤1048576) (k0:Nat) (h0:1≤k0) (hk:k0 < ys.length) (hd:ddp ys (k0+1)=ys.take k0) :
 ∃ (k:Nat) (l:List Int),iter (M_d 0 ys.length (k0:Int)) N0 ((k0:Int),1,ys)=some ((k:Int),l)∧l.length=ys.length∧k≤ys.length∧l.take k=ddp ys ys.length:=by
 obtain ⟨o,o1,o2⟩:=iter_inv (f:=M_d 0 ys.length (k0:Int)) (fun s=>∃ (k k2:Nat) (l:List Int),s=((k:Int),(k2:Int),l)∧1≤k2∧k0+k2≤ys.length∧l.length=ys.length∧k+1≤k0+k2∧(∀ p,k0+k2≤p+1→l[p]?=ys[p]?)∧l.take k=ddp ys (k0+k2))
  (fun s=>ys.length - s.2.1.toNat) (fun o=>∃ (k:Nat) (l:List Int),o=((k:Int),l)∧l.length=ys.length∧k≤ys.length∧l.take k=ddp ys ys.length) (fun s hI=>by
  obtain ⟨k,k2,l,rfl,i1,i2,i3,i4,i5,i6⟩:=hI
  by_cases hc:k0+k2 < ys.length
  · left
    have e1:decide ((k2:Int) < ((ys.length - k0:Nat):Int))=true:=decide_eq_true (by omega)
    have ew:IntKind.wrap .i64 ((k2:Int) - 1)=((k2 - 1:Nat):Int):=by rw [w64_eq (by omega) (by omega)]; omega
    have g1:l[0+k0+k2]?=some (ys[k0+k2]'hc):=by rw [Nat.zero_add,i5 _ (by omega)]; exact List.getElem?_eq_getElem hc
    have g2:l[0+k0+(k2 - 1)]?=some (ys[k0+k2 - 1]'(by omega)):=by
     rw [show 0+k0+(k2 - 1)=k0+k2 - 1 by omega,i5 _ (by omega)]; exact List.getElem?_eq_getElem (by omega)
    have g3:l[0+k]?=some (l[k]'(by omega)):=by rw [Nat.zero_add]; exact List.getElem?_eq_getElem (by omega)
    have hddp:ddp ys (k0+k2+1)=if ys[k0+k2]'hc=ys[k0+k2 - 1]'(by omega) then ddp ys (k0+k2) else ddp ys (k0+k2)++[ys[k0+k2]'hc]:=by
     rw [ddp,List.getElem?_eq_getElem hc,List.getElem?_eq_getElem (show k0+k2 - 1 < ys.length by omega)]
     by_cases e:ys[k0+k2]'hc=ys[k0+k2 - 1]'(by omega)
     · rw [if_pos ⟨by omega,by rw [e]⟩,if_pos e]
     · rw [if_neg (fun q=>e (Option.some.inj q.2)),if_neg e]; rfl
    simp only [M_d,Int.toNat_natCast,e1,cond_true,ew,g1,g2,g3]
    rw [grd_t (by omega),grd_t (by omega),grd_t (by omega)]
    simp only [Option.bind_some,bnd]
    rw [w64_eq (n:=(k:Int)+1) (by omega) (by omega),w64_eq (n:=(k2:Int)+1) (by omega) (by omega)]
    by_cases e:ys[k0+k2]'hc=ys[k0+k2 - 1]'(by omega)
    · rw [if_pos e] at hddp
      rw [show (ys[k0+k2]'hc != ys[k0+k2 - 1]'(by omega))=false by simpa using e,cond_false]
      exact ⟨_,rfl,⟨k,k2+1,l,by simp,by omega,by omega,i3,by omega,fun p hp=>i5 p (by omega),by rw [show k0+(k2+1)=k0+k2+1 by omega,hddp]; exact i6⟩,by simp only []; omega⟩
    · rw [if_neg e] at hddp
      rw [show (ys[k0+k2]'hc != ys[k0+k2 - 1]'(by omega))=true by simpa using e,cond_true]
      refine ⟨_,rfl,⟨k+1,k2+1,l.set k (ys[k0+k2]'hc),by simp,by omega,by omega,by simpa using i3,by omega,fun p hp=>?_,?_⟩,by simp only []; omega⟩
      · rw [List.getElem?_set_ne (by omega)]; exact i5 p (by omega)
      · rw [show k0+(k2+1)=k0+k2+1 by omega,hddp,take_set1 _ (by omega),i6]
  · right
    have e1:decide ((k2:Int) < ((ys.length - k0:Nat):Int))=false:=decide_eq_false (by omega)
    refine ⟨_,by simp only [M_d,Int.toNat_natCast,e1,cond_false],k,l,rfl,i3,by omega,?_⟩
    rw [i6,show k0+k2=ys.length by omega]) N0 ((k0:Int),((1:Nat):Int),ys) ⟨k0,1,ys,rfl,by omega,by omega,rfl,by omega,fun p _=>rfl,hd.symm⟩ (N0_lt (by simp; omega))
 obtain ⟨k,l,rfl,q1,q2,q3⟩:=o2
 exact ⟨k,l,o1,q1,q2,q3⟩
theorem p_Compact (ys:List Int) (hl:ys.length≤1048576):∃ k l,M_dc 0 ys.length ys=some (0,k,l)∧subT l 0 k=ddp ys ys.length:=by
 unfold M_dc
 by_cases h:(ys.length:Int) < 2
 · rw [decide_eq_true h,cond_true]
   refine ⟨_,_,rfl,?_⟩
   rw [subT_all,ddp_take ys _ (fun i h1 h2=>by omega),List.take_length]
 rw [decide_eq_false h,cond_false]
 obtain ⟨o,o1,o2⟩:=iter_inv (f:=M_s 0 ys.length ys) (fun s=>∃ i:Nat,s=i∧1≤i∧i≤ys.length∧ddp ys i=ys.take i) (fun s=>ys.length - s.toNat)
  (fun o=>(o=.inl ()∧ddp ys ys.length=ys)∨∃ k l,o=.inr (0,k,l)∧subT l 0 k=ddp ys ys.length) (fun s hI=>by
  obtain ⟨i,rfl,h1,h2,h3⟩:=hI
  by_cases hi:i < ys.length
  · have e1:decide ((i:Int) < (ys.length:Int))=true:=decide_eq_true (by omega)
    have ew:IntKind.wrap .i64 ((i:Int) - 1)=((i - 1:Nat):Int):=by rw [w64_eq (by omega) (by omega)]; omega
    have g1:ys[0+i]?=some (ys[i]'hi):=by rw [Nat.zero_add]; exact List.getElem?_eq_getElem hi
    have g2:ys[0+(i - 1)]?=some (ys[i - 1]'(by omega)):=by rw [Nat.zero_add]; exact List.getElem?_eq_getElem (by omega)
    simp only [M_s,e1,cond_true,Int.toNat_natCast,g1,ew,g2]
    rw [grd_t (by omega),grd_t (by omega)]
    simp only [Option.bind_some]
    by_cases e:ys[i]'hi=ys[i - 1]'(by omega)
    · right
      have hd:ddp ys (i+1)=ys.take i:=by
       rw [ddp,if_pos ⟨by omega,by rw [List.getElem?_eq_getElem hi,List.getElem?_eq_getElem (show i - 1 < ys.length by omega),e]⟩,h3]
      obtain ⟨k,l,k1,k2,k3,k4⟩:=p_CompL2 ys hl i h1 hi hd
      rw [show (ys[i]'hi==ys[i - 1]'(by omega))=true by simpa using e,cond_true]
      simp only [Int.toNat_natCast,and_true,true_and]
      rw [grd_t (by omega)]
      simp only [Option.bind_some,k1,bnd,Int.toNat_natCast,and_true,true_and]
      rw [grd_t (by omega)]
      simp only [Option.bind_some]
      refine ⟨_,rfl,.inr ⟨k,_,rfl,?_⟩⟩
      rw [← k4,subT_drop,List.drop_zero]
      unfold over
      rw [if_pos (by simp; omega),Nat.zero_add]
      rw [List.append_assoc,List.take_append_of_le_length (by simp; omega),List.take_take,Nat.min_self]
    · left
      rw [show (ys[i]'hi==ys[i - 1]'(by omega))=false by simpa using e,cond_false,w64_eq (by omega) (by omega)]
      refine ⟨_,rfl,⟨i+1,rfl,by omega,by omega,?_⟩,by omega⟩
      rw [ddp,if_neg (fun q=>e (by
       have:=q.2
       rw [List.getElem?_eq_getElem hi,List.getElem?_eq_getElem (show i - 1 < ys.length by omega)] at this
       exact Option.some.inj this)),h3,List.take_add_one]
  · right
    have e1:decide ((i:Int) < (ys.length:Int))=false:=decide_eq_false (by omega)
    refine ⟨_,by simp only [M_s,e1,cond_false],.inl ⟨rfl,?_⟩⟩
    rw [show ys.length=i by omega,h3,show i=ys.length by omega,List.take_length]) N0 ((1:Nat):Int) ⟨1,rfl,by omega,by omega,by
     rw [ddp_take ys 1 (fun i h1 h2=>by omega)]⟩ (N0_lt (by simp; omega))
 have e1:((1:Nat):Int)=1:=rfl
 rw [e1] at o1
 rw [o1]
 rcases o2 with ⟨rfl,q⟩ | ⟨k,l,rfl,q⟩
 · exact ⟨_,_,rfl,by rw [subT_all,q]⟩
 · exact ⟨k,l,rfl,q⟩
theorem p_common (a gone:List Int) (ha:a.length≤12) (hg:gone.length≤1048576):∃ l,M_bv a gone=some l∧l.Pairwise (· < ·)∧∀ x,x∈l↔x∈a∧x∈gone:=by
 unfold M_bv
 have hc:(comP a gone).length≤a.length:=List.length_filter_le ..
 rw [p_comL a gone (by omega) hg]
 simp only [Option.bind_some]
 obtain ⟨l,l1,l2,l3⟩:=p_SortI (comP a gone) (by omega)
 have hln:=l2.length_eq
 obtain ⟨k,l',k1,k2⟩:=p_Compact l (by omega)
 rw [l1]
 simp only [Option.bind_some]
 rw [← hln,k1]
 simp only [Option.bind_some,bnd,k2]
 obtain ⟨s1,_,s3⟩:=ddp_sorted l3 l.length (Nat.le_refl _)
 refine ⟨_,rfl,s1,fun x=>?_⟩
 rw [s3,List.take_length,l2.mem_iff]
 simp [comP]
def sepP (a gone:List Int):Bool:=!a.any fun x=>decide (x∈gone)
theorem sep_len {a gone l:List Int} (h:∀ x,x∈l↔x∈a∧x∈gone):((l.length:Int)==0)=sepP a gone:=by
 rw [Bool.eq_iff_iff]
 simp only [beq_iff_eq,sepP,Bool.not_eq_true',List.any_eq_false,decide_eq_true_eq]
 constructor
 · intro e x hx hg
   have:=(h x).2 ⟨hx,hg⟩
   have h0:l=[]:=List.length_eq_zero_iff.1 (by omega)
   rw [h0] at this; cases this
 · intro hn
   cases l with
   | nil=>rfl
   | cons x l=>exact (hn x ((h x).1 (by simp)).1 ((h x).1 (by simp)).2).elim
theorem sep_gt {a gone l:List Int} (h:∀ x,x∈l↔x∈a∧x∈gone):decide ((0:Int) < (l.length:Int))=!sepP a gone:=by
 rw [← sep_len h,Bool.eq_iff_iff]
 simp only [decide_eq_true_eq,Bool.not_eq_true',beq_eq_false_iff_ne]
 omega
end Vs

namespace Vs
open Go
def blkOk (b:TBlock):Bool:=wi b.First 0 23&&wi b.Count 1 (24 - b.First)
theorem p_l8Good (b:TBlock):M_bw b=some (blkOk b):=by
 unfold M_bw blkOk
 simp only [p_l1In,Option.bind_some]
 rcases bt (wi b.First 0 23) with e | e
 · have:=wi_iff.1 e
   rw [e,cond_true,w64_eq (by omega) (by omega),Bool.true_and]
 · rw [e]; rfl
theorem p_IsValidBlock (b:TBlock):M_bx b=some (blkOk b):=by
 unfold M_bx blkOk
 simp only [p_within,Option.bind_some]
 by_cases h1:0≤b.First
 · rw [decide_eq_true h1,cond_true]
   rcases bt (wi b.Count 1 24) with e | e
   · have:=wi_iff.1 e
     rw [e,cond_true,w64_eq (by omega) (by omega)]
     congr 1
     rw [Bool.eq_iff_iff]
     simp only [decide_eq_true_eq,Bool.and_eq_true,wi_iff]
     omega
   · rw [e,cond_false]
     congr 1
     symm
     rw [Bool.eq_false_iff]
     intro h
     simp only [Bool.and_eq_true,wi_iff] at h
     have:=wi_false.1 e
     omega
 · rw [decide_eq_false h1,cond_false]
   congr 1
   symm
   rw [Bool.eq_false_iff]
   intro h
   simp only [Bool.and_eq_true,wi_iff] at h
   omega
def blkIn (b:TBlock):Prop:=(0≤b.First∧b.First≤24)∧0≤b.Count∧b.Count≤24
theorem blk_in {b:TBlock} (h:blkOk b=true):blkIn b:=by
 unfold blkOk at h
 simp only [Bool.and_eq_true,wi_iff] at h
 unfold blkIn; omega
def maskB (b:TBlock):Int:=IntKind.wrap .i64 ((IntKind.wrap .i64 ((IntKind.wrap .i64 (1 * 2 ^ (min (Int.toNat b.Count) (IntKind.bits .i64)))) - 1)) * 2 ^ (min (Int.toNat b.First) (IntKind.bits .i64)))
theorem p_maskOf {b:TBlock} (h:blkIn b):M_by b=some (maskB b):=by
 unfold M_by
 rw [grd_t h.2.1]
 simp only [Option.bind_some]
 rw [grd_t h.1.1]; rfl
theorem p_l8Bits {b:TBlock} (h:blkIn b):M_bz b=some (maskB b):=by
 unfold M_bz
 have h1:=h.1
 have h2:=h.2
 rw [w64u_eq (n:=b.Count) (by omega) (by omega),w64u_eq (n:=b.First) (by omega) (by omega),grd_t h2.1]
 simp only [Option.bind_some]
 rw [grd_t h1.1]; rfl
theorem mask0 {b:TBlock} (h:b.Count=0):maskB b=0:=by
 unfold maskB
 have:IntKind.wrap .i64 (1 * 2 ^ (min (Int.toNat b.Count) (IntKind.bits .i64)))=1:=by rw [h]; rfl
 rw [this]
 have:IntKind.wrap .i64 (1 - 1:Int)=0:=rfl
 rw [this,Int.zero_mul]; rfl
theorem and0 (y:Int):bits .and .i64 0 y=0:=by
 show IntKind.wrap .i64 ((BitVec.ofInt 64 0 &&& BitVec.ofInt 64 y).toNat:Int)=0
 have:BitVec.ofInt 64 0=0#64:=rfl
 rw [this,BitVec.zero_and]; rfl
theorem and_comm64 (x y:Int):bits .and .i64 x y=bits .and .i64 y x:=by
 show IntKind.wrap .i64 ((BitVec.ofInt 64 x &&& BitVec.ofInt 64 y).toNat:Int)=IntKind.wrap .i64 ((BitVec.ofInt 64 y &&& BitVec.ofInt 64 x).toNat:Int)
 rw [BitVec.and_comm]
theorem p_l4Uses (r:TRoute) (g:List Int) (hr:r.Fibers.length≤1048576) (hg:g.length≤1048576):M_de r g=some (!sepP r.Fibers g):=by
 unfold M_de
 rw [iter_any (f:=M_u r g) r.Fibers (fun x=>decide (x∈g)) (.inr true) (.inl ()) (fun i y hy=>by
  have hlt:=(List.getElem?_eq_some_iff.1 hy).1
  have h1:decide ((i:Int) < r.Fibers.length)=true:=by simp [hlt]
  simp only [M_u,h1,cond_true,geti_nat,hy,Option.bind_some,p_l1Has g y hg,← any_mem]
  rw [w64_eq (by omega) (by omega)]
  cases decide (y∈g) <;> rfl) (by simp [M_u]) (by omega)]
 unfold sepP
 rw [Bool.not_not]
 cases (r.Fibers.any fun x=>decide (x∈g)) <;> rfl
def clashP (a:TRoute) (x:TBlock) (b:TRoute) (y:TBlock):Bool:=(bits .and .i64 (maskB x) (maskB y) != 0)&&!sepP a.Fibers b.Fibers
theorem p_overlap (a:TRoute) (x:TBlock) (b:TRoute) (y:TBlock) (ha:a.Fibers.length≤12) (hb:b.Fibers.length≤1048576) (hx:blkIn x) (hy:blkIn y):M_be a x b y=some (clashP a x b y):=by
 unfold M_be M_es clashP
 obtain ⟨l,l1,_,l3⟩:=p_common a.Fibers b.Fibers ha hb
 simp only [p_maskOf hx,p_maskOf hy,Option.bind_some,l1,sep_gt l3]
 cases bits .and .i64 (maskB x) (maskB y) != 0 <;> rfl
theorem p_l13Clash (a:TRoute) (x:TBlock) (b:TRoute) (y:TBlock) (ha:a.Fibers.length≤1048576) (hb:b.Fibers.length≤1048576) (hx:blkIn x) (hy:blkIn y):M_bf a x b y=some (clashP a x b y):=by
 unfold M_bf clashP
 simp only [p_l4Uses a b.Fibers ha hb,p_l8Bits hx,p_l8Bits hy,Option.bind_some]
 have h1:=hx.2.1
 have h2:=hy.2.1
 rcases bt (sepP a.Fibers b.Fibers) with e | e
 · rw [e]; simp
 · rw [e]
   simp only [Bool.not_false,cond_true,Bool.and_true]
   by_cases c1:0 < x.Count
   · rw [decide_eq_true c1,cond_true]
     by_cases c2:0 < y.Count
     · rw [decide_eq_true c2,cond_true]
     · rw [decide_eq_false c2,cond_false,mask0 (b:=y) (by omega),and_comm64,and0]; rfl
   · rw [decide_eq_false c1,cond_false,mask0 (b:=x) (by omega),and0]; rfl
theorem p_ContF_LL (xs:List (List Int)) (f:List Int→Option Bool) (p:List Int→Bool) (hf:∀ x∈xs,f x=some (p x)) (hl:xs.length≤1048576):M_df xs f=some (match findI (fun _ x=>p x) xs with | some q=>(q.1:Int) | none=>-1):=by
 unfold M_df
 rw [iter_findI (f:=M_v xs f) xs (fun _ x=>p x) (fun i _=>(i:Int)) () (fun i x hx _=>by
  have hlt:=(List.getElem?_eq_some_iff.1 hx).1
  have h1:decide ((i:Int) < xs.length)=true:=by simp [hlt]
  simp only [M_v,h1,cond_true,geti_nat,hx,Option.bind_some,hf x (List.mem_of_getElem? hx)]
  rw [w64_eq (by omega) (by omega)]
  cases p x <;> rfl) (by simp [M_v]) (by omega)]
 cases findI (fun _ x=>p x) xs <;> rfl
theorem p_groupOf (n:TNetwork) (e:Int) (h:n.Fibers.length≤14):M_dg n e=some (gofI n e):=by
 unfold M_dg gofI
 have hg:=groups_rng h
 have hK:=groupsP_len n h
 rw [p_groups n h]
 simp only [Option.bind_some]
 rw [p_ContF_LL (groupsP n) (fun x0=>M_dh x0 e) (fun g=>decide (e∈g)) (fun x hx=>by
  unfold M_dh
  rw [p_ContI x e (by have:=(hg x hx).1; omega)]; rfl) (by omega)]
 rfl
theorem p_risksOf (n:TNetwork) (l:List Int) (h:n.Fibers.length≤14) (hl:l.length≤1048576):M_ca n l=some (l.map (gofI n)):=by
 unfold M_ca
 have:=iter_list (f:=M_w n l) l (fun i (a:List Int)=>((i:Int),a)) (fun _ x a=>.inl (a++[gofI n x])) (fun a=>a) (fun i a=>a.length≤i) (fun i a x hx hI=>by
  have hlt:=(List.getElem?_eq_some_iff.1 hx).1
  have h1:decide ((i:Int) < l.length)=true:=by simp [hlt]
  refine .inl ⟨_,rfl,by simp; omega,?_⟩
  simp only [M_w,h1,cond_true,geti_nat,hx,Option.bind_some,p_groupOf n x h,bnd]
  rw [grd_t (by omega),w64_eq (by omega) (by omega)]; rfl) (fun a _=>by simp [M_w]) [] (Nat.le_refl 0) (by omega)
 have e0:((0:Nat):Int)=0:=rfl
 simp only [e0] at this
 rw [this]
 have gen:∀ (xs:List Int) (i:Nat) (a:List Int),walkL (fun (_:Nat) x (a:List Int)=>(.inl (a++[gofI n x]):List Int ⊕ List Int)) (fun a=>a) i xs a=a++xs.map (gofI n):=by
  intro xs
  induction xs with
  | nil=>intro i a; simp [walkL]
  | cons x xs ih=>intro i a; simp only [walkL]; rw [ih]; simp
 rw [gen]; rfl
theorem p_apart (n:TNetwork) (a b:List Int) (h:netOk n=true) (ha:a.length≤12) (hb:b.length≤1048576) (fa:∀ x∈a,fibI n x) (fb:∀ x∈b,fibI n x):M_cb n a b=some (apP n a b):=by
 have hn:=(netOk_b h).2.2
 unfold M_cb
 obtain ⟨l,l1,_,l3⟩:=p_common (a.map (gofI n)) (b.map (gofI n)) (by simpa using ha) (by simpa using hb)
 simp only [p_risksOf n a hn (by omega),p_risksOf n b hn hb,Option.bind_some,l1,sep_len l3]
 rw [← apart_sep h fa fb]; rfl
theorem p_l2GroupI (n:TNetwork) (e:Int) (h:n.Fibers.length≤14) (he:fibI n e):M_cc n e=some (grpI n e):=by
 obtain ⟨f,f1,f2⟩:=fibI_at he
 have e0:e=(e.toNat:Int):=by have:=he.1; omega
 unfold grpI
 rw [f2]
 by_cases h0:f.Risk=0
 · rw [if_pos h0]
   unfold M_cc
   have hg:geti n.Fibers e=some f:=by rw [e0,geti_nat]; exact f1
   simp only [hg,Option.bind_some,bnd]
   rw [show (f.Risk==0)=true by simpa using h0,cond_true]
 · rw [if_neg h0]
   have:=p_l2Group n h e.toNat f f1 h0
   rw [← e0] at this
   exact this
theorem p_l4Apart (n:TNetwork) (a b:TRoute) (h:n.Fibers.length≤14) (ha:a.Fibers.length≤1048576) (hb:b.Fibers.length≤1048576) (fa:∀ x∈a.Fibers,fibI n x):M_cd n a b=some (apP n a.Fibers b.Fibers):=by
 unfold M_cd
 rw [iter_any (f:=M_x n a b) a.Fibers (fun x=>b.Fibers.any fun y=>decide (y∈grpI n x)) (.inr false) (.inl ()) (fun i x hx=>by
  have hlt:=(List.getElem?_eq_some_iff.1 hx).1
  have h1:decide ((i:Int) < a.Fibers.length)=true:=by simp [hlt]
  have hgl:(grpI n x).length≤1048576:=by
   unfold grpI
   split
   · simp
   · have:=idxs_len (riskI n x) n.Fibers 0; omega
  simp only [M_x,h1,cond_true,geti_nat,hx,Option.bind_some,p_l2GroupI n x h (fa x (List.mem_of_getElem? hx))]
  rw [iter_any (f:=M_p b (grpI n x)) b.Fibers (fun y=>decide (y∈grpI n x)) (.inr false) (.inl ()) (fun j y hy=>by
   have hlt:=(List.getElem?_eq_some_iff.1 hy).1
   have h1:decide ((j:Int) < b.Fibers.length)=true:=by simp [hlt]
   simp only [M_p,h1,cond_true,geti_nat,hy,Option.bind_some,p_l1Has (grpI n x) y hgl,← any_mem]
   rw [w64_eq (by omega) (by omega)]
   cases decide (y∈grpI n x) <;> rfl) (by simp [M_p]) (by omega),w64_eq (by omega) (by omega)]
  cases (b.Fibers.any fun y=>decide (y∈grpI n x)) <;> rfl) (by simp [M_x]) (by omega)]
 unfold apP
 cases (a.Fibers.any fun x=>b.Fibers.any fun y=>decide (y∈grpI n x)) <;> rfl
end Vs

namespace Vs
open Go
theorem vis_pre {n:TNetwork}:∀ (xs:List Int) (i:Nat) (a:Int×List Int) (l:List Int),walkL (visS n) (fun a=>some a.2) i xs a=some l→∃ t,l=a.2++t
 | [],_,a,l,h=>by simp only [walkL,Option.some.injEq] at h; subst h; exact ⟨[],by simp⟩
 | x :: xs, i, a, l, h => by
   simp only [walkL,visS] at h
   rcases bt (visB n x a) with e | e
   · rw [e] at h; cases h
   · rw [e] at h
     simp only [Bool.false_eq_true,if_false] at h
     obtain ⟨t,ht⟩:=vis_pre xs (i+1) _ l h
     exact ⟨othI n x a.1::t,by rw [ht]; simp⟩
theorem vis_head {n:TNetwork} {r:TRoute} {l:List Int} (h:visP n r=some l):l[0]?=some r.Start:=by
 unfold visP at h
 split at h
 · cases h
 · obtain ⟨t,ht⟩:=vis_pre _ _ _ _ h
   rw [ht]; rfl
def endI (n:TNetwork) (r:TRoute):Int:=match visP n r with | some l=>gz l (l.length - 1) | none=>0
structure RteIn (n:TNetwork) (r:TRoute):Prop where
 len:r.Fibers.length≤12
 fib:∀ x∈r.Fibers,fibI n x
 nod:r.Fibers.Nodup
theorem vis_in {n:TNetwork} (h:netOk n=true) {r:TRoute} {l:List Int} (hl:visP n r=some l):RteIn n r∧l.length=r.Fibers.length+1:=by
 obtain ⟨g1,g2,g3,g4,g5⟩:=rte_facts (net_ends h) hl
 have:=nodup_le n.Nodes.length l g1 g2
 have:=netOk_b h
 exact ⟨⟨by omega,g4,g5⟩,g3⟩
theorem p_l4End {n:TNetwork} {r:TRoute} {l:List Int} (h:netOk n=true) (hr:r.Fibers.length≤1048576) (hl:visP n r=some l):M_bt n r=some (endI n r):=by
 have hb:=netOk_b h
 obtain ⟨o,o1,o2⟩:=p_l4Walk n r (by omega) (by omega) hr
 obtain rfl:=o2 l hl
 obtain ⟨hi,hlen⟩:=vis_in h hl
 have:=hi.len
 unfold M_bt M_eq endI
 rw [o1,hl]
 simp only [Option.bind_some]
 have e:IntKind.wrap .i64 ((o.length:Int) - 1)=((o.length - 1:Nat):Int):=by rw [w64_eq (by omega) (by omega)]; omega
 rw [e,grd_t (by omega)]
 simp only [Option.bind_some,Int.toNat_natCast]
 rw [gz_at (by omega)]; rfl
def svcOk (n:TNetwork) (s:TService):Bool :=
 (wi s.Id 1 999&&wi s.Class 0 2&&(visP n s.Work).isSome&&blkOk s.WorkBlock) &&
 (if s.Class = 0 then decide (s.Spare.Start = 0) && decide (s.Spare.Fibers.length = 0) && (s.SpareBlock.First == 0 && s.SpareBlock.Count == 0)
  else (visP n s.Spare).isSome&&blkOk s.SpareBlock&&decide (s.Spare.Start=s.Work.Start)&&decide (endI n s.Spare=endI n s.Work)&&apP n s.Work.Fibers s.Spare.Fibers)
structure SvcIn (n:TNetwork) (s:TService):Prop where
 wr:RteIn n s.Work
 sr:RteIn n s.Spare
 wb:blkIn s.WorkBlock
 sb:blkIn s.SpareBlock
theorem svc_in {n:TNetwork} {s:TService} (h:netOk n=true) (hs:svcOk n s=true):SvcIn n s:=by
 unfold svcOk at hs
 simp only [Bool.and_eq_true] at hs
 obtain ⟨⟨⟨_,h3⟩,h4⟩,h5⟩:=hs
 obtain ⟨l,hl⟩:=Option.isSome_iff_exists.1 h3
 by_cases c:s.Class=0
 · rw [if_pos c] at h5
   simp only [Bool.and_eq_true,decide_eq_true_eq,beq_iff_eq] at h5
   obtain ⟨⟨k1,k2⟩,k3,k4⟩:=h5
   have k2:s.Spare.Fibers=[]:=List.length_eq_zero_iff.1 k2
   exact ⟨(vis_in h hl).1,⟨by rw [k2]; simp,by rw [k2]; simp,by rw [k2]; simp⟩,blk_in h4,by unfold blkIn; omega⟩
 · rw [if_neg c] at h5
   simp only [Bool.and_eq_true] at h5
   obtain ⟨⟨⟨⟨k1,k2⟩,_⟩,_⟩,_⟩:=h5
   obtain ⟨l2,hl2⟩:=Option.isSome_iff_exists.1 k1
   exact ⟨(vis_in h hl).1,(vis_in h hl2).1,blk_in h4,blk_in k2⟩
theorem c4 (a b c d:Bool):(cond (!a) (some true) (cond (!b) (some true) (cond (!c) (some true) (some (!d)))):Option Bool)=some (!(a&&b&&c&&d)):=by
 cases a <;> cases b <;> cases c <;> cases d <;> rfl
theorem c3z (s:TService):(cond (s.Spare.Start==0) (cond ((s.Spare.Fibers.length:Int)==0) (some (s.SpareBlock.First==0&&s.SpareBlock.Count==0)) (some false)) (some false):Option Bool) =
 some (decide (s.Spare.Start=0)&&decide (s.Spare.Fibers.length=0)&&(s.SpareBlock.First==0&&s.SpareBlock.Count==0)):=by
 rw [len0,show (s.Spare.Start==0)=decide (s.Spare.Start=0) from rfl]
 cases decide (s.Spare.Start=0) <;> cases decide (s.Spare.Fibers.length=0) <;> rfl
theorem deqI (a b:Int):(a==b)=decide (a=b):=rfl
theorem p_l13Service (n:TNetwork) (s:TService) (h:netOk n=true) (hz:z_Network n≤1048576) (hw:s.Work.Fibers.length≤1048576) (hs:s.Spare.Fibers.length≤1048576):M_cw n s=some (svcOk n s):=by
 unfold M_cw svcOk
 have hr:∀ r:TRoute,r.Fibers.length≤1048576→M_bp n r=some (visP n r).isSome:=fun r hr=>by
  rw [p_l4Good n r hz hr]; unfold rteOk; rw [h,Bool.true_and]
 simp only [p_l1In,p_l8Good,hr s.Work hw,hr s.Spare hs,Option.bind_some,c4]
 rcases bt (wi s.Id 1 999&&wi s.Class 0 2&&(visP n s.Work).isSome&&blkOk s.WorkBlock) with e | e
 · rw [e]
   simp only [Bool.not_true,cond_false,Bool.true_and]
   simp only [Bool.and_eq_true] at e
   obtain ⟨l,hl⟩:=Option.isSome_iff_exists.1 e.1.2
   by_cases c:s.Class=0
   · rw [if_pos c,show (s.Class==0)=true by simpa using c,cond_true,c3z]; rfl
   · rw [if_neg c,show (s.Class==0)=false by simpa using c,cond_false]
     cases hl2:visP n s.Spare with
     | none=>rfl
     | some l2 =>
       simp only [Option.isSome_some,cond_true,Bool.true_and,p_l4End h hs hl2,p_l4End h hw hl,Option.bind_some,p_l4Apart n s.Work s.Spare (netOk_b h).2.2 hw hs (vis_in h hl).1.fib,deqI]
       cases blkOk s.SpareBlock <;> cases decide (s.Spare.Start=s.Work.Start) <;> cases decide (endI n s.Spare=endI n s.Work) <;> rfl
 · rw [e]; rfl
theorem p_isService (n:TNetwork) (s:TService) (h:netOk n=true) (hw:s.Work.Fibers.length≤1048576) (hs:s.Spare.Fibers.length≤1048576):M_cx n s=some (svcOk n s):=by
 have hb:=netOk_b h
 unfold M_cx svcOk
 simp only [p_within,p_IsValidBlock,p_visited n s.Work (by omega) (by omega) hw,p_visited n s.Spare (by omega) (by omega) hs,Option.bind_some]
 cases hl:visP n s.Work with
 | none =>
   have:(wi s.Id 1 999&&wi s.Class 0 2&&(none:Option (List Int)).isSome&&blkOk s.WorkBlock)=false:=by simp
   rw [this]
   simp only [c4,Bool.false_and]
   cases wi s.Id 1 999 <;> cases wi s.Class 0 2 <;> rfl
 | some l =>
   simp only [c4,Option.isSome_some]
   rcases bt (wi s.Id 1 999&&wi s.Class 0 2&&true&&blkOk s.WorkBlock) with e | e
   · rw [e]
     simp only [Bool.not_true,cond_false,Bool.true_and]
     by_cases c:s.Class=0
     · rw [if_pos c,show (s.Class==0)=true by simpa using c,cond_true,c3z]; rfl
     · rw [if_neg c,show (s.Class==0)=false by simpa using c,cond_false]
       cases hl2:visP n s.Spare with
       | none=>rfl
       | some l2 =>
         obtain ⟨i1,n1⟩:=vis_in h hl
         obtain ⟨i2,n2⟩:=vis_in h hl2
         have q1:=i1.len
         have q2:=i2.len
         have e1:IntKind.wrap .i64 ((l.length:Int) - 1)=((l.length - 1:Nat):Int):=by rw [w64_eq (by omega) (by omega)]; omega
         have e2:IntKind.wrap .i64 ((l2.length:Int) - 1)=((l2.length - 1:Nat):Int):=by rw [w64_eq (by omega) (by omega)]; omega
         have d1:grd (0≤0∧0 < (l.length:Int))=some ():=grd_t (by omega)
         have d2:grd (0≤0∧0 < (l2.length:Int))=some ():=grd_t (by omega)
         have d3:grd (0≤((l.length - 1:Nat):Int)∧((l.length - 1:Nat):Int) < (l.length:Int))=some ():=grd_t (by omega)
         have d4:grd (0≤((l2.length - 1:Nat):Int)∧((l2.length - 1:Nat):Int) < (l2.length:Int))=some ():=grd_t (by omega)
         have g1:l[Int.toNat 0]?=some s.Work.Start:=vis_head hl
         have g2:l2[Int.toNat 0]?=some s.Spare.Start:=vis_head hl2
         have g3:l[l.length - 1]?=some (endI n s.Work):=by unfold endI; rw [hl]; exact gz_at (by omega)
         have g4:l2[l2.length - 1]?=some (endI n s.Spare):=by unfold endI; rw [hl2]; exact gz_at (by omega)
         simp only [Option.isSome_some,cond_true,Bool.true_and,e1,e2,d1,d2,d3,d4,g1,g2,Int.toNat_natCast,g3,g4,Option.bind_some,p_apart n s.Work.Fibers s.Spare.Fibers h i1.len (by omega) i1.fib i2.fib,deqI]
         cases blkOk s.SpareBlock <;> cases decide (s.Spare.Start=s.Work.Start) <;> cases decide (endI n s.Spare=endI n s.Work) <;> rfl
   · rw [e]; rfl
def compP (n:TNetwork) (a b:TService):Bool :=
 !(clashP a.Work a.WorkBlock b.Work b.WorkBlock||clashP a.Work a.WorkBlock b.Spare b.SpareBlock||clashP a.Spare a.SpareBlock b.Work b.WorkBlock) &&
 ((a.Class==2&&b.Class==2&&apP n a.Work.Fibers b.Work.Fibers)||!clashP a.Spare a.SpareBlock b.Spare b.SpareBlock)
theorem p_compatible (n:TNetwork) (a b:TService) (h:netOk n=true) (ha:SvcIn n a) (hb:SvcIn n b):M_cy n a b=some (compP n a b):=by
 have a1:=ha.wr.len; have a2:=ha.sr.len; have b1:=hb.wr.len; have b2:=hb.sr.len
 unfold M_cy compP
 simp only [p_overlap a.Work a.WorkBlock b.Work b.WorkBlock a1 (by omega) ha.wb hb.wb,p_overlap a.Work a.WorkBlock b.Spare b.SpareBlock a1 (by omega) ha.wb hb.sb,p_overlap a.Spare a.SpareBlock b.Work b.WorkBlock a2 (by omega) ha.sb hb.wb,
  p_overlap a.Spare a.SpareBlock b.Spare b.SpareBlock a2 (by omega) ha.sb hb.sb,p_apart n a.Work.Fibers b.Work.Fibers h a1 (by omega) ha.wr.fib hb.wr.fib,Option.bind_some]
 cases clashP a.Work a.WorkBlock b.Work b.WorkBlock <;> cases clashP a.Work a.WorkBlock b.Spare b.SpareBlock <;> cases clashP a.Spare a.SpareBlock b.Work b.WorkBlock <;> try rfl
 cases a.Class==2 <;> cases b.Class==2 <;> cases apP n a.Work.Fibers b.Work.Fibers <;> rfl
theorem p_l13Compatible (n:TNetwork) (a b:TService) (h:netOk n=true) (ha:SvcIn n a) (hb:SvcIn n b):M_cz n a b=some (compP n a b):=by
 have a1:=ha.wr.len; have a2:=ha.sr.len; have b1:=hb.wr.len; have b2:=hb.sr.len
 unfold M_cz compP
 simp only [p_l13Clash a.Work a.WorkBlock b.Work b.WorkBlock (by omega) (by omega) ha.wb hb.wb,p_l13Clash a.Work a.WorkBlock b.Spare b.SpareBlock (by omega) (by omega) ha.wb hb.sb,p_l13Clash a.Spare a.SpareBlock b.Work b.WorkBlock (by omega) (by omega) ha.sb hb.wb,
  p_l13Clash a.Spare a.SpareBlock b.Spare b.SpareBlock (by omega) (by omega) ha.sb hb.sb,p_l4Apart n a.Work b.Work (netOk_b h).2.2 (by omega) (by omega) ha.wr.fib,Option.bind_some]
 cases clashP a.Work a.WorkBlock b.Work b.WorkBlock <;> cases clashP a.Work a.WorkBlock b.Spare b.SpareBlock <;> cases clashP a.Spare a.SpareBlock b.Work b.WorkBlock <;> try rfl
 cases a.Class==2 <;> cases b.Class==2 <;> cases apP n a.Work.Fibers b.Work.Fibers <;> rfl
theorem z_svc {list:List TService} (h:z_ServiceS list≤1048576) {s:TService} (hs:s∈list):s.Work.Fibers.length≤1048576∧s.Spare.Fibers.length≤1048576:=by
 obtain ⟨i,hi⟩:=List.getElem?_of_mem hs
 have h2:s.Work.Fibers.length+s.Spare.Fibers.length≤(list.map fun x=>z_Service x).sum:=sum_ge (fun x=>z_Service x) hi
 unfold z_ServiceS at h
 omega
theorem z_svl {list:List TService} (h:z_ServiceS list≤1048576):list.length≤1048576:=by unfold z_ServiceS at h; omega
def svcBad (n:TNetwork) (list:List TService) (i:Nat) (s:TService):Bool :=
 !svcOk n s||(decide (0 < i)&&match list[i - 1]? with | some g=>decide (s.Id≤g.Id) | none=>false)||(list.take i).any fun o=>!compP n o s
def svsOk (n:TNetwork) (list:List TService):Bool:=netOk n&&decide (list.length≤8)&&!anyI (svcBad n list) list
theorem p_CFS (xs:List TService) (f:TService→Option Bool) (p:TService→Bool) (hf:∀ x∈xs,f x=some (p x)) (hl:xs.length≤1048576):M_bq xs f=some (xs.any p):=by
 unfold M_bq M_br
 rw [iter_findI (f:=M_b xs f) xs (fun _ x=>p x) (fun i _=>(i:Int)) () (fun i x hx _=>by
  have hlt:=(List.getElem?_eq_some_iff.1 hx).1
  have h1:decide ((i:Int) < xs.length)=true:=by simp [hlt]
  simp only [M_b,h1,cond_true,geti_nat,hx,hf x (List.mem_of_getElem? hx),Option.bind_some]
  rw [w64_eq (by omega) (by omega)]
  cases p x <;> rfl) (by simp [M_b]) (by omega)]
 rw [← anyI_any]
 cases e:findI (fun _ x=>p x) xs with
 | none =>
   have h:anyI (fun _ x=>p x) xs=false:=anyI_false.2 (findI_none.1 e)
   rw [h]; rfl
 | some q =>
   obtain ⟨i,x⟩:=q
   obtain ⟨h1,h2,_⟩:=findI_some.1 e
   have h:anyI (fun _ x=>p x) xs=true:=anyI_iff.2 ⟨i,x,h1,h2⟩
   rw [h]; simp
theorem take_good {n:TNetwork} (h:netOk n=true) {list:List TService} {i:Nat} (hprev:∀ j y,j < i→list[j]?=some y→svcBad n list j y=false):∀ o∈list.take i,SvcIn n o:=by
 intro o ho
 obtain ⟨j,hj⟩:=List.getElem?_of_mem ho
 rw [List.getElem?_take] at hj
 split at hj
 · rename_i hji
   have:=hprev j o hji hj
   unfold svcBad at this
   simp only [Bool.or_eq_false_iff,Bool.not_eq_false'] at this
   exact svc_in h this.1.1
 · cases hj
theorem p_IsValidServices (n:TNetwork) (list:List TService) (hz:z_Network n≤1048576) (hl:z_ServiceS list≤1048576):M_da n list=some (svsOk n list):=by
 have hll:=z_svl hl
 unfold M_da svsOk
 rw [p_IsValidNetwork n hz]
 simp only [Option.bind_some]
 rcases bt (netOk n) with hn | hn
 · rw [hn]
   simp only [Bool.not_true,cond_false,Option.bind_some,Bool.true_and]
   by_cases h8:list.length≤8
   · have e8:decide ((8:Int) < (list.length:Int))=false:=decide_eq_false (by omega)
     rw [e8,cond_false,decide_eq_true h8,Bool.true_and]
     rw [iter_anyI (f:=M_f n list) list (svcBad n list) (.inr false) (.inl ()) (fun i x hx hprev=>by
      have hlt:=(List.getElem?_eq_some_iff.1 hx).1
      have h1:decide ((i:Int) < list.length)=true:=by simp [hlt]
      obtain ⟨w1,w2⟩:=z_svc hl (List.mem_of_getElem? hx)
      simp only [M_f,h1,cond_true,geti_nat,hx,Option.bind_some,p_isService n x hn w1 w2,slT_nat list i (by omega)]
      unfold svcBad
      rcases bt (svcOk n x) with e | e
      · have hin:=svc_in hn e
        have hcf:M_bq (list.take i) (fun x0=>M_bu x0 n x)=some ((list.take i).any fun o=>!compP n o x):=p_CFS _ _ _ (fun o ho=>by
         unfold M_bu
         rw [p_compatible n o x hn (take_good hn hprev o ho) hin]; rfl) (by simp; omega)
        rw [e]
        simp only [Bool.not_true,cond_false,Bool.false_or,hcf,Option.bind_some]
        rw [w64_eq (n:=(i:Int)+1) (by omega) (by omega)]
        by_cases h0:0 < i
        · have e0:decide ((0:Int) < (i:Int))=true:=decide_eq_true (by omega)
          have ew:IntKind.wrap .i64 ((i:Int) - 1)=((i - 1:Nat):Int):=by rw [w64_eq (by omega) (by omega)]; omega
          have hg:list[i - 1]?=some (list[i - 1]'(by omega)):=List.getElem?_eq_getElem (by omega)
          rw [e0,cond_true,ew,geti_nat,hg,decide_eq_true h0]
          simp only [Option.bind_some,Bool.true_and]
          cases decide (x.Id≤(list[i - 1]'(by omega)).Id) <;> cases ((list.take i).any fun o=>!compP n o x) <;> rfl
        · have e0:decide ((0:Int) < (i:Int))=false:=decide_eq_false (by omega)
          rw [e0,cond_false,decide_eq_false h0]
          simp only [Bool.false_and,Bool.false_or]
          cases ((list.take i).any fun o=>!compP n o x) <;> rfl
      · rw [e]; rfl) (by simp [M_f]) (by omega)]
     cases anyI (svcBad n list) list <;> rfl
   · have e8:decide ((8:Int) < (list.length:Int))=true:=decide_eq_true (by omega)
     rw [e8,cond_true,decide_eq_false h8]; rfl
 · rw [hn]; rfl
theorem p_l13Good (n:TNetwork) (list:List TService) (hz:z_Network n≤1048576) (hl:z_ServiceS list≤1048576):M_db n list=some (svsOk n list):=by
 have hll:=z_svl hl
 unfold M_db svsOk
 rw [p_l2Good n hz]
 simp only [Option.bind_some]
 rcases bt (netOk n) with hn | hn
 · rw [hn]
   simp only [Bool.not_true,cond_false,Option.bind_some,Bool.true_and]
   by_cases h8:list.length≤8
   · have e8:decide ((8:Int) < (list.length:Int))=false:=decide_eq_false (by omega)
     rw [e8,cond_false,decide_eq_true h8,Bool.true_and]
     rw [iter_anyI (f:=M_r n list) list (svcBad n list) (.inr false) (.inl ()) (fun i x hx hprev=>by
      have hlt:=(List.getElem?_eq_some_iff.1 hx).1
      have h1:decide ((i:Int) < list.length)=true:=by simp [hlt]
      obtain ⟨w1,w2⟩:=z_svc hl (List.mem_of_getElem? hx)
      simp only [M_r,h1,cond_true,geti_nat,hx,Option.bind_some,p_l13Service n x hn hz w1 w2]
      rw [w64_eq (n:=(i:Int)+1) (by omega) (by omega)]
      unfold svcBad
      rcases bt (svcOk n x) with e | e
      · have hin:=svc_in hn e
        have hcf:iter (M_g n list (i:Int)) N0 0=some (if (list.take i).any (fun o=>!compP n o x) then .inr false else .inl ()):=by
         refine iter_any (f:=M_g n list (i:Int)) (list.take i) (fun o=>!compP n o x) (.inr false) (.inl ()) (fun k o ho=>?_) ?_ (by simp; omega)
         · have hin2:=take_good hn hprev o (List.mem_of_getElem? ho)
           rw [List.getElem?_take] at ho
           split at ho
           · rename_i hki
             have h1:decide ((k:Int) < (i:Int))=true:=decide_eq_true (by omega)
             simp only [M_g,h1,cond_true,geti_nat,ho,hx,Option.bind_some,p_l13Compatible n o x hn hin2 hin]
             rw [w64_eq (by omega) (by omega)]
             cases compP n o x <;> rfl
           · cases ho
         · have h1:decide ((((list.take i).length:Nat):Int) < (i:Int))=false:=decide_eq_false (by simp; omega)
           simp only [M_g,h1,cond_false]
        rw [e]
        simp only [Bool.not_true,cond_false,Bool.false_or,hcf,Option.bind_some]
        by_cases h0:0 < i
        · have e0:decide ((0:Int) < (i:Int))=true:=decide_eq_true (by omega)
          have ew:IntKind.wrap .i64 ((i:Int) - 1)=((i - 1:Nat):Int):=by rw [w64_eq (by omega) (by omega)]; omega
          have hg:list[i - 1]?=some (list[i - 1]'(by omega)):=List.getElem?_eq_getElem (by omega)
          rw [e0,cond_true,ew,geti_nat,hg,decide_eq_true h0]
          simp only [Option.bind_some,Bool.true_and]
          cases decide (x.Id≤(list[i - 1]'(by omega)).Id) <;> cases ((list.take i).any fun o=>!compP n o x) <;> rfl
        · have e0:decide ((0:Int) < (i:Int))=false:=decide_eq_false (by omega)
          rw [e0,cond_false,decide_eq_false h0]
          simp only [Option.bind_some,cond_false,Bool.false_and,Bool.false_or]
          cases ((list.take i).any fun o=>!compP n o x) <;> rfl
      · rw [e]; rfl) (by simp [M_r]) (by omega)]
     cases anyI (svcBad n list) list <;> rfl
   · have e8:decide ((8:Int) < (list.length:Int))=true:=decide_eq_true (by omega)
     rw [e8,cond_true,decide_eq_false h8]; rfl
 · rw [hn]; rfl
end Vs

namespace Vs
open Go
theorem rise_pw {l:List Int} (h:∀ (i:Nat) (a b:Int),l[i]?=some a→l[i+1]?=some b→a < b):l.Pairwise (· < ·):=by
 rw [List.pairwise_iff_getElem]
 intro i j hi hj hij
 obtain ⟨d,rfl⟩:∃ d,j=i+1+d:=⟨j - i - 1,by omega⟩
 induction d with
 | zero=>exact h i _ _ (List.getElem?_eq_getElem hi) (List.getElem?_eq_getElem hj)
 | succ d ih =>
   have h1:=ih (by omega) (by omega)
   have h2:=h (i+1+d) _ _ (List.getElem?_eq_getElem (by omega)) (List.getElem?_eq_getElem (by omega))
   have h3:l[i+1+(d+1)]'hj=l[i+1+d+1]'(by omega):=rfl
   omega
theorem rise_nodup {l:List Int} (h:l.Pairwise (· < ·)):l.Nodup:=h.imp fun h=>by omega
end Vs

namespace Vs
open Go
theorem svs_asc {n:TNetwork} {list:List TService} (h:svsOk n list=true):(list.map (·.Id)).Pairwise (· < ·):=by
 unfold svsOk at h
 simp only [Bool.and_eq_true,decide_eq_true_eq,Bool.not_eq_true'] at h
 refine rise_pw fun i a b ha hb=>?_
 rw [List.getElem?_map,Option.map_eq_some_iff] at ha hb
 obtain ⟨x,hx,rfl⟩:=ha
 obtain ⟨y,hy,rfl⟩:=hb
 have:=anyI_false.1 h.2 (i+1) y hy
 unfold svcBad at this
 simp only [Nat.add_sub_cancel,hx,Bool.or_eq_false_iff,Bool.and_eq_false_iff,decide_eq_false_iff_not] at this
 omega
theorem fil_erase (id:Int):∀ (L:List TService) (i:Nat) (x:TService),(L.map (·.Id)).Nodup→L[i]?=some x→x.Id=id→(L.filter fun y=>y.Id != id)=L.take i++L.drop (i+1)
 | [],i,x,_,h,_=>by simp at h
 | a :: L, 0, x, hn, h, hi => by
   simp only [List.getElem?_cons_zero,Option.some.injEq] at h
   subst h
   simp only [List.map_cons,List.nodup_cons] at hn
   have:(a.Id != id)=false:=by simp [hi]
   rw [List.filter_cons,this]
   simp only [Bool.false_eq_true,if_false,List.take_zero,List.nil_append,List.drop_succ_cons,List.drop_zero]
   rw [List.filter_eq_self]
   intro y hy
   have:y.Id ≠ id:=fun e=>hn.1 (by rw [hi,← e]; exact List.mem_map.2 ⟨y,hy,rfl⟩)
   simpa using this
 | a :: L, i + 1, x, hn, h, hi => by
   simp only [List.getElem?_cons_succ] at h
   simp only [List.map_cons,List.nodup_cons] at hn
   have hne:a.Id ≠ id:=fun e=>hn.1 (by rw [e,← hi]; exact List.mem_map.2 ⟨x,List.mem_of_getElem? h,rfl⟩)
   have:(a.Id != id)=true:=by simpa using hne
   rw [List.filter_cons,this]
   simp only [if_true,List.take_succ_cons,List.drop_succ_cons,List.cons_append]
   rw [fil_erase id L i x hn.2 h hi]
theorem p_IFS (xs:List TService) (f:TService→Option Bool) (p:TService→Bool) (hf:∀ x∈xs,f x=some (p x)) (hl:xs.length≤1048576):M_br xs f=some (match findI (fun _ x=>p x) xs with | some q=>(q.1:Int) | none=>-1):=by
 unfold M_br
 rw [iter_findI (f:=M_b xs f) xs (fun _ x=>p x) (fun i _=>(i:Int)) () (fun i x hx _=>by
  have hlt:=(List.getElem?_eq_some_iff.1 hx).1
  have h1:decide ((i:Int) < xs.length)=true:=by simp [hlt]
  simp only [M_b,h1,cond_true,geti_nat,hx,hf x (List.mem_of_getElem? hx),Option.bind_some]
  rw [w64_eq (by omega) (by omega)]
  cases p x <;> rfl) (by simp [M_b]) (by omega)]
 cases findI (fun _ x=>p x) xs <;> rfl
theorem cps_loop {f:Int×List TService→Option ((Int×List TService) ⊕ List TService)} (xs:List TService) (p:TService→Bool) (hl:xs.length≤1048576)
 (h1:∀ (i:Nat) x (a:List TService),xs[i]?=some x→a.length≤i→f ((i:Int),a)=some (.inl (((i+1:Nat):Int),if p x then a++[x] else a))) (h2:∀ a,f ((xs.length:Int),a)=some (.inr a)):iter f N0 (0,[])=some (xs.filter p):=by
 have:=iter_list (f:=f) xs (fun i (a:List TService)=>((i:Int),a)) (fun _ x a=>.inl (if p x then a++[x] else a)) (fun a=>a) (fun i a=>a.length≤i) (fun i a x hx hI=>.inl ⟨_,rfl,by split <;> (try simp only [List.length_append,List.length_cons,List.length_nil]) <;> omega,h1 i x a hx hI⟩) (fun a _=>h2 a) [] (Nat.le_refl 0) (by omega)
 have e0:((0:Nat):Int)=0:=rfl
 simp only [e0] at this
 rw [this]
 have gen:∀ (ys:List TService) (i:Nat) (a:List TService),walkL (fun (_:Nat) (x:TService) (a:List TService)=>(.inl (if p x then a++[x] else a):List TService ⊕ List TService)) (fun a=>a) i ys a=a++ys.filter p:=by
  intro ys
  induction ys with
  | nil=>intro i a; simp [walkL]
  | cons y ys ih=>intro i a; simp only [walkL]; rw [ih]; cases h:p y <;> simp [h]
 rw [gen]; rfl
theorem p_copyServices (list:List TService) (hl:z_ServiceS list≤1048576):M_di list=some list:=by
 have hll:=z_svl hl
 unfold M_di
 rw [cps_loop (f:=M_y list) list (fun _=>true) hll (fun i x a hx ha=>by
  have hlt:=(List.getElem?_eq_some_iff.1 hx).1
  have e1:decide ((i:Int) < list.length)=true:=by simp [hlt]
  obtain ⟨w1,w2⟩:=z_svc hl (List.mem_of_getElem? hx)
  simp only [M_y,e1,cond_true,geti_nat,hx,Option.bind_some,M_cq,bnd]
  rw [grd_t (by omega)]
  simp only [Option.bind_some]
  rw [grd_t (by omega)]
  simp only [Option.bind_some]
  rw [grd_t (by omega),w64_eq (by omega) (by omega)]; rfl) (fun a=>by simp [M_y])]
 simp
theorem p_l13Own (s:TService) (h1:s.Work.Fibers.length≤1048576) (h2:s.Spare.Fibers.length≤1048576):M_dj s=some s:=by
 unfold M_dj M_cr M_et
 rw [grd_t (by omega)]
 simp only [Option.bind_some]
 rw [grd_t (by omega)]; rfl
def dpP (n:TNetwork) (list:List TService) (id:Int):List TService×Bool :=
 if svsOk n list&&list.any fun s=>s.Id==id then (list.filter fun s=>s.Id != id,true) else ([],false)
theorem p_impl_DropService (n:TNetwork) (list:List TService) (id:Int) (hz:z_Network n≤1048576) (hl:z_ServiceS list≤1048576):M_ce n list id=some (dpP n list id):=by
 have hll:=z_svl hl
 unfold M_ce dpP
 rw [p_IFS list (fun x0=>M_eu x0 id) (fun s=>s.Id==id) (fun x _=>rfl) hll]
 simp only [Option.bind_some,p_IsValidServices n list hz hl]
 cases hf:findI (fun _ (s:TService)=>s.Id==id) list with
 | none =>
   have h0:=findI_none.1 hf
   have ha:(list.any fun s=>s.Id==id)=false:=by
    rw [List.any_eq_false]
    intro x hx
    obtain ⟨i,hi⟩:=List.getElem?_of_mem hx
    simpa using h0 i x hi
   rw [ha,Bool.and_false]
   cases svsOk n list <;> rfl
 | some q =>
   obtain ⟨i,x⟩:=q
   obtain ⟨f1,f2,_⟩:=findI_some.1 hf
   have hlt:=(List.getElem?_eq_some_iff.1 f1).1
   have hid:x.Id=id:=by simpa using f2
   have ha:(list.any fun s=>s.Id==id)=true:=List.any_eq_true.2 ⟨x,List.mem_of_getElem? f1,by simpa using hid⟩
   have e0:decide (((i:Nat):Int) < 0)=false:=decide_eq_false (by omega)
   rw [ha,Bool.and_true]
   rcases bt (svsOk n list) with e | e
   · rw [e]
     simp only [Bool.not_true,cond_false,Option.bind_some,e0,if_true,p_copyServices list hl]
     have hd:M_bs _root_.id (⟨0,0,(⟨0,[]⟩:TRoute),(⟨0,0⟩:TBlock),(⟨0,[]⟩:TRoute),(⟨0,0⟩:TBlock)⟩:TService) (i:Int) (IntKind.wrap .i64 ((i:Int)+1)) list=remF (⟨0,0,(⟨0,[]⟩:TRoute),(⟨0,0⟩:TBlock),(⟨0,[]⟩:TRoute),(⟨0,0⟩:TBlock)⟩:TService) (i:Int) (IntKind.wrap .i64 ((i:Int)+1)) list:=rfl
     rw [hd,wrap_s (by omega),remF_eq,if_pos (by omega)]
     simp only [Option.bind_some,bnd,Int.toNat_natCast]
     rw [subT_drop,List.drop_zero,List.take_append_of_le_length (by simp; omega),List.take_of_length_le (by simp; omega),fil_erase id list i x (rise_nodup (svs_asc e)) f1 hid]
   · rw [e]; rfl
theorem p_spec_DropService (n:TNetwork) (list:List TService) (id:Int) (hz:z_Network n≤1048576) (hl:z_ServiceS list≤1048576):M_dk n list id=some (dpP n list id):=by
 have hll:=z_svl hl
 unfold M_dk dpP
 rw [p_l13Good n list hz hl]
 simp only [Option.bind_some]
 rcases bt (svsOk n list) with e | e
 · rw [e]
   simp only [Bool.not_true,cond_false,Bool.true_and]
   rw [cps_loop (f:=M_h list id) list (fun s=>s.Id != id) hll (fun i x a hx ha=>by
    have hlt:=(List.getElem?_eq_some_iff.1 hx).1
    have e1:decide ((i:Int) < list.length)=true:=by simp [hlt]
    obtain ⟨w1,w2⟩:=z_svc hl (List.mem_of_getElem? hx)
    simp only [M_h,e1,cond_true,geti_nat,hx,Option.bind_some]
    rw [w64_eq (n:=(i:Int)+1) (by omega) (by omega)]
    cases x.Id != id with
    | false=>rfl
    | true =>
      simp only [cond_true,p_l13Own x w1 w2,Option.bind_some,bnd]
      rw [grd_t (by omega)]; rfl) (fun a=>by simp [M_h])]
   simp only [Option.bind_some]
   cases ha:(list.any fun s=>s.Id==id) with
   | true =>
     obtain ⟨x,hx,h2⟩:=List.any_eq_true.1 ha
     have hlt:(list.filter fun s=>s.Id != id).length < list.length:=by
      rcases Nat.lt_or_ge (list.filter fun s=>s.Id != id).length list.length with h | h
      · exact h
      · exfalso
        have:=(List.filter_sublist (l:=list) (p:=fun s=>s.Id != id)).eq_of_length_le h
        rw [List.filter_eq_self] at this
        have:=this x hx
        simp only [beq_iff_eq] at h2
        simp [h2] at this
     have:((((list.filter fun s=>s.Id != id).length:Nat):Int)==(list.length:Int))=false:=by rw [beq_eq_false_iff_ne]; omega
     rw [this]; rfl
   | false =>
     have:list.filter (fun s=>s.Id != id)=list:=by
      rw [List.filter_eq_self]
      intro x hx
      have:=List.any_eq_false.1 ha x hx
      simpa using this
     rw [this]; simp
 · rw [e]; rfl
theorem z_svc_sub {M L:List TService} (h:M.Sublist L):z_ServiceS M≤z_ServiceS L:=by
 unfold z_ServiceS
 have h1:=h.length_le
 have h2:(M.map fun x=>z_Service x).sum≤(L.map fun x=>z_Service x).sum:=by
  clear h1
  induction h with
  | slnil=>exact Nat.le_refl _
  | cons a _ ih=>simp; omega
  | cons_cons a _ ih=>simp; omega
 omega
theorem zr_DropService (n:TNetwork) (list:List TService) (id:Int) (hz:z_Network n≤1048576) (hl:z_ServiceS list≤1048576):z_ServiceS (dpP n list id).1≤1048576:=by
 unfold dpP
 split
 · exact Nat.le_trans (z_svc_sub List.filter_sublist) hl
 · decide
end Vs

namespace Vs
open Go
theorem subT_len {α:Type} {xs:List α} {n:Nat} (h:xs.length=n):subT xs 0 n=xs:=by subst h; exact subT_all xs
theorem p_FnExactDropService (x1:TNetwork) (x2:List TService) (x3:Int) (o1:ok_Network x1) (o2:ok_ServiceS x2):M_er x1 x2 x3=some true:=by
 unfold M_er
 rw [p_szNetwork x1 _ (by omega) (by omega) o1]
 simp only [Option.bind_some]
 by_cases hc1:(1048576:Int) - z_Network x1 < 0
 · simp [hc1]
 simp only [hc1,if_false,decide_false,cond_false]
 rw [p_szServiceS x2 _ (by omega) (by omega) o2]
 simp only [Option.bind_some]
 by_cases hc2:(1048576:Int) - z_Network x1 - z_ServiceS x2 < 0
 · simp [hc2]
 simp only [hc2,if_false,decide_false,cond_false]
 have z1:z_Network x1≤1048576:=by omega
 have z2:z_ServiceS x2≤1048576:=by omega
 have zr:=zr_DropService x1 x2 x3 z1 z2
 have zr1:=zr
 have w1:=w_fc x1
 have f1:=mkr_fst_Network 1 x1
 have m1:=p_markNetwork x1 1 (by omega) (by omega) z1
 have n1:decide ((mkr_Network 1 x1).1 < 0)=false:=decide_eq_false (by omega)
 have w2:=w_fb x2
 have f2:=markL_fst mk_ServiceS w_bc hw_ServiceS x2 ((mkr_Network 1 x1).1)
 have m2:=p_markServiceS x2 ((mkr_Network 1 x1).1) (by omega) (by omega) z2
 have n2:decide ((markL mk_ServiceS ((mkr_Network 1 x1).1) x2).1 < 0)=false:=decide_eq_false (by omega)
 have w3:=w_fb (dpP x1 x2 x3).1
 have f3:=markL_fst mk_ServiceS w_bc hw_ServiceS (dpP x1 x2 x3).1 1
 have m3:=p_markServiceS (dpP x1 x2 x3).1 1 (by omega) (by omega) zr1
 have n3:decide ((markL mk_ServiceS 1 (dpP x1 x2 x3).1).1 < 0)=false:=decide_eq_false (by omega)
 have grZ31:=p_heldServiceS (dpP x1 x2 x3).1 1 (by omega) (by omega) zr1
 have grZ41:=p_heldServiceS (dpP x1 x2 x3).1 1 (by omega) (by omega) zr1
 simp only [p_spec_DropService x1 x2 x3 z1 z2,p_impl_DropService x1 x2 x3 z1 z2,p_toNetwork x1 z1,p_toServiceS x2 z2,p_eqServiceS ((dpP x1 x2 x3).1) zr1,p_eqNetwork x1 z1,p_eqServiceS x2 z2,m1,n1,m2,n2,m3,n3,subT_len (markL_len mk_ServiceS (dpP x1 x2 x3).1 1),grZ31,grZ41,Option.bind_some,Bool.not_true,beq_self_eq_true,bnd,bne_self_eq_false,cond_false,cond_true]
end Vs

