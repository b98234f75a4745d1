/-
  Part of the proof that the law FnExactRevertLights returns true at every input; no condition beside the row's own.
-/
import Derived.Test.YtgpbibgbfklikaaGreatSe
import Derived.Test.YtgpbibgbfklikaaGreatEa
set_option linter.defProp false
set_option linter.unusedSimpArgs false
set_option linter.unusedVariables false
namespace Vs
open Go
theorem b2s_len:∀ (ns:List Int) (r:ByteArray),(ns.foldl (fun r n=>r.push (UInt8.ofNat n.toNat)) r).size=r.size+ns.length
 | [],r=>by simp
 | n :: ns, r => by
   simp only [List.foldl_cons,b2s_len ns,List.length_cons,ByteArray.size_push]; omega
theorem b2s_size (ns:List Int):(b2s ns).size=ns.length:=by
 unfold b2s; rw [b2s_len]; simp
def txt (k:Int):ByteArray:=(M_by k).getD ⟨#[]⟩
theorem p_markText (k:Int) (h0:0≤k) (h1:k≤1000000000000):M_by k=some (txt k):=by
 have:∃ r,M_by k=some r:=by
  unfold M_by
  by_cases h:k≤0
  · exact ⟨_,by rw [decide_eq_true h,cond_true]⟩
  · rw [decide_eq_false h,cond_false]
    obtain ⟨b,hb,hq⟩:=iter_inv (f:=M_az) (fun s=>0≤s.1∧s.2.size≤13∧s.1 * 10 ^ s.2.size≤1000000000000) (fun s=>s.1.toNat) (fun b=>b.size≤13) (fun s hI=>by
     obtain ⟨a,z⟩:=s
     obtain ⟨i1,i2,i3⟩:=hI
     simp only at i1 i2 i3
     by_cases hp:0 < a
     · left
       have hz:z.size≤12:=by
        apply Decidable.byContradiction
        intro hc
        have e:z.size=13:=by omega
        rw [e] at i3
        omega
       have hd:10 * (a.tdiv 10)≤a:=by rw [Int.tdiv_eq_ediv_of_nonneg i1]; omega
       have hd2:a.tdiv 10 < a:=by rw [Int.tdiv_eq_ediv_of_nonneg i1]; omega
       have hd3:0≤a.tdiv 10:=by rw [Int.tdiv_eq_ediv_of_nonneg i1]; omega
       have hpow:(0:Int)≤10 ^ z.size:=Int.le_of_lt (Int.pow_pos (by omega))
       have ha:a≤1000000000000:=by
        have h1:(1:Int)≤10 ^ z.size:=Int.pow_pos (by omega)
        have:=Int.mul_le_mul_of_nonneg_left h1 i1
        omega
       refine ⟨(a.tdiv 10,b2s [IntKind.wrap .u8 (IntKind.wrap .i64 (48+(Int.tmod a 10)))]++z),?_,⟨hd3,?_,?_⟩,by simp only; omega⟩
       · simp only [M_az,decide_eq_true hp,cond_true,bnd]
         rw [grd_t (by omega),grd_t (by rw [b2s_size]; simp; omega)]
         simp only [Option.bind_some]
         rw [w64_eq (n:=Int.tdiv a 10) (by omega) (by omega)]
       · simp only [ByteArray.size_append,b2s_size,List.length_cons,List.length_nil]; omega
       · simp only [ByteArray.size_append,b2s_size,List.length_cons,List.length_nil]
         rw [show 0+1+z.size=z.size+1 by omega,Int.pow_succ,Int.mul_comm (10 ^ z.size) 10,← Int.mul_assoc,Int.mul_comm (a.tdiv 10) 10]
         exact Int.le_trans (Int.mul_le_mul_of_nonneg_right hd hpow) i3
     · right
       exact ⟨z,by simp only [M_az,decide_eq_false hp,cond_false],i2⟩) N0 (k,⟨#[]⟩) ⟨h0,by show (0:Nat)≤13; omega,by show k * 10 ^ 0≤1000000000000; simpa using h1⟩ (N0_lt (by simp; omega))
    rw [hb]
    simp only [Option.bind_some]
    rw [grd_t (by have:(⟨#[109]⟩:ByteArray).size=1:=rfl; omega)]
    exact ⟨_,rfl⟩
 obtain ⟨r,hr⟩:=this
 unfold txt; rw [hr]; rfl
def z_StringS (xs:(List ByteArray)):Nat:=xs.length+(xs.map fun x=>x.size).sum
def ok_StringS (xs:(List ByteArray)):Prop:=xs.length≤9223372036854775807∧∀ x∈xs,x.size≤9223372036854775807
theorem p_szStringS (xs:(List ByteArray)) (l:Int) (h1:0≤l) (h2:l≤1048576) (hs:ok_StringS xs):M_ee xs l=some (if l - z_StringS xs < 0 then (-1:Int) else l - z_StringS xs):=by
 unfold M_ee
 have hs1:=hs.1
 rw [w64_eq (by omega) (by omega)]
 simp only [cond_ite,decide_eq_true_eq]
 by_cases h:l - (xs.length:Int) < 0
 · rw [if_pos h,if_pos (by unfold z_StringS; omega)]
 · rw [if_neg h,sz_loop (f:=M_ac xs) xs (fun x=>x.size) (fun i x l' hx h3 h4=>by
    have hlt:=(List.getElem?_eq_some_iff.1 hx).1
    have h1:decide ((i:Int) < xs.length)=true:=by simp [hlt]
    have hx2:=hs.2 x (List.mem_of_getElem? hx)
    simp only [M_ac,h1,cond_true,geti_nat,hx,Option.bind_some,cond_ite,decide_eq_true_eq]
    rw [w64_eq (by omega) (by omega),w64_eq (by omega) (by omega)]
    by_cases h5:l' - (x.size:Int) < 0
    · simp only [if_pos h5,if_true]
    · simp only [if_neg h5,if_true]; rfl) (fun l=>by simp [M_ac]) _ (by omega) (by omega) (by omega)]
   have e:l - (xs.length:Int) - ((xs.map fun x=>x.size).sum:Nat)=l - (z_StringS xs:Int):=by unfold z_StringS; omega
   rw [e]
   by_cases h5:l - (z_StringS xs:Int) < 0
   · simp only [if_pos h5,Option.bind_some]
   · simp only [if_neg h5,Option.bind_some]
theorem p_toStringS (xs:(List ByteArray)) (hl:z_StringS xs≤1048576):M_el xs=some xs:=by
 unfold M_el
 have hlen:xs.length≤1048576:=by unfold z_StringS at hl; omega
 have key:=fun l0 (h0:l0.length=xs.length)=>iter_copy (f:=M_ae xs) xs id l0 h0 (fun i l x y hx hy hll=>by
  have hlt:=(List.getElem?_eq_some_iff.1 hx).1
  have h1:decide ((i:Int) < xs.length)=true:=by simp [hlt]
  have h2:(0≤(i:Int)∧(i:Int) < (l.length:Int)):=by omega
  simp only [M_ae,h1,cond_true,geti_nat,hx,Option.bind_some,grd_t h2,Int.toNat_natCast,hy,bnd,id]
  rw [w64_eq (by omega) (by omega)]; rfl) (fun l=>by simp [M_ae]) (by omega)
 rw [grd_t (by omega)]
 simp only [Option.bind_some,bnd]
 rw [key _ (by simp)]; simp
theorem p_eqStringS (xs:(List ByteArray)) (hl:z_StringS xs≤1048576):M_fk xs xs=some true:=by
 unfold M_fk
 have hlen:xs.length≤1048576:=by unfold z_StringS at hl; omega
 rw [eq_loop (f:=M_av xs xs) xs (fun i x hx=>by
  have hlt:=(List.getElem?_eq_some_iff.1 hx).1
  have h1:decide ((i:Int) < xs.length)=true:=by simp [hlt]
  simp only [M_av,h1,cond_true,geti_nat,hx,Option.bind_some,beq_self_eq_true,Bool.not_true,cond_false]
  rw [w64_eq (by omega) (by omega)]; rfl) (by simp [M_av]) (by omega)]
 simp
theorem p_toFiber (x:TFiber):M_db x=some x:=by unfold M_db; rfl
theorem p_eqFiber (x:TFiber):M_dg x x=some true:=by unfold M_dg; simp
def z_FiberS (xs:(List TFiber)):Nat:=xs.length
def ok_FiberS (xs:(List TFiber)):Prop:=xs.length≤9223372036854775807
theorem p_szFiberS (xs:(List TFiber)) (l:Int) (h1:0≤l) (h2:l≤1048576) (hs:ok_FiberS xs):M_ef xs l=some (if l - z_FiberS xs < 0 then (-1:Int) else l - z_FiberS xs):=by
 unfold M_ef
 unfold ok_FiberS at hs
 rw [w64_eq (by omega) (by omega)]
 simp only [cond_ite,decide_eq_true_eq]
 by_cases h:l - (xs.length:Int) < 0
 · rw [if_pos h,if_pos (show l - (z_FiberS xs:Int) < 0 from h)]
 · rw [if_neg h,if_neg (show ¬ l - (z_FiberS xs:Int) < 0 from h)]; rfl
theorem p_toFiberS (xs:(List TFiber)) (hl:z_FiberS xs≤1048576):M_em xs=some xs:=by
 unfold M_em
 have hlen:xs.length≤1048576:=by unfold z_FiberS at hl; omega
 have key:=fun l0 (h0:l0.length=xs.length)=>iter_copy (f:=M_af xs) xs id l0 h0 (fun i l x y hx hy hll=>by
  have hlt:=(List.getElem?_eq_some_iff.1 hx).1
  have h1:decide ((i:Int) < xs.length)=true:=by simp [hlt]
  have h2:(0≤(i:Int)∧(i:Int) < (l.length:Int)):=by omega
  have hto:M_db x=some x:=p_toFiber x
  simp only [M_af,h1,cond_true,geti_nat,hx,Option.bind_some,grd_t h2,Int.toNat_natCast,hy,hto,bnd,id]
  rw [w64_eq (by omega) (by omega)]; rfl) (fun l=>by simp [M_af]) (by omega)
 rw [grd_t (by omega)]
 simp only [Option.bind_some,bnd]
 rw [key _ (by simp)]; simp
theorem p_eqFiberS (xs:(List TFiber)) (hl:z_FiberS xs≤1048576):M_fl xs xs=some true:=by
 unfold M_fl
 have hlen:xs.length≤1048576:=by unfold z_FiberS at hl; omega
 rw [eq_loop (f:=M_aw xs xs) xs (fun i x hx=>by
  have hlt:=(List.getElem?_eq_some_iff.1 hx).1
  have h1:decide ((i:Int) < xs.length)=true:=by simp [hlt]
  have he:M_dg x x=some true:=p_eqFiber x
  simp only [M_aw,h1,cond_true,geti_nat,hx,Option.bind_some,he,Bool.not_true,cond_false]
  rw [w64_eq (by omega) (by omega)]; rfl) (by simp [M_aw]) (by omega)]
 simp
def z_Network (x:TNetwork):Nat:=z_StringS x.Nodes+z_FiberS x.Fibers
def ok_Network (x:TNetwork):Prop:=ok_StringS x.Nodes∧ok_FiberS x.Fibers
theorem p_szNetwork (x:TNetwork) (l:Int) (h1:0≤l) (h2:l≤1048576) (hs:ok_Network x):M_eg x l=some (if l - z_Network x < 0 then (-1:Int) else l - z_Network x):=by
 unfold M_eg
 obtain ⟨hs0,hs1⟩:=hs
 rw [p_szStringS _ _ (by omega) (by omega) hs0]
 simp only [Option.bind_some]
 by_cases h10:l - (z_StringS x.Nodes:Int) < 0
 · rw [if_pos h10,if_pos (show l - (z_Network x:Int) < 0 by unfold z_Network; omega)]; simp
 · simp only [if_neg h10]
   simp only [h10,decide_false,cond_false]
   rw [p_szFiberS _ _ (by omega) (by omega) hs1]
   simp only [Option.bind_some]
   by_cases h11:l - (z_StringS x.Nodes:Int) - (z_FiberS x.Fibers:Int) < 0
   · rw [if_pos h11,if_pos (show l - (z_Network x:Int) < 0 by unfold z_Network; omega)]; simp
   · simp only [if_neg h11]
     simp only [h11,decide_false,cond_false]
     have e:l - (z_StringS x.Nodes:Int) - (z_FiberS x.Fibers:Int)=l - (z_Network x:Int):=by unfold z_Network; omega
     rw [e,if_neg (by omega)]
theorem p_toNetwork (x:TNetwork) (hl:z_Network x≤1048576):M_en x=some x:=by
 unfold M_en
 simp only [p_toStringS x.Nodes (by unfold z_Network at hl; omega),p_toFiberS x.Fibers (by unfold z_Network at hl; omega),Option.bind_some]
theorem p_eqNetwork (x:TNetwork) (hl:z_Network x≤1048576):M_fm x x=some true:=by
 unfold M_fm
 simp [p_eqStringS x.Nodes (by unfold z_Network at hl; omega),p_eqFiberS x.Fibers (by unfold z_Network at hl; omega)]
def z_IntS (xs:(List Int)):Nat:=xs.length
def ok_IntS (xs:(List Int)):Prop:=xs.length≤9223372036854775807
theorem p_szIntS (xs:(List Int)) (l:Int) (h1:0≤l) (h2:l≤1048576) (hs:ok_IntS xs):M_cj xs l=some (if l - z_IntS xs < 0 then (-1:Int) else l - z_IntS xs):=by
 unfold M_cj
 unfold ok_IntS at hs
 rw [w64_eq (by omega) (by omega)]
 simp only [cond_ite,decide_eq_true_eq]
 by_cases h:l - (xs.length:Int) < 0
 · rw [if_pos h,if_pos (show l - (z_IntS xs:Int) < 0 from h)]
 · rw [if_neg h,if_neg (show ¬ l - (z_IntS xs:Int) < 0 from h)]; rfl
theorem p_toIntS (xs:(List Int)) (hl:z_IntS xs≤1048576):M_cl xs=some xs:=by
 unfold M_cl
 have hlen:xs.length≤1048576:=by unfold z_IntS at hl; omega
 have key:=fun l0 (h0:l0.length=xs.length)=>iter_copy (f:=M_ag xs) xs id l0 h0 (fun i l x y hx hy hll=>by
  have hlt:=(List.getElem?_eq_some_iff.1 hx).1
  have h1:decide ((i:Int) < xs.length)=true:=by simp [hlt]
  have h2:(0≤(i:Int)∧(i:Int) < (l.length:Int)):=by omega
  simp only [M_ag,h1,cond_true,geti_nat,hx,Option.bind_some,grd_t h2,Int.toNat_natCast,hy,bnd,id]
  rw [w64_eq (by omega) (by omega)]; rfl) (fun l=>by simp [M_ag]) (by omega)
 rw [grd_t (by omega)]
 simp only [Option.bind_some,bnd]
 rw [key _ (by simp)]; simp
theorem p_eqIntS (xs:(List Int)) (hl:z_IntS xs≤1048576):M_bl xs xs=some true:=by
 unfold M_bl
 have hlen:xs.length≤1048576:=by unfold z_IntS at hl; omega
 rw [eq_loop (f:=M_ax xs xs) xs (fun i x hx=>by
  have hlt:=(List.getElem?_eq_some_iff.1 hx).1
  have h1:decide ((i:Int) < xs.length)=true:=by simp [hlt]
  simp only [M_ax,h1,cond_true,geti_nat,hx,Option.bind_some,bne_self_eq_false,cond_false]
  rw [w64_eq (by omega) (by omega)]; rfl) (by simp [M_ax]) (by omega)]
 simp
def z_Route (x:TRoute):Nat:=z_IntS x.Fibers
def ok_Route (x:TRoute):Prop:=ok_IntS x.Fibers
theorem p_szRoute (x:TRoute) (l:Int) (h1:0≤l) (h2:l≤1048576) (hs:ok_Route x):M_eh x l=some (if l - z_Route x < 0 then (-1:Int) else l - z_Route x):=by
 unfold M_eh
 have hs0:ok_IntS x.Fibers:=hs
 rw [p_szIntS _ _ (by omega) (by omega) hs0]
 simp only [Option.bind_some]
 by_cases h10:l - (z_IntS x.Fibers:Int) < 0
 · rw [if_pos h10,if_pos (show l - (z_Route x:Int) < 0 by unfold z_Route; omega)]; simp
 · simp only [if_neg h10]
   simp only [h10,decide_false,cond_false]
   have e:l - (z_IntS x.Fibers:Int)=l - (z_Route x:Int):=by unfold z_Route; omega
   rw [e,if_neg (by omega)]
theorem p_toRoute (x:TRoute) (hl:z_Route x≤1048576):M_eo x=some x:=by
 unfold M_eo
 simp only [p_toIntS x.Fibers (by unfold z_Route at hl; omega),Option.bind_some]
theorem p_eqRoute (x:TRoute) (hl:z_Route x≤1048576):M_fn x x=some true:=by
 unfold M_fn
 simp [p_eqIntS x.Fibers (by unfold z_Route at hl; omega)]
theorem p_toBlock (x:TBlock):M_ep x=some x:=by unfold M_ep; rfl
theorem p_eqBlock (x:TBlock):M_fo x x=some true:=by unfold M_fo; simp
def z_Light (x:TLight):Nat:=z_Route x.Route
def ok_Light (x:TLight):Prop:=ok_Route x.Route
theorem p_szLight (x:TLight) (l:Int) (h1:0≤l) (h2:l≤1048576) (hs:ok_Light x):M_ei x l=some (if l - z_Light x < 0 then (-1:Int) else l - z_Light x):=by
 unfold M_ei
 have hs0:ok_Route x.Route:=hs
 rw [p_szRoute _ _ (by omega) (by omega) hs0]
 simp only [Option.bind_some]
 by_cases h10:l - (z_Route x.Route:Int) < 0
 · rw [if_pos h10,if_pos (show l - (z_Light x:Int) < 0 by unfold z_Light; omega)]; simp
 · simp only [if_neg h10]
   simp only [h10,decide_false,cond_false]
   have e:l - (z_Route x.Route:Int)=l - (z_Light x:Int):=by unfold z_Light; omega
   rw [e,if_neg (by omega)]
theorem p_toLight (x:TLight) (hl:z_Light x≤1048576):M_dc x=some x:=by
 unfold M_dc
 simp only [p_toRoute x.Route (by unfold z_Light at hl; omega),p_toBlock x.Block,Option.bind_some]
theorem p_eqLight (x:TLight) (hl:z_Light x≤1048576):M_dh x x=some true:=by
 unfold M_dh
 simp [p_eqRoute x.Route (by unfold z_Light at hl; omega),p_eqBlock x.Block]
def z_LightS (xs:(List TLight)):Nat:=xs.length+(xs.map fun x=>z_Light x).sum
def ok_LightS (xs:(List TLight)):Prop:=xs.length≤9223372036854775807∧∀ x∈xs,ok_Light x
theorem p_szLightS (xs:(List TLight)) (l:Int) (h1:0≤l) (h2:l≤1048576) (hs:ok_LightS xs):M_ck xs l=some (if l - z_LightS xs < 0 then (-1:Int) else l - z_LightS xs):=by
 unfold M_ck
 have hs1:=hs.1
 rw [w64_eq (by omega) (by omega)]
 simp only [cond_ite,decide_eq_true_eq]
 by_cases h:l - (xs.length:Int) < 0
 · rw [if_pos h,if_pos (by unfold z_LightS; omega)]
 · rw [if_neg h,sz_loop (f:=M_ad xs) xs (fun x=>z_Light x) (fun i x l' hx h3 h4=>by
    have hlt:=(List.getElem?_eq_some_iff.1 hx).1
    have h1:decide ((i:Int) < xs.length)=true:=by simp [hlt]
    simp only [M_ad,h1,cond_true,geti_nat,hx,Option.bind_some,p_szLight x l' h3 h4 (hs.2 x (List.mem_of_getElem? hx)),cond_ite,decide_eq_true_eq]
    rw [w64_eq (by omega) (by omega)]
    by_cases h5:l' - (z_Light x:Int) < 0
    · simp only [if_pos h5,if_true,Int.reduceNeg,Int.reduceLT]
    · simp only [if_neg h5,if_true]; rfl) (fun l=>by simp [M_ad]) _ (by omega) (by omega) (by omega)]
   have e:l - (xs.length:Int) - ((xs.map fun x=>z_Light x).sum:Nat)=l - (z_LightS xs:Int):=by unfold z_LightS; omega
   rw [e]
   by_cases h5:l - (z_LightS xs:Int) < 0
   · simp only [if_pos h5,Option.bind_some]
   · simp only [if_neg h5,Option.bind_some]
theorem p_toLightS (xs:(List TLight)) (hl:z_LightS xs≤1048576):M_cm xs=some xs:=by
 unfold M_cm
 have hlen:xs.length≤1048576:=by unfold z_LightS at hl; omega
 have key:=fun l0 (h0:l0.length=xs.length)=>iter_copy (f:=M_ah xs) xs id l0 h0 (fun i l x y hx hy hll=>by
  have hlt:=(List.getElem?_eq_some_iff.1 hx).1
  have h1:decide ((i:Int) < xs.length)=true:=by simp [hlt]
  have h2:(0≤(i:Int)∧(i:Int) < (l.length:Int)):=by omega
  have hto:M_dc x=some x:=p_toLight x (by have:=sum_ge (fun x=>z_Light x) hx; unfold z_LightS at hl; omega)
  simp only [M_ah,h1,cond_true,geti_nat,hx,Option.bind_some,grd_t h2,Int.toNat_natCast,hy,hto,bnd,id]
  rw [w64_eq (by omega) (by omega)]; rfl) (fun l=>by simp [M_ah]) (by omega)
 rw [grd_t (by omega)]
 simp only [Option.bind_some,bnd]
 rw [key _ (by simp)]; simp
theorem p_eqLightS (xs:(List TLight)) (hl:z_LightS xs≤1048576):M_cz xs xs=some true:=by
 unfold M_cz
 have hlen:xs.length≤1048576:=by unfold z_LightS at hl; omega
 rw [eq_loop (f:=M_ay xs xs) xs (fun i x hx=>by
  have hlt:=(List.getElem?_eq_some_iff.1 hx).1
  have h1:decide ((i:Int) < xs.length)=true:=by simp [hlt]
  have he:M_dh x x=some true:=p_eqLight x (by have:=sum_ge (fun x=>z_Light x) hx; unfold z_LightS at hl; omega)
  simp only [M_ay,h1,cond_true,geti_nat,hx,Option.bind_some,he,Bool.not_true,cond_false]
  rw [w64_eq (by omega) (by omega)]; rfl) (by simp [M_ay]) (by omega)]
 simp
def z_Plan (x:TPlan):Nat:=z_Network x.Network+z_LightS x.Lights
def ok_Plan (x:TPlan):Prop:=ok_Network x.Network∧ok_LightS x.Lights
theorem p_szPlan (x:TPlan) (l:Int) (h1:0≤l) (h2:l≤1048576) (hs:ok_Plan x):M_ej x l=some (if l - z_Plan x < 0 then (-1:Int) else l - z_Plan x):=by
 unfold M_ej
 obtain ⟨hs0,hs1⟩:=hs
 rw [p_szNetwork _ _ (by omega) (by omega) hs0]
 simp only [Option.bind_some]
 by_cases h10:l - (z_Network x.Network:Int) < 0
 · rw [if_pos h10,if_pos (show l - (z_Plan x:Int) < 0 by unfold z_Plan; omega)]; simp
 · simp only [if_neg h10]
   simp only [h10,decide_false,cond_false]
   rw [p_szLightS _ _ (by omega) (by omega) hs1]
   simp only [Option.bind_some]
   by_cases h11:l - (z_Network x.Network:Int) - (z_LightS x.Lights:Int) < 0
   · rw [if_pos h11,if_pos (show l - (z_Plan x:Int) < 0 by unfold z_Plan; omega)]; simp
   · simp only [if_neg h11]
     simp only [h11,decide_false,cond_false]
     have e:l - (z_Network x.Network:Int) - (z_LightS x.Lights:Int)=l - (z_Plan x:Int):=by unfold z_Plan; omega
     rw [e,if_neg (by omega)]
theorem p_toPlan (x:TPlan) (hl:z_Plan x≤1048576):M_eq x=some x:=by
 unfold M_eq
 simp only [p_toNetwork x.Network (by unfold z_Plan at hl; omega),p_toLightS x.Lights (by unfold z_Plan at hl; omega),Option.bind_some]
theorem p_eqPlan (x:TPlan) (hl:z_Plan x≤1048576):M_fp x x=some true:=by
 unfold M_fp
 simp [p_eqNetwork x.Network (by unfold z_Plan at hl; omega),p_eqLightS x.Lights (by unfold z_Plan at hl; omega)]
def z_Restoration (x:TRestoration):Nat:=z_Plan x.Plan+z_LightS x.Home+z_IntS x.Down
def ok_Restoration (x:TRestoration):Prop:=ok_Plan x.Plan∧ok_LightS x.Home∧ok_IntS x.Down
theorem p_szRestoration (x:TRestoration) (l:Int) (h1:0≤l) (h2:l≤1048576) (hs:ok_Restoration x):M_ek x l=some (if l - z_Restoration x < 0 then (-1:Int) else l - z_Restoration x):=by
 unfold M_ek
 obtain ⟨hs0,hs1,hs2⟩:=hs
 rw [p_szPlan _ _ (by omega) (by omega) hs0]
 simp only [Option.bind_some]
 by_cases h10:l - (z_Plan x.Plan:Int) < 0
 · rw [if_pos h10,if_pos (show l - (z_Restoration x:Int) < 0 by unfold z_Restoration; omega)]; simp
 · simp only [if_neg h10]
   simp only [h10,decide_false,cond_false]
   rw [p_szLightS _ _ (by omega) (by omega) hs1]
   simp only [Option.bind_some]
   by_cases h11:l - (z_Plan x.Plan:Int) - (z_LightS x.Home:Int) < 0
   · rw [if_pos h11,if_pos (show l - (z_Restoration x:Int) < 0 by unfold z_Restoration; omega)]; simp
   · simp only [if_neg h11]
     simp only [h11,decide_false,cond_false]
     rw [p_szIntS _ _ (by omega) (by omega) hs2]
     simp only [Option.bind_some]
     by_cases h12:l - (z_Plan x.Plan:Int) - (z_LightS x.Home:Int) - (z_IntS x.Down:Int) < 0
     · rw [if_pos h12,if_pos (show l - (z_Restoration x:Int) < 0 by unfold z_Restoration; omega)]; simp
     · simp only [if_neg h12]
       simp only [h12,decide_false,cond_false]
       have e:l - (z_Plan x.Plan:Int) - (z_LightS x.Home:Int) - (z_IntS x.Down:Int)=l - (z_Restoration x:Int):=by unfold z_Restoration; omega
       rw [e,if_neg (by omega)]
theorem p_toRestoration (x:TRestoration) (hl:z_Restoration x≤1048576):M_bs x=some x:=by
 unfold M_bs
 simp only [p_toPlan x.Plan (by unfold z_Restoration at hl; omega),p_toLightS x.Home (by unfold z_Restoration at hl; omega),p_toIntS x.Down (by unfold z_Restoration at hl; omega),Option.bind_some]
theorem p_eqRestoration (x:TRestoration) (hl:z_Restoration x≤1048576):M_bu x x=some true:=by
 unfold M_bu
 simp [p_eqPlan x.Plan (by unfold z_Restoration at hl; omega),p_eqLightS x.Home (by unfold z_Restoration at hl; omega),p_eqIntS x.Down (by unfold z_Restoration at hl; omega)]
def mk_StringS (k:Int) (_:ByteArray):Int×ByteArray:=(k+1,txt k)
def w_d (_:ByteArray):Nat:=1
theorem hw_StringS (k:Int) (x:ByteArray):(mk_StringS k x).1=k+(w_d x:Int):=rfl
theorem w_gm (xs:(List ByteArray)):(xs.map w_d).sum≤16 * z_StringS xs:=by
 unfold z_StringS
 induction xs with
 | nil=>simp
 | cons x xs ih=>simp only [List.map_cons,List.sum_cons,List.length_cons,w_d] at ih ⊢; omega
theorem p_markStringS (xs:(List ByteArray)) (k0:Int) (hk:0≤k0) (hK:k0+((xs.map w_d).sum:Nat)≤1000000000000) (hl:z_StringS xs≤1048576):M_fq k0 xs=some (markL mk_StringS k0 xs):=by
 unfold M_fq
 have hlen:xs.length≤1048576:=by unfold z_StringS at hl; omega
 rw [mark_loop (f:=M_ba) xs mk_StringS w_d hw_StringS 1000000000000 (fun i x k l hll hi hx hli h0 hK2=>by
  have hw1:w_d x=w_d x:=rfl
  have h1:decide ((i:Int) < (l.length:Int))=true:=decide_eq_true (by omega)
  have h2:0≤(i:Int)∧(i:Int) < (l.length:Int):=by omega
  simp only [M_ba,h1,cond_true,grd_t h2,Option.bind_some,Int.toNat_natCast,hli,bnd,p_markText k h0 (by omega)]
  rw [w64_eq (n:=k+1) (by unfold w_d at hK2; omega) (by unfold w_d at hK2; omega),w64_eq (n:=(i:Int)+1) (by unfold w_d at hK2; omega) (by unfold w_d at hK2; omega)]
  rfl) (fun k l hll=>by simp [M_ba,hll]) k0 hk hK (by omega)]
 rfl
theorem p_heldStringS (xs:(List ByteArray)) (k0:Int) (hk:0≤k0) (hK:k0+((xs.map w_d).sum:Nat)≤1000000000000) (hl:z_StringS xs≤1048576):M_dj (markL mk_StringS k0 xs).2 k0=some (markL mk_StringS k0 xs).1:=by
 unfold M_dj
 have hlen:xs.length≤1048576:=by unfold z_StringS at hl; omega
 rw [held_loop (f:=M_be (markL mk_StringS k0 xs).2) xs mk_StringS w_d hw_StringS 1000000000000 k0 (fun i x k hx hm h0 hK2=>by
  have hi:=(List.getElem?_eq_some_iff.1 hx).1
  have h1:decide ((i:Int) < ((markL mk_StringS k0 xs).2.length:Int))=true:=decide_eq_true (by rw [markL_len]; omega)
  simp only [M_be,h1,cond_true,geti_nat,hm,Option.bind_some,mk_StringS,p_markText k h0 (by omega),beq_self_eq_true,Bool.not_true,cond_false]
  rw [w64_eq (n:=k+1) (by unfold w_d at hK2; omega) (by unfold w_d at hK2; omega),w64_eq (n:=(i:Int)+1) (by unfold w_d at hK2; omega) (by unfold w_d at hK2; omega)]
  rfl) (fun k=>by simp [M_be,markL_len]) hk hK (by omega)]
 rfl
def mk_FiberS (k:Int) (_:TFiber):Int×TFiber:=(k+4,⟨k,k+1,k+2,k+3⟩)
def w_a (_:TFiber):Nat:=4
theorem hw_FiberS (k:Int) (x:TFiber):(mk_FiberS k x).1=k+(w_a x:Int):=rfl
theorem w_gn (xs:(List TFiber)):(xs.map w_a).sum≤16 * z_FiberS xs:=by
 unfold z_FiberS
 induction xs with
 | nil=>simp
 | cons x xs ih=>simp only [List.map_cons,List.sum_cons,List.length_cons,w_a] at ih ⊢; omega
theorem p_markFiberS (xs:(List TFiber)) (k0:Int) (hk:0≤k0) (hK:k0+((xs.map w_a).sum:Nat)≤1000000000000) (hl:z_FiberS xs≤1048576):M_fr k0 xs=some (markL mk_FiberS k0 xs):=by
 unfold M_fr
 have hlen:xs.length≤1048576:=by unfold z_FiberS at hl; omega
 rw [mark_loop (f:=M_bb) xs mk_FiberS w_a hw_FiberS 1000000000000 (fun i x k l hll hi hx hli h0 hK2=>by
  have hw1:w_a x=w_a x:=rfl
  have h1:decide ((i:Int) < (l.length:Int))=true:=decide_eq_true (by omega)
  have h2:0≤(i:Int)∧(i:Int) < (l.length:Int):=by omega
  simp only [M_bb,h1,cond_true,grd_t h2,Option.bind_some,Int.toNat_natCast,hli,bnd,List.getElem?_set_self (show i < l.length by omega),List.set_set]
  rw [w64_eq (n:=k+1) (by unfold w_a at hK2; omega) (by unfold w_a at hK2; omega),w64_eq (n:=k+1+1) (by unfold w_a at hK2; omega) (by unfold w_a at hK2; omega),w64_eq (n:=k+1+1+1) (by unfold w_a at hK2; omega) (by unfold w_a at hK2; omega),w64_eq (n:=k+1+1+1+1) (by unfold w_a at hK2; omega) (by unfold w_a at hK2; omega),w64_eq (n:=(i:Int)+1) (by unfold w_a at hK2; omega) (by unfold w_a at hK2; omega)]
  simp only [Int.add_assoc,Int.reduceAdd,mk_FiberS]
  rfl) (fun k l hll=>by simp [M_bb,hll]) k0 hk hK (by omega)]
 rfl
theorem p_heldFiberS (xs:(List TFiber)) (k0:Int) (hk:0≤k0) (hK:k0+((xs.map w_a).sum:Nat)≤1000000000000) (hl:z_FiberS xs≤1048576):M_dk (markL mk_FiberS k0 xs).2 k0=some (markL mk_FiberS k0 xs).1:=by
 unfold M_dk
 have hlen:xs.length≤1048576:=by unfold z_FiberS at hl; omega
 rw [held_loop (f:=M_bf (markL mk_FiberS k0 xs).2) xs mk_FiberS w_a hw_FiberS 1000000000000 k0 (fun i x k hx hm h0 hK2=>by
  have hi:=(List.getElem?_eq_some_iff.1 hx).1
  have h1:decide ((i:Int) < ((markL mk_FiberS k0 xs).2.length:Int))=true:=decide_eq_true (by rw [markL_len]; omega)
  simp only [M_bf,h1,cond_true,geti_nat,hm,Option.bind_some,mk_FiberS]
  rw [w64_eq (n:=k+1) (by unfold w_a at hK2; omega) (by unfold w_a at hK2; omega),w64_eq (n:=k+1+1) (by unfold w_a at hK2; omega) (by unfold w_a at hK2; omega),w64_eq (n:=k+1+1+1) (by unfold w_a at hK2; omega) (by unfold w_a at hK2; omega),w64_eq (n:=k+1+1+1+1) (by unfold w_a at hK2; omega) (by unfold w_a at hK2; omega),w64_eq (n:=(i:Int)+1) (by unfold w_a at hK2; omega) (by unfold w_a at hK2; omega)]
  simp only [Int.add_assoc,Int.reduceAdd,bne_self_eq_false,cond_false]
  rfl) (fun k=>by simp [M_bf,markL_len]) hk hK (by omega)]
 rfl
def mkr_Network (k:Int) (x:TNetwork):Int×List ByteArray×List TFiber:=((markL mk_FiberS (markL mk_StringS k x.Nodes).1 x.Fibers).1,(markL mk_StringS k x.Nodes).2,(markL mk_FiberS (markL mk_StringS k x.Nodes).1 x.Fibers).2)
def wr_Network (x:TNetwork):Nat:=(x.Nodes.map w_d).sum+(x.Fibers.map w_a).sum
def mks_Network (k:Int) (x:TNetwork):TNetwork:=⟨(markL mk_StringS k x.Nodes).2,(markL mk_FiberS (markL mk_StringS k x.Nodes).1 x.Fibers).2⟩
theorem p_markNetwork (x:TNetwork) (k0:Int) (hk:0≤k0) (hK:k0+(wr_Network x:Int)≤1000000000000) (hl:z_Network x≤1048576):M_fs k0 x.Nodes x.Fibers=some (mkr_Network k0 x):=by
 unfold M_fs
 unfold wr_Network at hK
 have hz:z_Network x=z_StringS x.Nodes+z_FiberS x.Fibers:=by unfold z_Network; omega
 have f0:=markL_fst mk_StringS w_d hw_StringS x.Nodes k0
 have f1:=markL_fst mk_FiberS w_a hw_FiberS x.Fibers ((markL mk_StringS k0 x.Nodes).1)
 rw [p_markStringS x.Nodes k0 (by omega) (by omega) (by omega)]
 simp only [Option.bind_some]
 rw [p_markFiberS x.Fibers ((markL mk_StringS k0 x.Nodes).1) (by omega) (by omega) (by omega)]
 simp only [Option.bind_some]
 rfl
theorem p_heldNetwork (x:TNetwork) (k0:Int) (hk:0≤k0) (hK:k0+(wr_Network x:Int)≤1000000000000) (hl:z_Network x≤1048576):M_dl (mks_Network k0 x) k0=some (mkr_Network k0 x).1:=by
 unfold wr_Network at hK
 have hz:z_Network x=z_StringS x.Nodes+z_FiberS x.Fibers:=by unfold z_Network; omega
 have f0:=markL_fst mk_StringS w_d hw_StringS x.Nodes k0
 have f1:=markL_fst mk_FiberS w_a hw_FiberS x.Fibers ((markL mk_StringS k0 x.Nodes).1)
 have h0:M_dj (mks_Network k0 x).Nodes k0=some (markL mk_StringS k0 x.Nodes).1:=p_heldStringS x.Nodes k0 (by omega) (by omega) (by omega)
 have n0:decide ((markL mk_StringS k0 x.Nodes).1 < 0)=false:=decide_eq_false (by omega)
 have h1:M_dk (mks_Network k0 x).Fibers ((markL mk_StringS k0 x.Nodes).1)=some (markL mk_FiberS (markL mk_StringS k0 x.Nodes).1 x.Fibers).1:=p_heldFiberS x.Fibers ((markL mk_StringS k0 x.Nodes).1) (by omega) (by omega) (by omega)
 have n1:decide ((markL mk_FiberS (markL mk_StringS k0 x.Nodes).1 x.Fibers).1 < 0)=false:=decide_eq_false (by omega)
 unfold M_dl
 simp only [h0,n0,h1,n1,Option.bind_some,cond_false]
 rfl
def mk_IntS (k:Int) (_:Int):Int×Int:=(k+1,k)
def w_IntS (_:Int):Nat:=1
theorem hw_IntS (k:Int) (x:Int):(mk_IntS k x).1=k+(w_IntS x:Int):=rfl
theorem w_gj (xs:(List Int)):(xs.map w_IntS).sum≤16 * z_IntS xs:=by
 unfold z_IntS
 induction xs with
 | nil=>simp
 | cons x xs ih=>simp only [List.map_cons,List.sum_cons,List.length_cons,w_IntS] at ih ⊢; omega
theorem p_markIntS (xs:(List Int)) (k0:Int) (hk:0≤k0) (hK:k0+((xs.map w_IntS).sum:Nat)≤1000000000000) (hl:z_IntS xs≤1048576):M_bz k0 xs=some (markL mk_IntS k0 xs):=by
 unfold M_bz
 have hlen:xs.length≤1048576:=by unfold z_IntS at hl; omega
 rw [mark_loop (f:=M_bc) xs mk_IntS w_IntS hw_IntS 1000000000000 (fun i x k l hll hi hx hli h0 hK2=>by
  have hw1:w_IntS x=w_IntS x:=rfl
  have h1:decide ((i:Int) < (l.length:Int))=true:=decide_eq_true (by omega)
  have h2:0≤(i:Int)∧(i:Int) < (l.length:Int):=by omega
  simp only [M_bc,h1,cond_true,grd_t h2,Option.bind_some,Int.toNat_natCast,hli,bnd]
  rw [w64_eq (n:=k+1) (by unfold w_IntS at hK2; omega) (by unfold w_IntS at hK2; omega),w64_eq (n:=(i:Int)+1) (by unfold w_IntS at hK2; omega) (by unfold w_IntS at hK2; omega)]
  rfl) (fun k l hll=>by simp [M_bc,hll]) k0 hk hK (by omega)]
 rfl
theorem p_heldIntS (xs:(List Int)) (k0:Int) (hk:0≤k0) (hK:k0+((xs.map w_IntS).sum:Nat)≤1000000000000) (hl:z_IntS xs≤1048576):M_bm (markL mk_IntS k0 xs).2 k0=some (markL mk_IntS k0 xs).1:=by
 unfold M_bm
 have hlen:xs.length≤1048576:=by unfold z_IntS at hl; omega
 rw [held_loop (f:=M_bg (markL mk_IntS k0 xs).2) xs mk_IntS w_IntS hw_IntS 1000000000000 k0 (fun i x k hx hm h0 hK2=>by
  have hi:=(List.getElem?_eq_some_iff.1 hx).1
  have h1:decide ((i:Int) < ((markL mk_IntS k0 xs).2.length:Int))=true:=decide_eq_true (by rw [markL_len]; omega)
  simp only [M_bg,h1,cond_true,geti_nat,hm,Option.bind_some,mk_IntS,bne_self_eq_false,cond_false]
  rw [w64_eq (n:=k+1) (by unfold w_IntS at hK2; omega) (by unfold w_IntS at hK2; omega),w64_eq (n:=(i:Int)+1) (by unfold w_IntS at hK2; omega) (by unfold w_IntS at hK2; omega)]
  rfl) (fun k=>by simp [M_bg,markL_len]) hk hK (by omega)]
 rfl
def mk_LightS (k:Int) (x:TLight):Int×TLight:=((markL mk_IntS (k+1+1) x.Route.Fibers).1+1+1,⟨k,⟨k+1,(markL mk_IntS (k+1+1) x.Route.Fibers).2⟩,⟨(markL mk_IntS (k+1+1) x.Route.Fibers).1,(markL mk_IntS (k+1+1) x.Route.Fibers).1+1⟩⟩)
def w_t (x:TLight):Nat:=4+(x.Route.Fibers.map w_IntS).sum
theorem hw_LightS (k:Int) (x:TLight):(mk_LightS k x).1=k+(w_t x:Int):=by
 unfold mk_LightS w_t
 simp only [markL_fst mk_IntS w_IntS hw_IntS]
 omega
theorem w_gl (xs:(List TLight)):(xs.map w_t).sum≤16 * z_LightS xs:=by
 unfold z_LightS
 induction xs with
 | nil=>simp
 | cons x xs ih =>
   have t0:=w_gj x.Route.Fibers
   simp only [z_IntS] at t0
   simp only [List.map_cons,List.sum_cons,List.length_cons,w_t,z_Light,z_Route,z_IntS] at ih ⊢
   omega
theorem p_markLightS (xs:(List TLight)) (k0:Int) (hk:0≤k0) (hK:k0+((xs.map w_t).sum:Nat)≤1000000000000) (hl:z_LightS xs≤1048576):M_ca k0 xs=some (markL mk_LightS k0 xs):=by
 unfold M_ca
 have hlen:xs.length≤1048576:=by unfold z_LightS at hl; omega
 rw [mark_loop (f:=M_bd) xs mk_LightS w_t hw_LightS 1000000000000 (fun i x k l hll hi hx hli h0 hK2=>by
  have hw1:w_t x=w_t x:=rfl
  have h1:decide ((i:Int) < (l.length:Int))=true:=decide_eq_true (by omega)
  have h2:0≤(i:Int)∧(i:Int) < (l.length:Int):=by omega
  have hb:z_Light x≤1048576:=by have:=sum_ge (fun x=>z_Light x) hx; unfold z_LightS at hl; omega
  unfold z_Light z_Route z_IntS at hb
  unfold w_t at hK2
  simp only [M_bd,h1,cond_true,grd_t h2,Option.bind_some,Int.toNat_natCast,hli,bnd,List.getElem?_set_self (show i < l.length by omega),List.set_set]
  rw [w64_eq (n:=k+1) (by omega) (by omega),w64_eq (n:=k+1+1) (by omega) (by omega)]
  have f0:=markL_fst mk_IntS w_IntS hw_IntS x.Route.Fibers (k+1+1)
  have g0:=w_gj x.Route.Fibers
  unfold z_IntS at g0
  rw [p_markIntS x.Route.Fibers (k+1+1) (by omega) (by omega) (by unfold z_IntS; omega)]
  simp only [Option.bind_some,List.getElem?_set_self (show i < l.length by omega),List.set_set]
  rw [w64_eq (n:=(markL mk_IntS (k+1+1) x.Route.Fibers).1+1) (by omega) (by omega),w64_eq (n:=(markL mk_IntS (k+1+1) x.Route.Fibers).1+1+1) (by omega) (by omega)]
  rw [w64_eq (n:=(i:Int)+1) (by omega) (by omega)]
  rfl) (fun k l hll=>by simp [M_bd,hll]) k0 hk hK (by omega)]
 rfl
theorem p_heldLightS (xs:(List TLight)) (k0:Int) (hk:0≤k0) (hK:k0+((xs.map w_t).sum:Nat)≤1000000000000) (hl:z_LightS xs≤1048576):M_cc (markL mk_LightS k0 xs).2 k0=some (markL mk_LightS k0 xs).1:=by
 unfold M_cc
 have hlen:xs.length≤1048576:=by unfold z_LightS at hl; omega
 rw [held_loop (f:=M_bh (markL mk_LightS k0 xs).2) xs mk_LightS w_t hw_LightS 1000000000000 k0 (fun i x k hx hm h0 hK2=>by
  have hi:=(List.getElem?_eq_some_iff.1 hx).1
  have h1:decide ((i:Int) < ((markL mk_LightS k0 xs).2.length:Int))=true:=decide_eq_true (by rw [markL_len]; omega)
  have hb:z_Light x≤1048576:=by have:=sum_ge (fun x=>z_Light x) hx; unfold z_LightS at hl; omega
  unfold z_Light z_Route z_IntS at hb
  unfold w_t at hK2
  simp only [M_bh,h1,cond_true,geti_nat,hm,Option.bind_some,mk_LightS]
  rw [w64_eq (n:=k+1) (by omega) (by omega),w64_eq (n:=k+1+1) (by omega) (by omega)]
  have f0:=markL_fst mk_IntS w_IntS hw_IntS x.Route.Fibers (k+1+1)
  have g0:=w_gj x.Route.Fibers
  unfold z_IntS at g0
  have hh0:M_bm (markL mk_IntS (k+1+1) x.Route.Fibers).2 (k+1+1)=some (markL mk_IntS (k+1+1) x.Route.Fibers).1:=p_heldIntS x.Route.Fibers (k+1+1) (by omega) (by omega) (by unfold z_IntS; omega)
  have hn0:decide ((markL mk_IntS (k+1+1) x.Route.Fibers).1 < 0)=false:=decide_eq_false (by omega)
  simp only [bne_self_eq_false,cond_false,hh0,Option.bind_some,hn0]
  rw [w64_eq (n:=(markL mk_IntS (k+1+1) x.Route.Fibers).1+1) (by omega) (by omega),w64_eq (n:=(markL mk_IntS (k+1+1) x.Route.Fibers).1+1+1) (by omega) (by omega)]
  rw [w64_eq (n:=(i:Int)+1) (by omega) (by omega)]
  simp only [bne_self_eq_false,cond_false]
  rfl) (fun k=>by simp [M_bh,markL_len]) hk hK (by omega)]
 rfl
def mkr_Plan (k:Int) (x:TPlan):Int×List ByteArray×List TFiber×List TLight:=((markL mk_LightS (markL mk_FiberS (markL mk_StringS k x.Network.Nodes).1 x.Network.Fibers).1 x.Lights).1,(markL mk_StringS k x.Network.Nodes).2,(markL mk_FiberS (markL mk_StringS k x.Network.Nodes).1 x.Network.Fibers).2,(markL mk_LightS (markL mk_FiberS (markL mk_StringS k x.Network.Nodes).1 x.Network.Fibers).1 x.Lights).2)
def wr_Plan (x:TPlan):Nat:=(x.Network.Nodes.map w_d).sum+(x.Network.Fibers.map w_a).sum+(x.Lights.map w_t).sum
def mks_Plan (k:Int) (x:TPlan):TPlan:=⟨⟨(markL mk_StringS k x.Network.Nodes).2,(markL mk_FiberS (markL mk_StringS k x.Network.Nodes).1 x.Network.Fibers).2⟩,(markL mk_LightS (markL mk_FiberS (markL mk_StringS k x.Network.Nodes).1 x.Network.Fibers).1 x.Lights).2⟩
theorem p_markPlan (x:TPlan) (k0:Int) (hk:0≤k0) (hK:k0+(wr_Plan x:Int)≤1000000000000) (hl:z_Plan x≤1048576):M_di k0 x.Network.Nodes x.Network.Fibers x.Lights=some (mkr_Plan k0 x):=by
 unfold M_di
 unfold wr_Plan at hK
 have hz:z_Plan x=z_StringS x.Network.Nodes+z_FiberS x.Network.Fibers+z_LightS x.Lights:=by unfold z_Plan z_Network; omega
 have f0:=markL_fst mk_StringS w_d hw_StringS x.Network.Nodes k0
 have f1:=markL_fst mk_FiberS w_a hw_FiberS x.Network.Fibers ((markL mk_StringS k0 x.Network.Nodes).1)
 have f2:=markL_fst mk_LightS w_t hw_LightS x.Lights ((markL mk_FiberS (markL mk_StringS k0 x.Network.Nodes).1 x.Network.Fibers).1)
 rw [p_markNetwork x.Network k0 (by omega) (by unfold wr_Network; omega) (by unfold z_Network; omega)]
 simp only [Option.bind_some,mkr_Network]
 rw [p_markLightS x.Lights ((markL mk_FiberS (markL mk_StringS k0 x.Network.Nodes).1 x.Network.Fibers).1) (by omega) (by omega) (by omega)]
 simp only [Option.bind_some]
 rfl
theorem p_heldPlan (x:TPlan) (k0:Int) (hk:0≤k0) (hK:k0+(wr_Plan x:Int)≤1000000000000) (hl:z_Plan x≤1048576):M_dm (mks_Plan k0 x) k0=some (mkr_Plan k0 x).1:=by
 unfold wr_Plan at hK
 have hz:z_Plan x=z_StringS x.Network.Nodes+z_FiberS x.Network.Fibers+z_LightS x.Lights:=by unfold z_Plan z_Network; omega
 have f0:=markL_fst mk_StringS w_d hw_StringS x.Network.Nodes k0
 have f1:=markL_fst mk_FiberS w_a hw_FiberS x.Network.Fibers ((markL mk_StringS k0 x.Network.Nodes).1)
 have f2:=markL_fst mk_LightS w_t hw_LightS x.Lights ((markL mk_FiberS (markL mk_StringS k0 x.Network.Nodes).1 x.Network.Fibers).1)
 have h0:M_dl (⟨(mks_Plan k0 x).Network.Nodes,(mks_Plan k0 x).Network.Fibers⟩:TNetwork) k0=some (markL mk_FiberS (markL mk_StringS k0 x.Network.Nodes).1 x.Network.Fibers).1:=p_heldNetwork x.Network k0 (by omega) (by unfold wr_Network; omega) (by unfold z_Network; omega)
 have n0:decide ((markL mk_FiberS (markL mk_StringS k0 x.Network.Nodes).1 x.Network.Fibers).1 < 0)=false:=decide_eq_false (by omega)
 have h1:M_cc (mks_Plan k0 x).Lights ((markL mk_FiberS (markL mk_StringS k0 x.Network.Nodes).1 x.Network.Fibers).1)=some (markL mk_LightS (markL mk_FiberS (markL mk_StringS k0 x.Network.Nodes).1 x.Network.Fibers).1 x.Lights).1:=p_heldLightS x.Lights ((markL mk_FiberS (markL mk_StringS k0 x.Network.Nodes).1 x.Network.Fibers).1) (by omega) (by omega) (by omega)
 have n1:decide ((markL mk_LightS (markL mk_FiberS (markL mk_StringS k0 x.Network.Nodes).1 x.Network.Fibers).1 x.Lights).1 < 0)=false:=decide_eq_false (by omega)
 unfold M_dm
 simp only [h0,n0,h1,n1,Option.bind_some,cond_false]
 rfl
def mkr_Restoration (k:Int) (x:TRestoration):Int×List ByteArray×List TFiber×List TLight×List TLight×List Int:=((markL mk_IntS (markL mk_LightS (markL mk_LightS (markL mk_FiberS (markL mk_StringS k x.Plan.Network.Nodes).1 x.Plan.Network.Fibers).1 x.Plan.Lights).1 x.Home).1 x.Down).1,(markL mk_StringS k x.Plan.Network.Nodes).2,(markL mk_FiberS (markL mk_StringS k x.Plan.Network.Nodes).1 x.Plan.Network.Fibers).2,(markL mk_LightS (markL mk_FiberS (markL mk_StringS k x.Plan.Network.Nodes).1 x.Plan.Network.Fibers).1 x.Plan.Lights).2,(markL mk_LightS (markL mk_LightS (markL mk_FiberS (markL mk_StringS k x.Plan.Network.Nodes).1 x.Plan.Network.Fibers).1 x.Plan.Lights).1 x.Home).2,(markL mk_IntS (markL mk_LightS (markL mk_LightS (markL mk_FiberS (markL mk_StringS k x.Plan.Network.Nodes).1 x.Plan.Network.Fibers).1 x.Plan.Lights).1 x.Home).1 x.Down).2)
theorem mkr_len0_Restoration (k:Int) (x:TRestoration):(mkr_Restoration k x).2.1.length=x.Plan.Network.Nodes.length:=markL_len mk_StringS _ _
theorem mkr_len1_Restoration (k:Int) (x:TRestoration):(mkr_Restoration k x).2.2.1.length=x.Plan.Network.Fibers.length:=markL_len mk_FiberS _ _
theorem mkr_len2_Restoration (k:Int) (x:TRestoration):(mkr_Restoration k x).2.2.2.1.length=x.Plan.Lights.length:=markL_len mk_LightS _ _
theorem mkr_len3_Restoration (k:Int) (x:TRestoration):(mkr_Restoration k x).2.2.2.2.1.length=x.Home.length:=markL_len mk_LightS _ _
theorem mkr_len4_Restoration (k:Int) (x:TRestoration):(mkr_Restoration k x).2.2.2.2.2.length=x.Down.length:=markL_len mk_IntS _ _
def wr_Restoration (x:TRestoration):Nat:=(x.Plan.Network.Nodes.map w_d).sum+(x.Plan.Network.Fibers.map w_a).sum+(x.Plan.Lights.map w_t).sum+(x.Home.map w_t).sum+(x.Down.map w_IntS).sum
def mks_Restoration (k:Int) (x:TRestoration):TRestoration:=⟨⟨⟨(markL mk_StringS k x.Plan.Network.Nodes).2,(markL mk_FiberS (markL mk_StringS k x.Plan.Network.Nodes).1 x.Plan.Network.Fibers).2⟩,(markL mk_LightS (markL mk_FiberS (markL mk_StringS k x.Plan.Network.Nodes).1 x.Plan.Network.Fibers).1 x.Plan.Lights).2⟩,(markL mk_LightS (markL mk_LightS (markL mk_FiberS (markL mk_StringS k x.Plan.Network.Nodes).1 x.Plan.Network.Fibers).1 x.Plan.Lights).1 x.Home).2,(markL mk_IntS (markL mk_LightS (markL mk_LightS (markL mk_FiberS (markL mk_StringS k x.Plan.Network.Nodes).1 x.Plan.Network.Fibers).1 x.Plan.Lights).1 x.Home).1 x.Down).2⟩
theorem mkr_fst_Restoration (k:Int) (x:TRestoration):(mkr_Restoration k x).1=k+(wr_Restoration x:Int):=by
 unfold mkr_Restoration wr_Restoration
 simp only [markL_fst mk_StringS w_d hw_StringS,markL_fst mk_FiberS w_a hw_FiberS,markL_fst mk_LightS w_t hw_LightS,markL_fst mk_IntS w_IntS hw_IntS]
 try omega
theorem w_gk (x:TRestoration):wr_Restoration x≤16 * z_Restoration x:=by
 unfold wr_Restoration
 have hz:z_Restoration x=z_StringS x.Plan.Network.Nodes+z_FiberS x.Plan.Network.Fibers+z_LightS x.Plan.Lights+z_LightS x.Home+z_IntS x.Down:=by unfold z_Restoration z_Plan z_Network; omega
 have:=w_gm x.Plan.Network.Nodes
 have:=w_gn x.Plan.Network.Fibers
 have:=w_gl x.Plan.Lights
 have:=w_gl x.Home
 have:=w_gj x.Down
 omega
theorem p_markRestoration (x:TRestoration) (k0:Int) (hk:0≤k0) (hK:k0+(wr_Restoration x:Int)≤1000000000000) (hl:z_Restoration x≤1048576):M_cb k0 x.Plan.Network.Nodes x.Plan.Network.Fibers x.Plan.Lights x.Home x.Down=some (mkr_Restoration k0 x):=by
 unfold M_cb
 unfold wr_Restoration at hK
 have hz:z_Restoration x=z_StringS x.Plan.Network.Nodes+z_FiberS x.Plan.Network.Fibers+z_LightS x.Plan.Lights+z_LightS x.Home+z_IntS x.Down:=by unfold z_Restoration z_Plan z_Network; omega
 have f0:=markL_fst mk_StringS w_d hw_StringS x.Plan.Network.Nodes k0
 have f1:=markL_fst mk_FiberS w_a hw_FiberS x.Plan.Network.Fibers ((markL mk_StringS k0 x.Plan.Network.Nodes).1)
 have f2:=markL_fst mk_LightS w_t hw_LightS x.Plan.Lights ((markL mk_FiberS (markL mk_StringS k0 x.Plan.Network.Nodes).1 x.Plan.Network.Fibers).1)
 have f3:=markL_fst mk_LightS w_t hw_LightS x.Home ((markL mk_LightS (markL mk_FiberS (markL mk_StringS k0 x.Plan.Network.Nodes).1 x.Plan.Network.Fibers).1 x.Plan.Lights).1)
 have f4:=markL_fst mk_IntS w_IntS hw_IntS x.Down ((markL mk_LightS (markL mk_LightS (markL mk_FiberS (markL mk_StringS k0 x.Plan.Network.Nodes).1 x.Plan.Network.Fibers).1 x.Plan.Lights).1 x.Home).1)
 rw [p_markPlan x.Plan k0 (by omega) (by unfold wr_Plan; omega) (by unfold z_Plan z_Network; omega)]
 simp only [Option.bind_some,mkr_Plan]
 rw [p_markLightS x.Home ((markL mk_LightS (markL mk_FiberS (markL mk_StringS k0 x.Plan.Network.Nodes).1 x.Plan.Network.Fibers).1 x.Plan.Lights).1) (by omega) (by omega) (by omega)]
 simp only [Option.bind_some]
 rw [p_markIntS x.Down ((markL mk_LightS (markL mk_LightS (markL mk_FiberS (markL mk_StringS k0 x.Plan.Network.Nodes).1 x.Plan.Network.Fibers).1 x.Plan.Lights).1 x.Home).1) (by omega) (by omega) (by omega)]
 simp only [Option.bind_some]
 rfl
theorem p_heldRestoration (x:TRestoration) (k0:Int) (hk:0≤k0) (hK:k0+(wr_Restoration x:Int)≤1000000000000) (hl:z_Restoration x≤1048576):M_cd (mks_Restoration k0 x) k0=some (mkr_Restoration k0 x).1:=by
 unfold wr_Restoration at hK
 have hz:z_Restoration x=z_StringS x.Plan.Network.Nodes+z_FiberS x.Plan.Network.Fibers+z_LightS x.Plan.Lights+z_LightS x.Home+z_IntS x.Down:=by unfold z_Restoration z_Plan z_Network; omega
 have f0:=markL_fst mk_StringS w_d hw_StringS x.Plan.Network.Nodes k0
 have f1:=markL_fst mk_FiberS w_a hw_FiberS x.Plan.Network.Fibers ((markL mk_StringS k0 x.Plan.Network.Nodes).1)
 have f2:=markL_fst mk_LightS w_t hw_LightS x.Plan.Lights ((markL mk_FiberS (markL mk_StringS k0 x.Plan.Network.Nodes).1 x.Plan.Network.Fibers).1)
 have f3:=markL_fst mk_LightS w_t hw_LightS x.Home ((markL mk_LightS (markL mk_FiberS (markL mk_StringS k0 x.Plan.Network.Nodes).1 x.Plan.Network.Fibers).1 x.Plan.Lights).1)
 have f4:=markL_fst mk_IntS w_IntS hw_IntS x.Down ((markL mk_LightS (markL mk_LightS (markL mk_FiberS (markL mk_StringS k0 x.Plan.Network.Nodes).1 x.Plan.Network.Fibers).1 x.Plan.Lights).1 x.Home).1)
 have h0:M_dm (⟨(⟨(mks_Restoration k0 x).Plan.Network.Nodes,(mks_Restoration k0 x).Plan.Network.Fibers⟩:TNetwork),(mks_Restoration k0 x).Plan.Lights⟩:TPlan) k0=some (markL mk_LightS (markL mk_FiberS (markL mk_StringS k0 x.Plan.Network.Nodes).1 x.Plan.Network.Fibers).1 x.Plan.Lights).1:=p_heldPlan x.Plan k0 (by omega) (by unfold wr_Plan; omega) (by unfold z_Plan z_Network; omega)
 have n0:decide ((markL mk_LightS (markL mk_FiberS (markL mk_StringS k0 x.Plan.Network.Nodes).1 x.Plan.Network.Fibers).1 x.Plan.Lights).1 < 0)=false:=decide_eq_false (by omega)
 have h1:M_cc (mks_Restoration k0 x).Home ((markL mk_LightS (markL mk_FiberS (markL mk_StringS k0 x.Plan.Network.Nodes).1 x.Plan.Network.Fibers).1 x.Plan.Lights).1)=some (markL mk_LightS (markL mk_LightS (markL mk_FiberS (markL mk_StringS k0 x.Plan.Network.Nodes).1 x.Plan.Network.Fibers).1 x.Plan.Lights).1 x.Home).1:=p_heldLightS x.Home ((markL mk_LightS (markL mk_FiberS (markL mk_StringS k0 x.Plan.Network.Nodes).1 x.Plan.Network.Fibers).1 x.Plan.Lights).1) (by omega) (by omega) (by omega)
 have n1:decide ((markL mk_LightS (markL mk_LightS (markL mk_FiberS (markL mk_StringS k0 x.Plan.Network.Nodes).1 x.Plan.Network.Fibers).1 x.Plan.Lights).1 x.Home).1 < 0)=false:=decide_eq_false (by omega)
 have h2:M_bm (mks_Restoration k0 x).Down ((markL mk_LightS (markL mk_LightS (markL mk_FiberS (markL mk_StringS k0 x.Plan.Network.Nodes).1 x.Plan.Network.Fibers).1 x.Plan.Lights).1 x.Home).1)=some (markL mk_IntS (markL mk_LightS (markL mk_LightS (markL mk_FiberS (markL mk_StringS k0 x.Plan.Network.Nodes).1 x.Plan.Network.Fibers).1 x.Plan.Lights).1 x.Home).1 x.Down).1:=p_heldIntS x.Down ((markL mk_LightS (markL mk_LightS (markL mk_FiberS (markL mk_StringS k0 x.Plan.Network.Nodes).1 x.Plan.Network.Fibers).1 x.Plan.Lights).1 x.Home).1) (by omega) (by omega) (by omega)
 have n2:decide ((markL mk_IntS (markL mk_LightS (markL mk_LightS (markL mk_FiberS (markL mk_StringS k0 x.Plan.Network.Nodes).1 x.Plan.Network.Fibers).1 x.Plan.Lights).1 x.Home).1 x.Down).1 < 0)=false:=decide_eq_false (by omega)
 unfold M_cd
 simp only [h0,n0,h1,n1,h2,n2,Option.bind_some,cond_false]
 rfl
end Vs

namespace Vs
open Go
def wi (x a b:Int):Bool:=decide (a≤x)&&decide (x≤b)
theorem wi_iff {x a b:Int}:wi x a b=true↔a≤x∧x≤b:=by simp [wi]
theorem wi_false {x a b:Int}:wi x a b=false↔¬ (a≤x∧x≤b):=by rw [← wi_iff]; simp
theorem p_within (x a b:Int):M_l x a b=some (wi x a b):=by
 unfold M_l wi; by_cases h:a≤x <;> simp [h]
theorem p_l1In (x a b:Int):M_c x a b=some (wi x a b):=by
 unfold M_c wi; by_cases h:a≤x <;> simp [h]
def letB (c:UInt8):Bool:=decide (97≤c.toNat)&&decide (c.toNat≤122)
def digB (c:UInt8):Bool:=decide (48≤c.toNat)&&decide (c.toNat≤57)
def nameBad (i:Nat) (c:UInt8):Bool:=!letB c&&(!digB c||i==0)
def nameB (s:ByteArray):Bool:=!anyI nameBad s.data.toList&&wi s.size 1 8
theorem getz_nat (s:ByteArray) (i:Nat):getz s (i:Int)=s.data.toList[i]?:=by
 unfold getz
 rw [if_pos (by omega),Int.toNat_natCast]
 by_cases h:i < s.size
 · have h2:i < s.data.toList.length:=by simpa using h
   rw [getElem?_pos s i h,List.getElem?_eq_getElem h2]
   rfl
 · have h2:¬ i < s.data.toList.length:=by simpa using h
   rw [getElem?_neg s i h,List.getElem?_eq_none (Nat.le_of_not_lt h2)]
theorem size_list (s:ByteArray):s.size=s.data.toList.length:=by show s.data.size=s.data.toList.length; rw [Array.length_toList]
theorem letB_c (c:UInt8):letB c=(decide (97≤(c.toNat:Int))&&decide ((c.toNat:Int)≤122)):=by
 unfold letB
 congr 1 <;> exact decide_eq_decide.2 (by omega)
theorem digB_c (c:UInt8):digB c=(decide (48≤(c.toNat:Int))&&decide ((c.toNat:Int)≤57)):=by
 unfold digB
 congr 1 <;> exact decide_eq_decide.2 (by omega)
theorem p_isName (s:ByteArray) (hl:s.size≤1048576):M_dt s=some (nameB s):=by
 unfold M_dt nameB
 rw [size_list] at *
 rw [iter_anyI (f:=M_m s) s.data.toList nameBad (.inr false) (.inl ()) (fun i c hc _=>by
  have hlt:=(List.getElem?_eq_some_iff.1 hc).1
  have h1:decide ((i:Int) < s.size)=true:=decide_eq_true (by rw [size_list]; omega)
  simp only [M_m,h1,cond_true,getz_nat,hc,Option.bind_some,nameBad,letB_c,digB_c]
  rw [w64_eq (by omega) (by omega)]
  have hi:((i:Int)==0)=(i==0):=by rw [Bool.eq_iff_iff]; simp
  rw [hi]
  cases decide (97≤(c.toNat:Int)) <;> cases decide ((c.toNat:Int)≤122) <;> cases decide (48≤(c.toNat:Int)) <;> cases decide ((c.toNat:Int)≤57) <;> cases (i==0) <;> rfl) (by simp [M_m]) (by omega)]
 rw [← size_list]
 cases anyI nameBad s.data.toList <;> simp [p_within]
theorem p_l2Sign (c:UInt8):M_du (c.toNat:Int)=some (letB c||digB c):=by
 unfold M_du
 simp only [letB_c,digB_c]
 cases decide (97≤(c.toNat:Int)) <;> cases decide ((c.toNat:Int)≤122) <;> cases decide (48≤(c.toNat:Int)) <;> rfl
theorem fstc (c:UInt8):(cond (decide ((c.toNat:Int) < 97)) (some true) (some (decide (122 < (c.toNat:Int)))):Option Bool)=some (!letB c):=by
 rw [letB_c]
 by_cases h1:(c.toNat:Int) < 97
 · have h2:¬ 97≤(c.toNat:Int):=by omega
   simp [h1,h2]
 · have h2:97≤(c.toNat:Int):=by omega
   simp only [h1,decide_false,cond_false,h2,decide_true,Bool.true_and]
   by_cases h3:122 < (c.toNat:Int)
   · have h4:¬ (c.toNat:Int)≤122:=by omega
     simp [h3,h4]
   · have h4:(c.toNat:Int)≤122:=by omega
     simp [h3,h4]
theorem p_l2Name (s:ByteArray) (hl:s.size≤1048576):M_dv s=some (nameB s):=by
 unfold M_dv nameB
 simp only [p_l1In,Option.bind_some]
 rcases bt (wi s.size 1 8) with hw | hw
 · simp only [hw,Bool.not_true,cond_false,Bool.and_true]
   have hs:0 < s.data.toList.length:=by rw [← size_list]; have:=(wi_iff.1 hw).1; omega
   have h0:s.data.toList[0]?=some s.data.toList[0]:=List.getElem?_eq_getElem hs
   have g0:getz s 0=some s.data.toList[0]:=by rw [← h0]; exact getz_nat s 0
   simp only [g0,Option.bind_some]
   have key:=iter_anyI (f:=M_x s) s.data.toList (fun _ c=>!(letB c||digB c)) (.inr false) (.inl ()) (fun i c hc _=>by
    have hlt:=(List.getElem?_eq_some_iff.1 hc).1
    have h1:decide ((i:Int) < s.size)=true:=decide_eq_true (by rw [size_list]; omega)
    rw [size_list] at hl
    simp only [M_x,h1,cond_true,getz_nat,hc,Option.bind_some,p_l2Sign]
    rw [w64_eq (by omega) (by omega)]
    cases letB c <;> cases digB c <;> rfl) (by simp [M_x]) (by rw [size_list] at hl; omega)
   rw [fstc]
   simp only [Option.bind_some,key]
   rcases bt (letB s.data.toList[0]) with hL | hL
   · simp only [hL,Bool.not_true,cond_false]
     have e:anyI (fun _ c=>!(letB c||digB c)) s.data.toList=anyI nameBad s.data.toList:=by
      refine anyI_congr fun i c hc _=>?_
      unfold nameBad
      by_cases hi:i=0
      · subst hi; rw [h0] at hc; cases hc; rw [hL]; rfl
      · have:(i==0)=false:=by simpa using hi
        rw [this]
        cases letB c <;> cases digB c <;> rfl
     rw [e]
     cases anyI nameBad s.data.toList <;> rfl
   · have:anyI nameBad s.data.toList=true:=anyI_iff.2 ⟨0,_,h0,by unfold nameBad; rw [hL]; simp⟩
     simp only [hL,this,Bool.not_false,cond_true,Bool.not_true]
 · simp [hw]
def idxZ (v:ByteArray) (xs:List ByteArray):Option (Nat×ByteArray):=findI (fun _ x=>x.toList==v.toList) xs
def fidx (v:ByteArray) (xs:List ByteArray):Int:=match idxZ v xs with | some q=>(q.1:Int) | none=>-1
theorem p_l2Find (xs:List ByteArray) (v:ByteArray) (hl:xs.length≤1048576):M_dw xs v=some (fidx v xs):=by
 unfold M_dw fidx
 rw [iter_findI (f:=M_y xs v) xs (fun _ x=>x.toList==v.toList) (fun i _=>(i:Int)) () (fun i x hx _=>by
  have hlt:=(List.getElem?_eq_some_iff.1 hx).1
  have h1:decide ((i:Int) < xs.length)=true:=by simp [hlt]
  simp only [M_y,h1,cond_true,geti_nat,hx,Option.bind_some]
  rw [w64_eq (by omega) (by omega)]
  cases x.toList==v.toList <;> rfl) (by simp [M_y]) (by omega)]
 unfold idxZ
 cases findI (fun _ x=>x.toList==v.toList) xs <;> rfl
theorem p_Contains_z (xs:List ByteArray) (v:ByteArray) (hl:xs.length≤1048576):M_dx xs v=some (xs.any fun x=>x.toList==v.toList):=by
 unfold M_dx M_fu
 rw [iter_findI (f:=M_z xs v) xs (fun _ x=>x.toList==v.toList) (fun i _=>(i:Int)) () (fun i x hx _=>by
  have hlt:=(List.getElem?_eq_some_iff.1 hx).1
  have h1:decide ((i:Int) < xs.length)=true:=by simp [hlt]
  simp only [M_z,h1,cond_true,geti_nat,hx,Option.bind_some]
  rw [w64_eq (by omega) (by omega),show (v.toList==x.toList)=(x.toList==v.toList) from Bool.beq_comm ..]
  cases x.toList==v.toList <;> rfl) (by simp [M_z]) (by omega)]
 cases e:findI (fun _ x=>x.toList==v.toList) xs with
 | none =>
   have:=findI_none.1 e
   have h:(xs.any fun x=>x.toList==v.toList)=false:=by
    rw [← anyI_any (fun x:ByteArray=>x.toList==v.toList),anyI_false]; exact this
   rw [h]; rfl
 | some q =>
   obtain ⟨i,x⟩:=q
   obtain ⟨h1,h2,_⟩:=findI_some.1 e
   have h:(xs.any fun x=>x.toList==v.toList)=true:=List.any_eq_true.2 ⟨x,List.mem_of_getElem? h1,h2⟩
   rw [h]; simp
def cmpI (x y:Int):Int:=if x < y then -1 else if y < x then 1 else 0
theorem p_cmp (x y:Int):M_bq x y=some (cmpI x y):=by
 unfold M_bq M_br cmpI
 by_cases h:x < y
 · simp [h]
 · by_cases h2:y < x <;> simp [h,h2]
def cmpF (f g:TFiber):Int:=if f.A ≠ g.A then cmpI f.A g.A else if f.B ≠ g.B then cmpI f.B g.B else if f.Length ≠ g.Length then cmpI f.Length g.Length else cmpI f.Risk g.Risk
theorem cmpI_zero {x y:Int}:cmpI x y=0↔x=y:=by
 unfold cmpI
 split
 · simp; omega
 · split
   · simp; omega
   · simp; omega
theorem p_compareFibers (f g:TFiber):M_dy f g=some (cmpF f g):=by
 unfold M_dy
 simp only [p_cmp,Option.bind_some,bnd]
 unfold M_fv
 have key:=iter_findI (f:=M_aa [cmpI f.A g.A,cmpI f.B g.B,cmpI f.Length g.Length,cmpI f.Risk g.Risk]) [cmpI f.A g.A,cmpI f.B g.B,cmpI f.Length g.Length,cmpI f.Risk g.Risk] (fun _ x=>x != 0) (fun _ x=>x) () (fun i x hx _=>by
  have hlt:=(List.getElem?_eq_some_iff.1 hx).1
  have h1:decide ((i:Int) < ([cmpI f.A g.A,cmpI f.B g.B,cmpI f.Length g.Length,cmpI f.Risk g.Risk].length:Nat))=true:=decide_eq_true (by omega)
  simp only [List.length_cons,List.length_nil] at hlt
  simp only [M_aa,h1,cond_true,geti_nat,hx,Option.bind_some]
  rw [w64_eq (by omega) (by omega)]
  cases x != 0 <;> rfl) (by simp [M_aa]) (by simp)
 rw [key]
 unfold cmpF findI
 simp only [List.zipIdx_cons,List.zipIdx_nil,List.find?_cons,List.find?_nil]
 by_cases h1:f.A=g.A
 · rw [cmpI_zero.2 h1]
   by_cases h2:f.B=g.B
   · rw [cmpI_zero.2 h2]
     by_cases h3:f.Length=g.Length
     · rw [cmpI_zero.2 h3]
       by_cases h4:f.Risk=g.Risk
       · simp [h1,h2,h3,h4,cmpI_zero.2]
       · have:(cmpI f.Risk g.Risk != 0)=true:=bne_iff_ne.2 fun e=>h4 (cmpI_zero.1 e)
         simp [h1,h2,h3,this]
     · have:(cmpI f.Length g.Length != 0)=true:=bne_iff_ne.2 fun e=>h3 (cmpI_zero.1 e)
       simp [h1,h2,h3,this]
   · have:(cmpI f.B g.B != 0)=true:=bne_iff_ne.2 fun e=>h2 (cmpI_zero.1 e)
     simp [h1,h2,this]
 · have:(cmpI f.A g.A != 0)=true:=bne_iff_ne.2 fun e=>h1 (cmpI_zero.1 e)
   simp [h1,this]
end Vs

namespace Vs
open Go
theorem slT_nat {α:Type} (xs:List α) (i:Nat) (h:i≤xs.length):slT xs (i:Int)=some (xs.take i):=by
 unfold slT
 rw [if_pos ⟨by omega,by simpa using h⟩]; simp
theorem z_net {n:TNetwork} (h:z_Network n≤1048576):n.Nodes.length≤1048576∧n.Fibers.length≤1048576∧∀ x∈n.Nodes,x.size≤1048576:=by
 unfold z_Network z_StringS z_FiberS at h
 refine ⟨by omega,by omega,fun x hx=>?_⟩
 obtain ⟨i,hi,rfl⟩:=List.getElem_of_mem hx
 have:n.Nodes[i].size≤(n.Nodes.map fun x:ByteArray=>x.size).sum:=sum_ge (fun x:ByteArray=>x.size) (xs:=n.Nodes) (i:=i) (x:=n.Nodes[i]) (by simp [hi])
 omega
def nodeBad (n:TNetwork) (i:Nat) (x:ByteArray):Bool:=!nameB x||(n.Nodes.take i).any fun y=>y.toList==x.toList
def fib1 (m:Nat) (f:TFiber):Bool:=decide (f.A < 0)||decide (f.B≤f.A)||decide ((m:Int)≤f.B)||!wi f.Length 1 5000||!wi f.Risk 0 9
def fibBad (n:TNetwork) (i:Nat) (f:TFiber):Bool:=fib1 n.Nodes.length f||(decide (0 < i)&&match n.Fibers[i - 1]? with | some g=>decide (0 < cmpF g f) | none=>false)
def netOk (n:TNetwork):Bool:=!anyI (nodeBad n) n.Nodes&&!anyI (fibBad n) n.Fibers&&wi n.Nodes.length 2 8&&decide (n.Fibers.length≤14)
theorem p_IsValidNetwork (n:TNetwork) (hz:z_Network n≤1048576):M_dq n=some (netOk n):=by
 obtain ⟨h1,h2,h3⟩:=z_net hz
 unfold M_dq netOk
 rw [iter_anyI (f:=M_u n) n.Nodes (nodeBad n) (.inr false) (.inl ()) (fun i x hx _=>by
  have hlt:=(List.getElem?_eq_some_iff.1 hx).1
  have e1:decide ((i:Int) < n.Nodes.length)=true:=by simp [hlt]
  simp only [M_u,e1,cond_true,geti_nat,hx,Option.bind_some,p_isName x (h3 x (List.mem_of_getElem? hx)),slT_nat n.Nodes i (Nat.le_of_lt hlt),p_Contains_z (n.Nodes.take i) x (by simp; omega),nodeBad]
  rw [w64_eq (by omega) (by omega)]
  rcases bt (nameB x) with e | e <;> rcases bt ((n.Nodes.take i).any (fun y=>y.toList==x.toList)) with e' | e' <;> simp only [e,e'] <;> rfl) (by simp [M_u]) (by omega)]
 rcases bt (anyI (nodeBad n) n.Nodes) with hN | hN
 · simp [hN]
 · simp only [hN,Bool.false_eq_true,if_false,Option.bind_some,Bool.not_false,Bool.true_and]
   rw [iter_anyI (f:=M_k n) n.Fibers (fibBad n) (.inr false) (.inl ()) (fun i x hx _=>by
    have hlt:=(List.getElem?_eq_some_iff.1 hx).1
    have e1:decide ((i:Int) < n.Fibers.length)=true:=by simp [hlt]
    simp only [M_k,e1,cond_true,geti_nat,hx,Option.bind_some,p_within]
    rw [w64_eq (n:=(i:Int)+1) (by omega) (by omega)]
    unfold fibBad fib1
    cases decide (x.A < 0)
    · cases decide (x.B≤x.A)
      · cases decide ((n.Nodes.length:Int)≤x.B)
        · cases wi x.Length 1 5000
          · rfl
          · cases wi x.Risk 0 9
            · rfl
            · by_cases hi:0 < i
              · have hi':decide ((0:Int) < (i:Int))=true:=by simp [hi]
                have hp:n.Fibers[i - 1]?=some n.Fibers[i - 1]:=List.getElem?_eq_getElem (by omega)
                have hw:IntKind.wrap .i64 ((i:Int) - 1)=((i - 1:Nat):Int):=by rw [w64_eq (by omega) (by omega)]; omega
                simp only [hi',cond_true,cond_false,Bool.not_true,hw,geti_nat,hp,Option.bind_some,p_compareFibers,hi,decide_true,Bool.true_and,Bool.false_or]
                cases decide (0 < cmpF n.Fibers[i - 1] x) <;> rfl
              · have hi':decide ((0:Int) < (i:Int))=false:=by simp; omega
                simp [hi',hi]
        · rfl
      · rfl
    · rfl) (by simp [M_k]) (by omega)]
   rcases bt (anyI (fibBad n) n.Fibers) with hF | hF
   · simp [hF]
   · simp only [hF,Bool.false_eq_true,if_false,Option.bind_some,Bool.not_false,Bool.true_and,p_within]
     have e:decide ((n.Fibers.length:Int)≤14)=decide (n.Fibers.length≤14):=decide_eq_decide.2 (by omega)
     rw [e]
     cases wi n.Nodes.length 2 8 <;> rfl
theorem find_dup (n:TNetwork) (i:Nat) (x:ByteArray) (hx:n.Nodes[i]?=some x) :
 (fidx x n.Nodes != (i:Int))=(n.Nodes.take i).any fun y=>y.toList==x.toList:=by
 unfold fidx
 cases e:idxZ x n.Nodes with
 | none =>
   have:=findI_none.1 e i x hx
   simp at this
 | some q =>
   obtain ⟨j,y⟩:=q
   obtain ⟨h1,h2,h3⟩:=findI_some.1 e
   simp only
   by_cases hj:j=i
   · subst hj
     have:((n.Nodes.take j).any fun y=>y.toList==x.toList)=false:=by
      rw [List.any_eq_false]
      intro z hz
      obtain ⟨k,hk,rfl⟩:=List.getElem_of_mem hz
      simp only [List.length_take] at hk
      have:=h3 k (n.Nodes.take j)[k] (by omega) (by rw [List.getElem_take]; exact List.getElem?_eq_getElem (by omega))
      rw [this]; simp
     rw [this]; simp
   · have hji:j < i:=by
      rcases Nat.lt_trichotomy j i with h | h | h
      · exact h
      · exact (hj h).elim
      · have:=h3 i x h hx
        simp at this
     have:((n.Nodes.take i).any fun y=>y.toList==x.toList)=true:=List.any_eq_true.2 ⟨y,by
      have:(n.Nodes.take i)[j]?=some y:=by rw [List.getElem?_take,if_pos hji]; exact h1
      exact List.mem_of_getElem? this,h2⟩
     rw [this]
     simp; omega
theorem p_l2Fiber (f:TFiber) (m:Nat) (hm:m≤8) (hm2:2≤m):M_dr f (m:Int)=some (!fib1 m f):=by
 unfold M_dr fib1
 simp only [p_l1In,Option.bind_some]
 rw [w64_eq (n:=(m:Int) - 1) (by omega) (by omega)]
 rcases bt (wi f.A 0 ((m:Int) - 1)) with h1 | h1
 · have h2:=wi_iff.1 h1
   rw [w64_eq (n:=f.A+1) (by omega) (by omega)]
   rcases bt (wi f.B (f.A+1) ((m:Int) - 1)) with h3 | h3
   · have h4:=wi_iff.1 h3
     have a1:decide (f.A < 0)=false:=by simp; omega
     have a2:decide (f.B≤f.A)=false:=by simp; omega
     have a3:decide ((m:Int)≤f.B)=false:=by simp; omega
     simp only [h1,h3,a1,a2,a3,cond_true,Bool.false_or]
     cases wi f.Length 1 5000 <;> cases wi f.Risk 0 9 <;> rfl
   · have h4:=wi_false.1 h3
     simp only [h1,h3,cond_true,cond_false]
     by_cases a2:f.B≤f.A
     · simp [a2]
     · have a3:(m:Int)≤f.B:=by omega
       simp [a3]
 · have h2:=wi_false.1 h1
   simp only [h1,cond_false]
   by_cases a1:f.A < 0
   · simp [a1]
   · by_cases a2:f.B≤f.A
     · simp [a2]
     · have a3:(m:Int)≤f.B:=by omega
       simp [a3]
structure FibOk (m:Int) (f:TFiber):Prop where
 a0:0≤f.A
 ab:f.A < f.B
 bm:f.B < m
 l1:1≤f.Length
 l2:f.Length≤5000
 r0:0≤f.Risk
 r9:f.Risk≤9
theorem fib1_ok {m:Nat} {f:TFiber} (h:fib1 m f=false):FibOk m f:=by
 unfold fib1 at h
 simp only [Bool.or_eq_false_iff,decide_eq_false_iff_not,Bool.not_eq_false',wi_iff] at h
 obtain ⟨⟨⟨⟨h1,h2⟩,h3⟩,h4,h5⟩,h6,h7⟩:=h
 exact ⟨by omega,by omega,by omega,h4,h5,h6,h7⟩
theorem p_before (f g:TFiber) (m:Nat) (hm:m≤8) (hf:FibOk m f) (hg:FibOk m g):∃ r,M_ds f g=some r∧decide (0 < r)=decide (0 < cmpF f g):=by
 obtain ⟨a1,a2,a3,a4,a5,a6,a7⟩:=hf
 obtain ⟨b1,b2,b3,b4,b5,b6,b7⟩:=hg
 have sgn:∀ x y:Int,decide (0 < x - y)=decide (0 < cmpI x y):=by
  intro x y
  unfold cmpI
  by_cases h:x < y
  · rw [if_pos h]; exact decide_eq_decide.2 (by omega)
  · rw [if_neg h]
    by_cases h2:y < x
    · rw [if_pos h2]; exact decide_eq_decide.2 (by omega)
    · rw [if_neg h2]; exact decide_eq_decide.2 (by omega)
 unfold M_ds cmpF
 rw [w64_eq (n:=f.A - g.A) (by omega) (by omega),w64_eq (n:=f.B - g.B) (by omega) (by omega),w64_eq (n:=f.Length - g.Length) (by omega) (by omega),w64_eq (n:=f.Risk - g.Risk) (by omega) (by omega)]
 by_cases h1:f.A=g.A
 · have e1:(f.A != g.A)=false:=by rw [h1]; simp
   by_cases h2:f.B=g.B
   · have e2:(f.B != g.B)=false:=by rw [h2]; simp
     by_cases h3:f.Length=g.Length
     · have e3:(f.Length != g.Length)=false:=by rw [h3]; simp
       exact ⟨f.Risk - g.Risk,by simp only [e1,e2,e3,cond_false],by simp only [h1,h2,h3,ne_eq,not_true,if_false]; exact sgn _ _⟩
     · have e3:(f.Length != g.Length)=true:=bne_iff_ne.2 h3
       exact ⟨f.Length - g.Length,by simp only [e1,e2,e3,cond_false,cond_true],by simp only [h1,h2,h3,ne_eq,not_true,not_false_eq_true,if_false,if_true]; exact sgn _ _⟩
   · have e2:(f.B != g.B)=true:=bne_iff_ne.2 h2
     exact ⟨f.B - g.B,by simp only [e1,e2,cond_false,cond_true],by simp only [h1,h2,ne_eq,not_true,not_false_eq_true,if_false,if_true]; exact sgn _ _⟩
 · have e1:(f.A != g.A)=true:=bne_iff_ne.2 h1
   exact ⟨f.A - g.A,by simp only [e1,cond_true],by simp only [h1,ne_eq,not_false_eq_true,if_true]; exact sgn _ _⟩
theorem p_l2Good (n:TNetwork) (hz:z_Network n≤1048576):M_ch n=some (netOk n):=by
 obtain ⟨z1,z2,z3⟩:=z_net hz
 unfold M_ch netOk
 simp only [p_l1In,Option.bind_some]
 rcases bt (wi n.Nodes.length 2 8) with hw | hw
 · have hw2:=wi_iff.1 hw
   have e:decide (14 < (n.Fibers.length:Int))=!decide (n.Fibers.length≤14):=by
    rw [← decide_not]; exact decide_eq_decide.2 (by omega)
   simp only [hw,e,Bool.not_true,cond_false,Option.bind_some,Bool.and_true]
   rcases bt (decide (n.Fibers.length≤14)) with h14 | h14
   · simp only [h14,Bool.not_true,cond_false,Bool.and_true]
     rw [iter_anyI (f:=M_v n) n.Nodes (nodeBad n) (.inr false) (.inl ()) (fun i x hx _=>by
      have hlt:=(List.getElem?_eq_some_iff.1 hx).1
      have e1:decide ((i:Int) < n.Nodes.length)=true:=by simp [hlt]
      simp only [M_v,e1,cond_true,geti_nat,hx,Option.bind_some,p_l2Name x (z3 x (List.mem_of_getElem? hx)),p_l2Find n.Nodes x z1,find_dup n i x hx,nodeBad]
      rw [w64_eq (by omega) (by omega)]
      rcases bt (nameB x) with e | e <;> rcases bt ((n.Nodes.take i).any (fun y=>y.toList==x.toList)) with e' | e' <;> simp only [e,e'] <;> rfl) (by simp [M_v]) (by omega)]
     rcases bt (anyI (nodeBad n) n.Nodes) with hN | hN
     · simp [hN]
     · simp only [hN,Bool.false_eq_true,if_false,Option.bind_some,Bool.not_false,Bool.true_and]
       rw [iter_anyI (f:=M_w n) n.Fibers (fibBad n) (.inr false) (.inl ()) (fun i x hx hprev=>by
        have hlt:=(List.getElem?_eq_some_iff.1 hx).1
        have e1:decide ((i:Int) < n.Fibers.length)=true:=by simp [hlt]
        simp only [M_w,e1,cond_true,geti_nat,hx,Option.bind_some,p_l2Fiber x n.Nodes.length (by omega) (by omega),Bool.not_not]
        rw [w64_eq (n:=(i:Int)+1) (by omega) (by omega)]
        unfold fibBad
        rcases bt (fib1 n.Nodes.length x) with h1 | h1
        · simp [h1]
        · simp only [h1,cond_false,Bool.false_or]
          by_cases hi:0 < i
          · have hi':decide ((0:Int) < (i:Int))=true:=by simp [hi]
            have hp:n.Fibers[i - 1]?=some n.Fibers[i - 1]:=List.getElem?_eq_getElem (by omega)
            have hw:IntKind.wrap .i64 ((i:Int) - 1)=((i - 1:Nat):Int):=by rw [w64_eq (by omega) (by omega)]; omega
            have hb:=hprev (i - 1) n.Fibers[i - 1] (by omega) hp
            unfold fibBad at hb
            simp only [Bool.or_eq_false_iff] at hb
            obtain ⟨r,r1,r2⟩:=p_before n.Fibers[i - 1] x n.Nodes.length (by omega) (fib1_ok hb.1) (fib1_ok h1)
            simp only [hi',cond_true,hw,geti_nat,hp,Option.bind_some,r1,r2,hi,decide_true,Bool.true_and]
            cases decide (0 < cmpF n.Fibers[i - 1] x) <;> rfl
          · have hi':decide ((0:Int) < (i:Int))=false:=by simp; omega
            simp [hi',hi]) (by simp [M_w]) (by omega)]
       cases anyI (fibBad n) n.Fibers <;> rfl
   · simp [h14]
 · simp [hw]
end Vs

namespace Vs
open Go
theorem netOk_b {n:TNetwork} (h:netOk n=true):2≤n.Nodes.length∧n.Nodes.length≤8∧n.Fibers.length≤14:=by
 unfold netOk at h
 simp only [Bool.and_eq_true,decide_eq_true_eq,wi_iff] at h
 omega
theorem netOk_fib {n:TNetwork} (h:netOk n=true) {i:Nat} {f:TFiber} (hf:n.Fibers[i]?=some f):FibOk n.Nodes.length f:=by
 unfold netOk at h
 simp only [Bool.and_eq_true,Bool.not_eq_true'] at h
 have:=anyI_false.1 h.1.1.2 i f hf
 unfold fibBad at this
 simp only [Bool.or_eq_false_iff] at this
 exact fib1_ok this.1
end Vs

namespace Vs
open Go
theorem net_ends {n:TNetwork} (h:netOk n=true):∀ f∈n.Fibers,f.A < n.Nodes.length∧f.B < n.Nodes.length:=by
 intro f hf
 obtain ⟨i,hi⟩:=List.getElem?_of_mem hf
 obtain ⟨h1,h2,h3⟩:=netOk_fib h hi
 omega
def fibI (n:TNetwork) (e:Int):Prop:=0≤e∧e < (n.Fibers.length:Int)
end Vs

namespace Vs
open Go
def otherP (f:TFiber) (v:Int):Int:=if v=f.A then f.B else if v=f.B then f.A else -1
def othI (n:TNetwork) (e v:Int):Int:=match n.Fibers[e.toNat]? with | some f=>otherP f v | none=>-1
end Vs

namespace Vs
open Go
theorem p_l1Has (l:List Int) (x:Int) (hl:l.length≤1048576):M_bw l x=some (l.any fun y=>y==x):=by
 unfold M_bw
 rw [iter_any (f:=M_ai l x) l (fun y=>y==x) (.inr true) (.inl ()) (fun i y hy=>by
  have hlt:=(List.getElem?_eq_some_iff.1 hy).1
  have h1:decide ((i:Int) < l.length)=true:=by simp [hlt]
  simp only [M_ai,h1,cond_true,geti_nat,hy,Option.bind_some]
  rw [w64_eq (by omega) (by omega)]
  cases y==x <;> rfl) (by simp [M_ai]) (by omega)]
 cases l.any fun y=>y==x <;> rfl
theorem geti_fib {n:TNetwork} {e:Int} (h:wi e 0 ((n.Fibers.length:Int) - 1)=true):∃ f,geti n.Fibers e=some f∧n.Fibers[e.toNat]?=some f:=by
 rw [wi_iff] at h
 have hlt:e.toNat < n.Fibers.length:=by omega
 refine ⟨n.Fibers[e.toNat],?_,List.getElem?_eq_getElem hlt⟩
 have h3:=geti_nat n.Fibers e.toNat
 rw [Int.toNat_of_nonneg h.1] at h3
 rw [h3]
 exact List.getElem?_eq_getElem hlt
theorem p_l2Other (n:TNetwork) (e v:Int) (h:wi e 0 ((n.Fibers.length:Int) - 1)=true):M_er n e v=some (othI n e v):=by
 obtain ⟨f,h1,h2⟩:=geti_fib h
 unfold M_er othI otherP
 rw [h1,h2]
 simp only [Option.bind_some]
 by_cases a:v=f.A
 · rw [show (v==f.A)=true from by simpa using a,cond_true,if_pos a]
 · rw [show (v==f.A)=false from by simpa using a,cond_false,if_neg a]
   by_cases b:v=f.B
   · rw [show (v==f.B)=true from by simpa using b,cond_true,if_pos b]
   · rw [show (v==f.B)=false from by simpa using b,cond_false,if_neg b]
end Vs

namespace Vs
open Go
theorem p_ContI (xs:List Int) (v:Int) (hl:xs.length≤1048576):M_cp xs v=some (decide (v∈xs)):=by
 unfold M_cp M_gc
 rw [iter_findI (f:=M_as xs v) xs (fun _ x=>v==x) (fun i _=>(i:Int)) () (fun i x hx _=>by
  have hlt:=(List.getElem?_eq_some_iff.1 hx).1
  have h1:decide ((i:Int) < xs.length)=true:=by simp [hlt]
  simp only [M_as,h1,cond_true,geti_nat,hx,Option.bind_some]
  rw [w64_eq (by omega) (by omega)]
  cases v==x <;> rfl) (by simp [M_as]) (by omega)]
 cases e:findI (fun _ x=>v==x) xs with
 | none =>
   have:=findI_none.1 e
   have h:¬ v∈xs:=fun hm=>by
    obtain ⟨i,hi⟩:=List.getElem?_of_mem hm
    have:=this i v hi
    simp at this
   rw [decide_eq_false h]; rfl
 | some q =>
   obtain ⟨i,x⟩:=q
   obtain ⟨h1,h2,_⟩:=findI_some.1 e
   have h:v∈xs:=by
    have:=eq_of_beq h2
    rw [this]; exact List.mem_of_getElem? h1
   rw [decide_eq_true h]; simp
theorem p_otherEnd (f:TFiber) (v:Int):M_fd f v=some (otherP f v):=by
 unfold M_fd otherP
 by_cases a:v=f.A
 · rw [show (v==f.A)=true from by simpa using a,cond_true,if_pos a]
 · rw [show (v==f.A)=false from by simpa using a,cond_false,if_neg a]
   by_cases b:v=f.B
   · rw [show (v==f.B)=true from by simpa using b,cond_true,if_pos b]
   · rw [show (v==f.B)=false from by simpa using b,cond_false,if_neg b]
theorem any_mem (l:List Int) (e:Int):decide (e∈l)=l.any fun x=>x==e:=by
 rw [Bool.eq_iff_iff,decide_eq_true_iff,List.any_eq_true]
 constructor
 · intro h; exact ⟨e,h,by simp⟩
 · rintro ⟨x,hx,he⟩; rw [← eq_of_beq he]; exact hx
end Vs

namespace Vs
open Go
theorem walkL_rel {α A B C:Type} (s1:Nat→α→A→A ⊕ B) (s2:Nat→α→A→A ⊕ C) (f1:A→B) (f2:A→C) (R:B→C→Prop) (h:∀ i x a,(∃ a',s1 i x a=.inl a'∧s2 i x a=.inl a')∨∃ b c,s1 i x a=.inr b∧s2 i x a=.inr c∧R b c) (hf:∀ a,R (f1 a) (f2 a)) :
 ∀ (xs:List α) (i:Nat) (a:A),R (walkL s1 f1 i xs a) (walkL s2 f2 i xs a)
 | [],_,a=>hf a
 | x :: xs, i, a => by
   simp only [walkL]
   rcases h i x a with ⟨a',h1,h2⟩ | ⟨b,c,h1,h2,h3⟩
   · rw [h1,h2]; exact walkL_rel s1 s2 f1 f2 R h hf xs (i+1) a'
   · rw [h1,h2]; exact h3
def visB (n:TNetwork) (e:Int) (a:Int×List Int):Bool:=!wi e 0 ((n.Fibers.length:Int) - 1)||decide (othI n e a.1 < 0)||decide (othI n e a.1∈a.2)
def visS (n:TNetwork) (_:Nat) (e:Int) (a:Int×List Int):(Int×List Int) ⊕ Option (List Int):=if visB n e a then .inr none else .inl (othI n e a.1,a.2++[othI n e a.1])
def visP (n:TNetwork) (r:TRoute):Option (List Int):=if !wi r.Start 0 ((n.Nodes.length:Int) - 1)||decide (r.Fibers.length=0) then none else walkL (visS n) (fun a=>some a.2) 0 r.Fibers (r.Start,[r.Start])
def visI (n:TNetwork) (_:Nat) (e:Int) (a:Int×List Int):(Int×List Int) ⊕ ((List Int) ⊕ (List Int×Bool)):=if visB n e a then .inr (.inr ([],false)) else .inl (othI n e a.1,a.2++[othI n e a.1])
def visK (n:TNetwork) (_:Nat) (e:Int) (a:Int×List Int):(Int×List Int) ⊕ ((List Int) ⊕ (List Int×Bool)):=if visB n e a then .inr (.inr (a.2,false)) else .inl (othI n e a.1,a.2++[othI n e a.1])
theorem len0 (l:List Int):((l.length:Int)==0)=decide (l.length=0):=by
 rw [Bool.eq_iff_iff]; simp
theorem p_visited (n:TNetwork) (r:TRoute) (hN:n.Nodes.length≤1048576) (hF:n.Fibers.length≤1048576) (hr:r.Fibers.length≤1048576):M_cq n r=some (match visP n r with | some l=>(l,true) | none=>([],false)):=by
 unfold M_cq visP
 simp only [p_within,Option.bind_some,len0]
 rw [w64_eq (n:=(n.Nodes.length:Int) - 1) (by omega) (by omega)]
 have hc:(cond (!wi r.Start 0 ((n.Nodes.length:Int) - 1)) (some true) (some (decide (r.Fibers.length=0))):Option Bool)=some (!wi r.Start 0 ((n.Nodes.length:Int) - 1)||decide (r.Fibers.length=0)):=by
  cases wi r.Start 0 ((n.Nodes.length:Int) - 1) <;> rfl
 rw [hc]
 simp only [Option.bind_some]
 rcases bt (!wi r.Start 0 ((n.Nodes.length:Int) - 1)||decide (r.Fibers.length=0)) with e | e
 · rw [e]; rfl
 rw [e]
 simp only [cond_false,bnd,Bool.false_eq_true,if_false]
 have key:=iter_list (f:=M_at n r) r.Fibers (fun i (a:Int×List Int)=>(a.1,(i:Int),a.2)) (visI n) (fun a=>.inl a.2) (fun i a=>a.2.length=i+1) (fun i a x hx hI=>by
  have hlt:=(List.getElem?_eq_some_iff.1 hx).1
  have h1:decide ((i:Int) < r.Fibers.length)=true:=by simp [hlt]
  simp only [M_at,h1,cond_true,geti_nat,hx,Option.bind_some,p_within]
  rw [w64_eq (n:=(n.Fibers.length:Int) - 1) (by omega) (by omega),w64_eq (n:=(i:Int)+1) (by omega) (by omega)]
  unfold visI visB
  rcases bt (wi x 0 ((n.Fibers.length:Int) - 1)) with e1 | e1
  · obtain ⟨f,f1,f2⟩:=geti_fib e1
    have ho:othI n x a.1=otherP f a.1:=by unfold othI; rw [f2]
    simp only [e1,Bool.not_true,cond_false,f1,Option.bind_some,p_otherEnd,← ho,p_ContI a.2 (othI n x a.1) (by omega),Bool.false_or]
    by_cases h3:othI n x a.1 < 0
    · exact .inr ⟨_,by simp [h3]; rfl,by simp [h3]⟩
    · by_cases h4:othI n x a.1∈a.2
      · exact .inr ⟨_,by simp [h4]; rfl,by simp [h3,h4]⟩
      · refine .inl ⟨(othI n x a.1,a.2++[othI n x a.1]),by simp [h3,h4],by simp [hI],?_⟩
        simp only [decide_eq_false h3,decide_eq_false h4,cond_false,Option.bind_some,bnd]
        rw [grd_t (by omega)]
        rfl
  · exact .inr ⟨_,by simp [e1]; rfl,by simp [e1]⟩) (fun a _=>by simp [M_at]) (r.Start,[r.Start]) rfl (by omega)
 have e0:((0:Nat):Int)=0:=rfl
 simp only [e0] at key
 rw [key]
 have:=walkL_rel (visS n) (visI n) (fun a=>some a.2) (fun a=>(.inl a.2:(List Int) ⊕ (List Int×Bool))) (fun b c=>match b with | some l=>c=.inl l | none=>c=.inr ([],false)) (fun i x a=>by
  unfold visS visI
  cases visB n x a
  · exact .inl ⟨_,rfl,rfl⟩
  · exact .inr ⟨_,_,rfl,rfl,rfl⟩) (fun a=>rfl) r.Fibers 0 (r.Start,[r.Start])
 revert this
 generalize walkL (visI n) (fun a=>(.inl a.2:(List Int) ⊕ (List Int×Bool))) 0 r.Fibers (r.Start,[r.Start])=c
 cases walkL (visS n) (fun a=>some a.2) 0 r.Fibers (r.Start,[r.Start]) with
 | none=>intro h; rw [h]; rfl
 | some l=>intro h; rw [h]; rfl
theorem p_l4Walk (n:TNetwork) (r:TRoute) (hN:n.Nodes.length≤1048576) (hF:n.Fibers.length≤1048576) (hr:r.Fibers.length≤1048576):∃ o,M_cn n r=some (o,(visP n r).isSome)∧∀ l,visP n r=some l→o=l:=by
 unfold M_cn visP
 simp only [p_l1In,Option.bind_some,len0,bnd]
 rw [w64_eq (n:=(n.Nodes.length:Int) - 1) (by omega) (by omega)]
 have hc:(cond (!wi r.Start 0 ((n.Nodes.length:Int) - 1)) (some true) (some (decide (r.Fibers.length=0))):Option Bool)=some (!wi r.Start 0 ((n.Nodes.length:Int) - 1)||decide (r.Fibers.length=0)):=by
  cases wi r.Start 0 ((n.Nodes.length:Int) - 1) <;> rfl
 rw [hc]
 simp only [Option.bind_some]
 rcases bt (!wi r.Start 0 ((n.Nodes.length:Int) - 1)||decide (r.Fibers.length=0)) with e | e
 · rw [e]; exact ⟨[r.Start],rfl,fun l h=>by simp at h⟩
 rw [e]
 simp only [cond_false,Bool.false_eq_true,if_false]
 have key:=iter_list (f:=M_aj n r) r.Fibers (fun i (a:Int×List Int)=>((i:Int),a.2)) (visK n) (fun a=>.inl a.2) (fun i a=>a.2.length=i+1∧a.2[i]?=some a.1) (fun i a x hx hI=>by
  have hlt:=(List.getElem?_eq_some_iff.1 hx).1
  have h1:decide ((i:Int) < r.Fibers.length)=true:=by simp [hlt]
  simp only [M_aj,h1,cond_true,geti_nat,hx,Option.bind_some,p_l1In]
  have hl1:IntKind.wrap .i64 ((a.2.length:Int) - 1)=(i:Int):=by rw [w64_eq (by omega) (by omega)]; omega
  rw [w64_eq (n:=(n.Fibers.length:Int) - 1) (by omega) (by omega),w64_eq (n:=(i:Int)+1) (by omega) (by omega),hl1]
  unfold visK visB
  rcases bt (wi x 0 ((n.Fibers.length:Int) - 1)) with e1 | e1
  · simp only [e1,Bool.not_true,cond_false,Option.bind_some,Bool.false_or,Int.toNat_natCast,hI.2]
    rw [grd_t (by omega)]
    simp only [Option.bind_some,p_l2Other n x a.1 e1,p_l1Has a.2 (othI n x a.1) (by omega)]
    have hm:(a.2.any fun y=>y==othI n x a.1)=decide (othI n x a.1∈a.2):=by
     rw [Bool.eq_iff_iff]; simp
    rw [hm]
    by_cases h3:othI n x a.1 < 0
    · exact .inr ⟨_,by simp [h3]; rfl,by simp [h3]⟩
    · by_cases h4:othI n x a.1∈a.2
      · exact .inr ⟨_,by simp [h4]; rfl,by simp [h3,h4]⟩
      · refine .inl ⟨(othI n x a.1,a.2++[othI n x a.1]),by simp [h3,h4],⟨by simp [hI.1],by rw [← hI.1]; simp⟩,?_⟩
        simp only [decide_eq_false h3,decide_eq_false h4,cond_false,Option.bind_some]
        rw [grd_t (by omega)]
        rfl
  · exact .inr ⟨_,by simp [e1]; rfl,by simp [e1]⟩) (fun a _=>by simp [M_aj]) (r.Start,[r.Start]) ⟨rfl,rfl⟩ (by omega)
 have e0:((0:Nat):Int)=0:=rfl
 simp only [e0] at key
 rw [key]
 have:=walkL_rel (visS n) (visK n) (fun a=>some a.2) (fun a=>(.inl a.2:(List Int) ⊕ (List Int×Bool))) (fun b c=>match b with | some l=>c=.inl l | none=>∃ o,c=.inr (o,false)) (fun i x a=>by
  unfold visS visK
  cases visB n x a
  · exact .inl ⟨_,rfl,rfl⟩
  · exact .inr ⟨_,_,rfl,rfl,_,rfl⟩) (fun a=>rfl) r.Fibers 0 (r.Start,[r.Start])
 revert this
 generalize walkL (visK n) (fun a=>(.inl a.2:(List Int) ⊕ (List Int×Bool))) 0 r.Fibers (r.Start,[r.Start])=c
 cases walkL (visS n) (fun a=>some a.2) 0 r.Fibers (r.Start,[r.Start]) with
 | none=>rintro ⟨o,h⟩; rw [h]; exact ⟨o,rfl,fun l h=>by cases h⟩
 | some l=>intro h; rw [h]; exact ⟨l,rfl,fun l' h=>by cases h; rfl⟩
def rteOk (n:TNetwork) (r:TRoute):Bool:=netOk n&&(visP n r).isSome
theorem p_l4Good (n:TNetwork) (r:TRoute) (hz:z_Network n≤1048576) (hr:r.Fibers.length≤1048576):M_dd n r=some (rteOk n r):=by
 obtain ⟨h1,h2,_⟩:=z_net hz
 unfold M_dd rteOk
 rw [p_l2Good n hz]
 simp only [Option.bind_some]
 rcases bt (netOk n) with e | e
 · obtain ⟨o,o1,_⟩:=p_l4Walk n r (by omega) (by omega) hr
   rw [e]
   simp only [Bool.not_true,cond_false,o1,Option.bind_some,Bool.true_and]
 · rw [e]; rfl
theorem vis_facts {n:TNetwork} (hE:∀ f∈n.Fibers,f.A < n.Nodes.length∧f.B < n.Nodes.length):∀ (xs:List Int) (i:Nat) (a:Int×List Int) (l:List Int),walkL (visS n) (fun a=>some a.2) i xs a=some l→a.2.Nodup→(∀ v∈a.2,0≤v∧v < (n.Nodes.length:Int))→a.1∈a.2 →
 l.Nodup∧(∀ v∈l,0≤v∧v < (n.Nodes.length:Int))∧l.length=a.2.length+xs.length∧(∀ e∈xs,0≤e∧e < (n.Fibers.length:Int))∧xs.Nodup∧∀ e∈xs,∀ f,n.Fibers[e.toNat]?=some f→¬ (f.A∈a.2∧f.B∈a.2)
 | [],_,a,l,h,hd,hv,_=>by simp only [walkL,Option.some.injEq] at h; subst h; exact ⟨hd,hv,by simp,by simp,by simp,by simp⟩
 | x :: xs, i, a, l, h, hd, hv, ha => by
   simp only [walkL,visS] at h
   rcases bt (visB n x a) with e | e
   · rw [e] at h; cases h
   · rw [e] at h
     simp only [Bool.false_eq_true,if_false] at h
     simp only [visB,Bool.or_eq_false_iff,Bool.not_eq_false',decide_eq_false_iff_not,wi_iff] at e
     obtain ⟨⟨e1,e2⟩,e3⟩:=e
     have hi:x.toNat < n.Fibers.length:=by omega
     have hf:=hE _ (List.getElem_mem hi)
     have hg:=List.getElem?_eq_getElem hi
     generalize n.Fibers[x.toNat]=f at hf hg
     have ho:othI n x a.1=otherP f a.1:=by unfold othI; rw [hg]
     have hend:(f.A=a.1∧f.B=othI n x a.1)∨(f.B=a.1∧f.A=othI n x a.1):=by
      rw [ho] at e2 ⊢
      unfold otherP at e2 ⊢
      split
      · rename_i h1; exact .inl ⟨h1.symm,rfl⟩
      · split
        · rename_i h1; exact .inr ⟨h1.symm,rfl⟩
        · rename_i h1 h2; simp [h1,h2] at e2
     have hlt:othI n x a.1 < n.Nodes.length:=by omega
     obtain ⟨g1,g2,g3,g4,g5,g6⟩:=vis_facts hE xs (i+1) _ l h (by
      rw [List.nodup_append]
      exact ⟨hd,by simp,fun u hu v hv=>by simp at hv; subst hv; intro e; subst e; exact e3 hu⟩) (fun v hv2=>by
      simp only [List.mem_append,List.mem_singleton] at hv2
      rcases hv2 with h | h
      · exact hv v h
      · subst h; exact ⟨by omega,hlt⟩) (by simp)
     refine ⟨g1,g2,by rw [g3]; simp; omega,fun e he=>?_,List.nodup_cons.2 ⟨fun hm=>?_,g5⟩,fun e he f' hf'=>?_⟩
     · rcases List.mem_cons.1 he with rfl | he
       · omega
       · exact g4 e he
     · refine g6 x hm f hg ?_
       simp only [List.mem_append,List.mem_singleton]
       rcases hend with ⟨h1,h2⟩ | ⟨h1,h2⟩
       · exact ⟨.inl (h1 ▸ ha),.inr h2⟩
       · exact ⟨.inr h2,.inl (h1 ▸ ha)⟩
     · rcases List.mem_cons.1 he with rfl | he
       · rw [hg] at hf'; cases hf'
         rcases hend with ⟨h1,h2⟩ | ⟨h1,h2⟩
         · exact fun h=>e3 (h2 ▸ h.2)
         · exact fun h=>e3 (h2 ▸ h.1)
       · exact fun h=>g6 e he f' hf' ⟨List.mem_append_left _ h.1,List.mem_append_left _ h.2⟩
theorem rte_facts {n:TNetwork} {r:TRoute} (hE:∀ f∈n.Fibers,f.A < n.Nodes.length∧f.B < n.Nodes.length) {l:List Int} (h:visP n r=some l):l.Nodup∧(∀ v∈l,0≤v∧v < (n.Nodes.length:Int))∧l.length=r.Fibers.length+1∧(∀ e∈r.Fibers,0≤e∧e < (n.Fibers.length:Int))∧r.Fibers.Nodup:=by
 unfold visP at h
 split at h
 · cases h
 · rename_i hc
   simp only [Bool.or_eq_true,Bool.not_eq_true',decide_eq_true_eq,not_or,Bool.not_eq_false,wi_iff] at hc
   obtain ⟨g1,g2,g3,g4,g5,_⟩:=vis_facts hE _ _ _ _ h (by simp) (fun v hv=>by simp at hv; subst hv; omega) (by simp)
   exact ⟨g1,g2,by rw [g3]; simp; omega,g4,g5⟩
theorem nodup_le:∀ (m:Nat) (l:List Int),l.Nodup→(∀ x∈l,0≤x∧x < (m:Int))→l.length≤m
 | 0, l, _, h => by
   cases l with
   | nil=>simp
   | cons x l=>have:=h x (by simp); omega
 | m + 1, l, hn, h => by
   by_cases hm:(m:Int)∈l
   · have:=nodup_le m (l.erase (m:Int)) (hn.erase _) (fun x hx=>by
      have h1:=(hn.mem_erase_iff).1 hx
      have:=h x h1.2
      have h3:=h1.1
      omega)
     rw [List.length_erase_of_mem hm] at this
     omega
   · have:=nodup_le m l hn (fun x hx=>by
      have:=h x hx
      have:x ≠ (m:Int):=fun e=>hm (e ▸ hx)
      omega)
     omega
end Vs

namespace Vs
open Go
def gz (l:List Int) (p:Nat):Int:=(l[p]?).getD 0
theorem gz_at {l:List Int} {p:Nat} (h:p < l.length):l[p]?=some (gz l p):=by
 unfold gz; rw [List.getElem?_eq_getElem h]; rfl
theorem gz_set {l:List Int} {p q:Nat} {x:Int} (h:p < l.length):gz (l.set p x) q=if q=p then x else gz l q:=by
 unfold gz
 rw [List.getElem?_set]
 by_cases e:p=q
 · rw [if_pos e,if_pos h,if_pos e.symm]; rfl
 · rw [if_neg e,if_neg (Ne.symm e)]
theorem p_Less (x y:Int):M_ea x y=some (decide (x < y)):=by
 unfold M_ea M_br; simp
theorem perm_swap {l:List Int} {i j:Nat} (hi:i < l.length) (hj:j < l.length):((l.set i (gz l j)).set j (gz l i)).Perm l:=by
 by_cases e:i=j
 · subst e
   have:(l.set i (gz l i)).set i (gz l i)=l:=by
    apply List.ext_getElem?
    intro k
    rw [List.getElem?_set,List.getElem?_set]
    by_cases h:i=k
    · subst h; simp [hi]; unfold gz; rw [List.getElem?_eq_getElem hi]; rfl
    · simp [h]
   rw [this]
 · have g1:gz l j=l[j]:=by unfold gz; rw [List.getElem?_eq_getElem hj]; rfl
   have g2:gz l i=l[i]:=by unfold gz; rw [List.getElem?_eq_getElem hi]; rfl
   rw [g1,g2]
   exact List.set_set_perm hi hj
def SrtI (i j:Nat) (l:List Int):Prop:=(∀ p q,p < q→q≤i→p ≠ j→q ≠ j→gz l p≤gz l q)∧∀ q,j < q→q≤i→gz l j≤gz l q
def SrtB (n:Nat) (l:List Int):Prop:=∀ p q,p < q→q < n→gz l p≤gz l q
theorem p_sortL2 (n i:Nat) (l0:List Int) (hl:l0.length=n) (hn:n≤1048576) (hi:i < n) (hs:SrtB i l0) :
 ∃ l,iter (M_g 0) N0 ((i:Int),l0)=some l∧l.Perm l0∧SrtB (i+1) l:=by
 refine iter_inv (f:=M_g 0) (fun s=>∃ j:Nat,s.1=j∧j≤i∧s.2.length=n∧s.2.Perm l0∧SrtI i j s.2) (fun s=>s.1.toNat) (fun l=>l.Perm l0∧SrtB (i+1) l) (fun s hI=>?_) N0 ((i:Int),l0)
  ⟨i,rfl,Nat.le_refl _,hl,List.Perm.refl _,fun p q h1 h2 h3 h4=>hs p q h1 (by omega),fun q h1 h2=>by omega⟩ (N0_lt (by simp; omega))
 obtain ⟨j',l⟩:=s
 obtain ⟨j,rfl,hj,hll,hp,hA,hB⟩:=hI
 simp only at hll hp hA hB
 by_cases h0:0 < j
 · have e1:decide ((0:Int) < (j:Int))=true:=decide_eq_true (by omega)
   have ew:IntKind.wrap .i64 ((j:Int) - 1)=((j - 1:Nat):Int):=by rw [w64_eq (by omega) (by omega)]; omega
   have g1:l[j]?=some (gz l j):=gz_at (by omega)
   have g2:l[j - 1]?=some (gz l (j - 1)):=gz_at (by omega)
   have d1:grd (0≤(j:Int)∧(j:Int) < (l.length:Int))=some ():=grd_t (by omega)
   have d2:grd (0≤((j - 1:Nat):Int)∧((j - 1:Nat):Int) < (l.length:Int))=some ():=grd_t (by omega)
   by_cases hlt:gz l j < gz l (j - 1)
   · left
     have e2:decide (gz l j < gz l (j - 1))=true:=decide_eq_true hlt
     have g3:(l.set j (gz l (j - 1)))[j - 1]?=some (gz l (j - 1)):=by
      rw [List.getElem?_set,if_neg (by omega)]; exact g2
     refine ⟨(((j - 1:Nat):Int),(l.set j (gz l (j - 1))).set (j - 1) (gz l j)),?_,⟨j - 1,rfl,by omega,by simp [hll],?_,?_,?_⟩,?_⟩
     · simp only [M_g,e1,cond_true,Int.toNat_natCast,ew,d1,d2,g1,g2,p_Less,e2,Option.bind_some,bnd,g3]
     · exact (perm_swap (by omega) (by omega)).trans hp
     · intro p q h1 h2 h3 h4
       simp only at *
       rw [gz_set (by simp; omega),gz_set (by omega),gz_set (by simp; omega),gz_set (by omega),if_neg h3,if_neg h4]
       by_cases c1:p=j
       · rw [if_pos c1,if_neg (by omega)]; exact hA (j - 1) q (by omega) h2 (by omega) (by omega)
       · rw [if_neg c1]
         by_cases c2:q=j
         · rw [if_pos c2]; exact hA p (j - 1) (by omega) (by omega) c1 (by omega)
         · rw [if_neg c2]; exact hA p q h1 h2 c1 c2
     · intro q h1 h2
       simp only at *
       rw [gz_set (by simp; omega),if_pos rfl,gz_set (by simp; omega),if_neg (by omega),gz_set (by omega)]
       by_cases c2:q=j
       · rw [if_pos c2]; omega
       · rw [if_neg c2]; exact hB q (by omega) h2
     · simp only [Int.toNat_natCast]; omega
   · right
     have e2:decide (gz l j < gz l (j - 1))=false:=decide_eq_false hlt
     refine ⟨l,?_,hp,?_⟩
     · simp only [M_g,e1,cond_true,Int.toNat_natCast,ew,d1,d2,g1,g2,Option.bind_some,p_Less,e2,cond_false]
     · intro p q h1 h2
       by_cases c1:p=j
       · rw [c1]; exact hB q (by omega) (by omega)
       · by_cases c2:q=j
         · rw [c2]
           by_cases c3:p=j - 1
           · rw [c3]; omega
           · have:=hA p (j - 1) (by omega) (by omega) c1 (by omega); omega
         · exact hA p q h1 (by omega) c1 c2
 · right
   have e1:decide ((0:Int) < (j:Int))=false:=decide_eq_false (by omega)
   refine ⟨l,by simp only [M_g,e1,cond_false,Option.bind_some],hp,fun p q h1 h2=>?_⟩
   by_cases c1:p=j
   · rw [c1]; exact hB q (by omega) (by omega)
   · exact hA p q h1 (by omega) c1 (by omega)
theorem p_sortI (n:Nat) (xs:List Int) (hl:xs.length=n) (hn:n≤1048576):∃ l,M_eb 0 (n:Int) xs=some l∧l.Perm xs∧SrtB n l:=by
 unfold M_eb
 obtain ⟨l,h1,h2,h3⟩:=iter_inv (f:=M_r 0 (n:Int)) (fun s=>∃ i:Nat,s.1=i∧1≤i∧i≤n+1∧s.2.length=n∧s.2.Perm xs∧SrtB i s.2) (fun s=>n+1 - s.1.toNat) (fun l=>l.Perm xs∧SrtB n l) (fun s hI=>by
  obtain ⟨i',l⟩:=s
  obtain ⟨i,rfl,h0,hi,hll,hp,hs⟩:=hI
  simp only at hll hp hs
  by_cases h:i < n
  · left
    have e1:decide ((i:Int) < (n:Int))=true:=decide_eq_true (by omega)
    obtain ⟨l',g1,g2,g3⟩:=p_sortL2 n i l hll hn h hs
    refine ⟨(((i+1:Nat):Int),l'),?_,⟨i+1,rfl,by omega,by omega,by rw [g2.length_eq]; exact hll,g2.trans hp,g3⟩,by simp only [Int.toNat_natCast]; omega⟩
    simp only [M_r,e1,cond_true,g1,Option.bind_some]
    rw [w64_eq (by omega) (by omega)]; rfl
  · right
    have e1:decide ((i:Int) < (n:Int))=false:=decide_eq_false (by omega)
    exact ⟨l,by simp only [M_r,e1,cond_false],hp,fun p q h1 h2=>hs p q h1 (by omega)⟩) N0 (((1:Nat):Int),xs) ⟨1,rfl,by omega,by omega,hl,List.Perm.refl _,fun p q h1 h2=>by omega⟩ (N0_lt (by simp; omega))
 refine ⟨l,?_,h2,h3⟩
 have e:IntKind.wrap .i64 ((0:Int)+1)=((1:Nat):Int):=by rw [w64_eq (by omega) (by omega)]; rfl
 rw [e,h1]; rfl
theorem bitsLen12:∀ n:Fin 13,(M_ec (IntKind.wrap .u64 (n.val:Int))).isSome=true:=by decide +kernel
theorem p_SortI (xs:List Int) (h:xs.length≤12):∃ l,M_ed xs=some l∧l.Perm xs∧l.Pairwise (·≤·):=by
 obtain ⟨l,h1,h2,h3⟩:=p_sortI xs.length xs rfl (by omega)
 refine ⟨l,?_,h2,?_⟩
 · have hb:=bitsLen12 ⟨xs.length,by omega⟩
   simp only at hb
   unfold M_ed
   cases hx:M_ec (IntKind.wrap .u64 (xs.length:Int)) with
   | none=>rw [hx] at hb; cases hb
   | some r =>
     simp only [Option.bind_some]
     unfold M_fw
     have hN:N0=(N0 - 1)+1:=by unfold N0; omega
     rw [hN,iter]
     have e1:decide (IntKind.wrap .i64 ((xs.length:Int) - 0)≤12)=true:=by rw [w64_eq (by omega) (by omega)]; exact decide_eq_true (by omega)
     simp only [M_bk,e1,cond_true,h1,Option.bind_some]
 · rw [List.pairwise_iff_getElem]
   intro i j hi hj hij
   have:=h3 i j hij (by rw [← h2.length_eq]; exact hj)
   unfold gz at this
   rw [List.getElem?_eq_getElem hi,List.getElem?_eq_getElem hj] at this
   exact this
theorem rise_eq:∀ (xs ys:List Int),xs.Pairwise (· < ·)→ys.Pairwise (· < ·)→(∀ x,x∈xs↔x∈ys)→xs=ys
 | [],[],_,_,_=>rfl
 | [],y::ys,_,_,h=>by have:=(h y).2 (by simp); cases this
 | x::xs,[],_,_,h=>by have:=(h x).1 (by simp); cases this
 | x :: xs, y :: ys, hx, hy, h => by
   rw [List.pairwise_cons] at hx hy
   have e:x=y:=by
    have h1:=(h x).1 (by simp)
    have h2:=(h y).2 (by simp)
    rcases List.mem_cons.1 h1 with h1 | h1
    · exact h1
    · rcases List.mem_cons.1 h2 with h2 | h2
      · exact h2.symm
      · have:=hx.1 y h2; have:=hy.1 x h1; omega
   subst e
   congr 1
   refine rise_eq xs ys hx.2 hy.2 fun z=>?_
   have:=h z
   constructor
   · intro hz
     rcases List.mem_cons.1 (this.1 (List.mem_cons_of_mem _ hz)) with e | e
     · subst e; have:=hx.1 z hz; omega
     · exact e
   · intro hz
     rcases List.mem_cons.1 (this.2 (List.mem_cons_of_mem _ hz)) with e | e
     · subst e; have:=hy.1 z hz; omega
     · exact e
end Vs

namespace Vs
open Go
def comP (a gone:List Int):List Int:=a.filter fun x=>decide (x∈gone)
theorem walkL_fil1 (p:Int→Bool):∀ (xs:List Int) (i:Nat) (l:List Int),walkL (fun (_:Nat) (x:Int) (l:List Int)=>(.inl (if p x then l++[x] else l):List Int ⊕ List Int)) (fun l=>l) i xs l=l++xs.filter p
 | [],_,l=>by simp [walkL]
 | x :: xs, i, l => by
   simp only [walkL]
   rw [walkL_fil1 p xs (i+1)]
   by_cases h:p x=true
   · simp [h]
   · simp [h]
theorem p_comL (a gone:List Int) (ha:a.length≤1048576) (hg:gone.length≤1048576):iter (M_e a gone) N0 (0,[])=some (comP a gone):=by
 have key:=iter_list (f:=M_e a gone) a (fun i (l:List Int)=>((i:Int),l)) (fun _ x l=>.inl (if decide (x∈gone) then l++[x] else l)) (fun l=>l) (fun i l=>l.length≤i) (fun i l x hx hI=>by
  have hlt:=(List.getElem?_eq_some_iff.1 hx).1
  have h1:decide ((i:Int) < a.length)=true:=by simp [hlt]
  refine .inl ⟨_,rfl,by split <;> (try simp only [List.length_append,List.length_cons,List.length_nil]) <;> omega,?_⟩
  simp only [M_e,h1,cond_true,geti_nat,hx,Option.bind_some,p_ContI gone x hg,bnd]
  rw [w64_eq (n:=(i:Int)+1) (by omega) (by omega)]
  by_cases h:x∈gone
  · rw [decide_eq_true h,cond_true,grd_t (by omega),if_pos rfl]; rfl
  · rw [decide_eq_false h,cond_false,if_neg (by simp)]; rfl) (fun l _=>by simp [M_e]) [] (Nat.le_refl 0) (by omega)
 have e0:((0:Nat):Int)=0:=rfl
 simp only [e0] at key
 rw [key,walkL_fil1]
 rfl
def ddp (ys:List Int):Nat→List Int
 | 0=>[]
 | j+1=>if 0 < j∧ys[j]?=ys[j - 1]? then ddp ys j else ddp ys j++(ys[j]?).toList
theorem ddp_take (ys:List Int):∀ k,(∀ i,1≤i→i < k→ys[i]? ≠ ys[i - 1]?)→ddp ys k=ys.take k
 | 0,_=>by simp [ddp]
 | k + 1, h => by
   unfold ddp
   rw [if_neg (fun e=>h k (by omega) (by omega) e.2),ddp_take ys k (fun i h1 h2=>h i h1 (by omega)),List.take_add_one]
theorem take_set1 {l:List Int} {k:Nat} (y:Int) (h:k < l.length):(l.set k y).take (k+1)=l.take k++[y]:=by
 rw [List.take_add_one,List.getElem?_set_self h,List.take_set_of_le (Nat.le_refl k)]; rfl
theorem ddp_sorted {ys:List Int} (hs:ys.Pairwise (·≤·)):∀ j,j≤ys.length→(ddp ys j).Pairwise (· < ·)∧(∀ x∈ddp ys j,∀ y,ys[j - 1]?=some y→x≤y)∧∀ x,x∈ddp ys j↔x∈ys.take j
 | 0,_=>by simp [ddp]
 | j + 1, h => by
   obtain ⟨h1,h2,h3⟩:=ddp_sorted hs j (by omega)
   have hy:ys[j]?=some (ys[j]'(by omega)):=List.getElem?_eq_getElem (by omega)
   generalize ys[j]'(by omega)=y at hy
   unfold ddp
   rw [List.take_add_one,hy]
   by_cases c:0 < j∧some y=ys[j - 1]?
   · rw [if_pos c]
     refine ⟨h1,fun x hx z hz=>?_,fun x=>?_⟩
     · simp only [Nat.add_sub_cancel,hy,Option.some.injEq] at hz
       subst hz
       exact h2 x hx y c.2.symm
     · have hm:y∈ys.take j:=by
        rw [List.mem_take_iff_getElem]
        obtain ⟨q1,q2⟩:=List.getElem?_eq_some_iff.1 c.2.symm
        exact ⟨j - 1,by omega,q2⟩
       simp only [Option.toList_some,List.mem_append,List.mem_singleton,h3]
       exact ⟨.inl,fun q=>q.elim id fun e=>e ▸ hm⟩
   · rw [if_neg c]
     have hlt:∀ x∈ddp ys j,x < y:=fun x hx=>by
      by_cases hj:0 < j
      · have hz:ys[j - 1]?=some (ys[j - 1]'(by omega)):=List.getElem?_eq_getElem (by omega)
        have:=h2 x hx _ hz
        have h5:ys[j - 1]'(by omega)≤ys[j]'(by omega):=List.pairwise_iff_getElem.1 hs (j - 1) j (by omega) (by omega) (by omega)
        have h6:ys[j]'(by omega)=y:=(List.getElem?_eq_some_iff.1 hy).2
        have h7:ys[j - 1]'(by omega) ≠ y:=fun e=>c ⟨hj,by rw [hz,e]⟩
        omega
      · have:j=0:=by omega
        subst this; simp [ddp] at hx
     refine ⟨?_,fun x hx z hz=>?_,fun x=>?_⟩
     · rw [List.pairwise_append]
       exact ⟨h1,by simp,fun a ha b hb=>by simp at hb; subst hb; exact hlt a ha⟩
     · simp only [Nat.add_sub_cancel,hy,Option.some.injEq] at hz
       subst hz
       simp only [Option.toList_some,List.mem_append,List.mem_singleton] at hx
       rcases hx with hx | hx
       · have:=hlt x hx; omega
       · omega
     · simp only [List.mem_append,h3]
theorem p_CompL2 (ys:List Int) (hl:ys.length≤1048576) (k0:Nat) (h0:1≤k0) (hk:k0 < ys.length) (hd:ddp ys (k0+1)=ys.take k0) :
 ∃ (k:Nat) (l:List Int),iter (M_f 0 ys.length (k0:Int)) N0 ((k0:Int),1,ys)=some ((k:Int),l)∧l.length=ys.length∧k≤ys.length∧l.take k=ddp ys ys.length:=by
 obtain ⟨o,o1,o2⟩:=iter_inv (f:=M_f 0 ys.length (k0:Int)) (fun s=>∃ (k k2:Nat) (l:List Int),s=((k:Int),(k2:Int),l)∧1≤k2∧k0+k2≤ys.length∧l.length=ys.length∧k+1≤k0+k2∧(∀ p,k0+k2≤p+1→l[p]?=ys[p]?)∧l.take k=ddp ys (k0+k2))
  (fun s=>ys.length - s.2.1.toNat) (fun o=>∃ (k:Nat) (l:List Int),o=((k:Int),l)∧l.length=ys.length∧k≤ys.length∧l.take k=ddp ys ys.length) (fun s hI=>by
  obtain ⟨k,k2,l,rfl,i1,i2,i3,i4,i5,i6⟩:=hI
  by_cases hc:k0+k2 < ys.length
  · left
    have e1:decide ((k2:Int) < ((ys.length - k0:Nat):Int))=true:=decide_eq_true (by omega)
    have ew:IntKind.wrap .i64 ((k2:Int) - 1)=((k2 - 1:Nat):Int):=by rw [w64_eq (by omega) (by omega)]; omega
    have g1:l[0+k0+k2]?=some (ys[k0+k2]'hc):=by rw [Nat.zero_add,i5 _ (by omega)]; exact List.getElem?_eq_getElem hc
    have g2:l[0+k0+(k2 - 1)]?=some (ys[k0+k2 - 1]'(by omega)):=by
     rw [show 0+k0+(k2 - 1)=k0+k2 - 1 by omega,i5 _ (by omega)]; exact List.getElem?_eq_getElem (by omega)
    have g3:l[0+k]?=some (l[k]'(by omega)):=by rw [Nat.zero_add]; exact List.getElem?_eq_getElem (by omega)
    have hddp:ddp ys (k0+k2+1)=if ys[k0+k2]'hc=ys[k0+k2 - 1]'(by omega) then ddp ys (k0+k2) else ddp ys (k0+k2)++[ys[k0+k2]'hc]:=by
     rw [ddp,List.getElem?_eq_getElem hc,List.getElem?_eq_getElem (show k0+k2 - 1 < ys.length by omega)]
     by_cases e:ys[k0+k2]'hc=ys[k0+k2 - 1]'(by omega)
     · rw [if_pos ⟨by omega,by rw [e]⟩,if_pos e]
     · rw [if_neg (fun q=>e (Option.some.inj q.2)),if_neg e]; rfl
    simp only [M_f,Int.toNat_natCast,e1,cond_true,ew,g1,g2,g3]
    rw [grd_t (by omega),grd_t (by omega),grd_t (by omega)]
    simp only [Option.bind_some,bnd]
    rw [w64_eq (n:=(k:Int)+1) (by omega) (by omega),w64_eq (n:=(k2:Int)+1) (by omega) (by omega)]
    by_cases e:ys[k0+k2]'hc=ys[k0+k2 - 1]'(by omega)
    · rw [if_pos e] at hddp
      rw [show (ys[k0+k2]'hc != ys[k0+k2 - 1]'(by omega))=false by simpa using e,cond_false]
      exact ⟨_,rfl,⟨k,k2+1,l,by simp,by omega,by omega,i3,by omega,fun p hp=>i5 p (by omega),by rw [show k0+(k2+1)=k0+k2+1 by omega,hddp]; exact i6⟩,by simp only []; omega⟩
    · rw [if_neg e] at hddp
      rw [show (ys[k0+k2]'hc != ys[k0+k2 - 1]'(by omega))=true by simpa using e,cond_true]
      refine ⟨_,rfl,⟨k+1,k2+1,l.set k (ys[k0+k2]'hc),by simp,by omega,by omega,by simpa using i3,by omega,fun p hp=>?_,?_⟩,by simp only []; omega⟩
      · rw [List.getElem?_set_ne (by omega)]; exact i5 p (by omega)
      · rw [show k0+(k2+1)=k0+k2+1 by omega,hddp,take_set1 _ (by omega),i6]
  · right
    have e1:decide ((k2:Int) < ((ys.length - k0:Nat):Int))=false:=decide_eq_false (by omega)
    refine ⟨_,by simp only [M_f,Int.toNat_natCast,e1,cond_false],k,l,rfl,i3,by omega,?_⟩
    rw [i6,show k0+k2=ys.length by omega]) N0 ((k0:Int),((1:Nat):Int),ys) ⟨k0,1,ys,rfl,by omega,by omega,rfl,by omega,fun p _=>rfl,hd.symm⟩ (N0_lt (by simp; omega))
 obtain ⟨k,l,rfl,q1,q2,q3⟩:=o2
 exact ⟨k,l,o1,q1,q2,q3⟩
theorem p_Compact (ys:List Int) (hl:ys.length≤1048576):∃ k l,M_dz 0 ys.length ys=some (0,k,l)∧subT l 0 k=ddp ys ys.length:=by
 unfold M_dz
 by_cases h:(ys.length:Int) < 2
 · rw [decide_eq_true h,cond_true]
   refine ⟨_,_,rfl,?_⟩
   rw [subT_all,ddp_take ys _ (fun i h1 h2=>by omega),List.take_length]
 rw [decide_eq_false h,cond_false]
 obtain ⟨o,o1,o2⟩:=iter_inv (f:=M_ab 0 ys.length ys) (fun s=>∃ i:Nat,s=i∧1≤i∧i≤ys.length∧ddp ys i=ys.take i) (fun s=>ys.length - s.toNat)
  (fun o=>(o=.inl ()∧ddp ys ys.length=ys)∨∃ k l,o=.inr (0,k,l)∧subT l 0 k=ddp ys ys.length) (fun s hI=>by
  obtain ⟨i,rfl,h1,h2,h3⟩:=hI
  by_cases hi:i < ys.length
  · have e1:decide ((i:Int) < (ys.length:Int))=true:=decide_eq_true (by omega)
    have ew:IntKind.wrap .i64 ((i:Int) - 1)=((i - 1:Nat):Int):=by rw [w64_eq (by omega) (by omega)]; omega
    have g1:ys[0+i]?=some (ys[i]'hi):=by rw [Nat.zero_add]; exact List.getElem?_eq_getElem hi
    have g2:ys[0+(i - 1)]?=some (ys[i - 1]'(by omega)):=by rw [Nat.zero_add]; exact List.getElem?_eq_getElem (by omega)
    simp only [M_ab,e1,cond_true,Int.toNat_natCast,g1,ew,g2]
    rw [grd_t (by omega),grd_t (by omega)]
    simp only [Option.bind_some]
    by_cases e:ys[i]'hi=ys[i - 1]'(by omega)
    · right
      have hd:ddp ys (i+1)=ys.take i:=by
       rw [ddp,if_pos ⟨by omega,by rw [List.getElem?_eq_getElem hi,List.getElem?_eq_getElem (show i - 1 < ys.length by omega),e]⟩,h3]
      obtain ⟨k,l,k1,k2,k3,k4⟩:=p_CompL2 ys hl i h1 hi hd
      rw [show (ys[i]'hi==ys[i - 1]'(by omega))=true by simpa using e,cond_true]
      simp only [Int.toNat_natCast,and_true,true_and]
      rw [grd_t (by omega)]
      simp only [Option.bind_some,k1,bnd,Int.toNat_natCast,and_true,true_and]
      rw [grd_t (by omega)]
      simp only [Option.bind_some]
      refine ⟨_,rfl,.inr ⟨k,_,rfl,?_⟩⟩
      rw [← k4,subT_drop,List.drop_zero]
      unfold over
      rw [if_pos (by simp; omega),Nat.zero_add]
      rw [List.append_assoc,List.take_append_of_le_length (by simp; omega),List.take_take,Nat.min_self]
    · left
      rw [show (ys[i]'hi==ys[i - 1]'(by omega))=false by simpa using e,cond_false,w64_eq (by omega) (by omega)]
      refine ⟨_,rfl,⟨i+1,rfl,by omega,by omega,?_⟩,by omega⟩
      rw [ddp,if_neg (fun q=>e (by
       have:=q.2
       rw [List.getElem?_eq_getElem hi,List.getElem?_eq_getElem (show i - 1 < ys.length by omega)] at this
       exact Option.some.inj this)),h3,List.take_add_one]
  · right
    have e1:decide ((i:Int) < (ys.length:Int))=false:=decide_eq_false (by omega)
    refine ⟨_,by simp only [M_ab,e1,cond_false],.inl ⟨rfl,?_⟩⟩
    rw [show ys.length=i by omega,h3,show i=ys.length by omega,List.take_length]) N0 ((1:Nat):Int) ⟨1,rfl,by omega,by omega,by
     rw [ddp_take ys 1 (fun i h1 h2=>by omega)]⟩ (N0_lt (by simp; omega))
 have e1:((1:Nat):Int)=1:=rfl
 rw [e1] at o1
 rw [o1]
 rcases o2 with ⟨rfl,q⟩ | ⟨k,l,rfl,q⟩
 · exact ⟨_,_,rfl,by rw [subT_all,q]⟩
 · exact ⟨k,l,rfl,q⟩
theorem p_common (a gone:List Int) (ha:a.length≤12) (hg:gone.length≤1048576):∃ l,M_bv a gone=some l∧l.Pairwise (· < ·)∧∀ x,x∈l↔x∈a∧x∈gone:=by
 unfold M_bv
 have hc:(comP a gone).length≤a.length:=List.length_filter_le ..
 rw [p_comL a gone (by omega) hg]
 simp only [Option.bind_some]
 obtain ⟨l,l1,l2,l3⟩:=p_SortI (comP a gone) (by omega)
 have hln:=l2.length_eq
 obtain ⟨k,l',k1,k2⟩:=p_Compact l (by omega)
 rw [l1]
 simp only [Option.bind_some]
 rw [← hln,k1]
 simp only [Option.bind_some,bnd,k2]
 obtain ⟨s1,_,s3⟩:=ddp_sorted l3 l.length (Nat.le_refl _)
 refine ⟨_,rfl,s1,fun x=>?_⟩
 rw [s3,List.take_length,l2.mem_iff]
 simp [comP]
def sepP (a gone:List Int):Bool:=!a.any fun x=>decide (x∈gone)
theorem sep_len {a gone l:List Int} (h:∀ x,x∈l↔x∈a∧x∈gone):((l.length:Int)==0)=sepP a gone:=by
 rw [Bool.eq_iff_iff]
 simp only [beq_iff_eq,sepP,Bool.not_eq_true',List.any_eq_false,decide_eq_true_eq]
 constructor
 · intro e x hx hg
   have:=(h x).2 ⟨hx,hg⟩
   have h0:l=[]:=List.length_eq_zero_iff.1 (by omega)
   rw [h0] at this; cases this
 · intro hn
   cases l with
   | nil=>rfl
   | cons x l=>exact (hn x ((h x).1 (by simp)).1 ((h x).1 (by simp)).2).elim
theorem sep_gt {a gone l:List Int} (h:∀ x,x∈l↔x∈a∧x∈gone):decide ((0:Int) < (l.length:Int))=!sepP a gone:=by
 rw [← sep_len h,Bool.eq_iff_iff]
 simp only [decide_eq_true_eq,Bool.not_eq_true',beq_eq_false_iff_ne]
 omega
end Vs

namespace Vs
open Go
def blkOk (b:TBlock):Bool:=wi b.First 0 23&&wi b.Count 1 (24 - b.First)
theorem p_l8Good (b:TBlock):M_es b=some (blkOk b):=by
 unfold M_es blkOk
 simp only [p_l1In,Option.bind_some]
 rcases bt (wi b.First 0 23) with e | e
 · have:=wi_iff.1 e
   rw [e,cond_true,w64_eq (by omega) (by omega),Bool.true_and]
 · rw [e]; rfl
theorem p_IsValidBlock (b:TBlock):M_fe b=some (blkOk b):=by
 unfold M_fe blkOk
 simp only [p_within,Option.bind_some]
 by_cases h1:0≤b.First
 · rw [decide_eq_true h1,cond_true]
   rcases bt (wi b.Count 1 24) with e | e
   · have:=wi_iff.1 e
     rw [e,cond_true,w64_eq (by omega) (by omega)]
     congr 1
     rw [Bool.eq_iff_iff]
     simp only [decide_eq_true_eq,Bool.and_eq_true,wi_iff]
     omega
   · rw [e,cond_false]
     congr 1
     symm
     rw [Bool.eq_false_iff]
     intro h
     simp only [Bool.and_eq_true,wi_iff] at h
     have:=wi_false.1 e
     omega
 · rw [decide_eq_false h1,cond_false]
   congr 1
   symm
   rw [Bool.eq_false_iff]
   intro h
   simp only [Bool.and_eq_true,wi_iff] at h
   omega
def blkIn (b:TBlock):Prop:=(0≤b.First∧b.First≤24)∧0≤b.Count∧b.Count≤24
theorem blk_in {b:TBlock} (h:blkOk b=true):blkIn b:=by
 unfold blkOk at h
 simp only [Bool.and_eq_true,wi_iff] at h
 unfold blkIn; omega
def maskB (b:TBlock):Int:=IntKind.wrap .i64 ((IntKind.wrap .i64 ((IntKind.wrap .i64 (1 * 2 ^ (min (Int.toNat b.Count) (IntKind.bits .i64)))) - 1)) * 2 ^ (min (Int.toNat b.First) (IntKind.bits .i64)))
theorem p_maskOf {b:TBlock} (h:blkIn b):M_cr b=some (maskB b):=by
 unfold M_cr
 rw [grd_t h.2.1]
 simp only [Option.bind_some]
 rw [grd_t h.1.1]; rfl
theorem p_l8Bits {b:TBlock} (h:blkIn b):M_bt b=some (maskB b):=by
 unfold M_bt
 have h1:=h.1
 have h2:=h.2
 rw [w64u_eq (n:=b.Count) (by omega) (by omega),w64u_eq (n:=b.First) (by omega) (by omega),grd_t h2.1]
 simp only [Option.bind_some]
 rw [grd_t h1.1]; rfl
theorem and0 (y:Int):bits .and .i64 0 y=0:=by
 show IntKind.wrap .i64 ((BitVec.ofInt 64 0 &&& BitVec.ofInt 64 y).toNat:Int)=0
 have:BitVec.ofInt 64 0=0#64:=rfl
 rw [this,BitVec.zero_and]; rfl
theorem p_l4Uses (r:TRoute) (g:List Int) (hr:r.Fibers.length≤1048576) (hg:g.length≤1048576):M_bx r g=some (!sepP r.Fibers g):=by
 unfold M_bx
 rw [iter_any (f:=M_ak r g) r.Fibers (fun x=>decide (x∈g)) (.inr true) (.inl ()) (fun i y hy=>by
  have hlt:=(List.getElem?_eq_some_iff.1 hy).1
  have h1:decide ((i:Int) < r.Fibers.length)=true:=by simp [hlt]
  simp only [M_ak,h1,cond_true,geti_nat,hy,Option.bind_some,p_l1Has g y hg,← any_mem]
  rw [w64_eq (by omega) (by omega)]
  cases decide (y∈g) <;> rfl) (by simp [M_ak]) (by omega)]
 unfold sepP
 rw [Bool.not_not]
 cases (r.Fibers.any fun x=>decide (x∈g)) <;> rfl
def clashP (a:TRoute) (x:TBlock) (b:TRoute) (y:TBlock):Bool:=(bits .and .i64 (maskB x) (maskB y) != 0)&&!sepP a.Fibers b.Fibers
end Vs

namespace Vs
open Go
def endI (n:TNetwork) (r:TRoute):Int:=match visP n r with | some l=>gz l (l.length - 1) | none=>0
structure RteIn (n:TNetwork) (r:TRoute):Prop where
 len:r.Fibers.length≤12
 fib:∀ x∈r.Fibers,fibI n x
 nod:r.Fibers.Nodup
theorem vis_in {n:TNetwork} (h:netOk n=true) {r:TRoute} {l:List Int} (hl:visP n r=some l):RteIn n r∧l.length=r.Fibers.length+1:=by
 obtain ⟨g1,g2,g3,g4,g5⟩:=rte_facts (net_ends h) hl
 have:=nodup_le n.Nodes.length l g1 g2
 have:=netOk_b h
 exact ⟨⟨by omega,g4,g5⟩,g3⟩
theorem p_l4End {n:TNetwork} {r:TRoute} {l:List Int} (h:netOk n=true) (hr:r.Fibers.length≤1048576) (hl:visP n r=some l):M_ci n r=some (endI n r):=by
 have hb:=netOk_b h
 obtain ⟨o,o1,o2⟩:=p_l4Walk n r (by omega) (by omega) hr
 obtain rfl:=o2 l hl
 obtain ⟨hi,hlen⟩:=vis_in h hl
 have:=hi.len
 unfold M_ci M_fx endI
 rw [o1,hl]
 simp only [Option.bind_some]
 have e:IntKind.wrap .i64 ((o.length:Int) - 1)=((o.length - 1:Nat):Int):=by rw [w64_eq (by omega) (by omega)]; omega
 rw [e,grd_t (by omega)]
 simp only [Option.bind_some,Int.toNat_natCast]
 rw [gz_at (by omega)]; rfl
end Vs

namespace Vs
open Go
def setBad (l:List Int) (N:Int) (i:Nat) (k:Int):Bool:=!wi k 0 (N - 1)||(decide (0 < i)&&match l[i - 1]? with | some p=>decide (k≤p) | none=>false)
def setP (l:List Int) (N:Int):Bool:=!anyI (setBad l N) l
theorem p_isSet (l:List Int) (N:Nat) (hN:N≤1048576) (hl:l.length≤1048576):M_fg l (N:Int)=some (setP l N):=by
 unfold M_fg setP
 rw [iter_anyI (f:=M_p l (N:Int)) l (setBad l N) (.inr false) (.inl ()) (fun i x hx hprev=>by
  have hlt:=(List.getElem?_eq_some_iff.1 hx).1
  have h1:decide ((i:Int) < l.length)=true:=by simp [hlt]
  simp only [M_p,h1,cond_true,geti_nat,hx,Option.bind_some,p_within]
  rw [w64_eq (n:=(N:Int) - 1) (by omega) (by omega),w64_eq (n:=(i:Int)+1) (by omega) (by omega)]
  unfold setBad
  by_cases h0:0 < i
  · have e0:decide ((0:Int) < (i:Int))=true:=decide_eq_true (by omega)
    have ew:IntKind.wrap .i64 ((i:Int) - 1)=((i - 1:Nat):Int):=by rw [w64_eq (by omega) (by omega)]; omega
    have hg:l[i - 1]?=some (l[i - 1]'(by omega)):=List.getElem?_eq_getElem (by omega)
    rw [e0,ew,geti_nat,hg,decide_eq_true h0]
    simp only [cond_true,Option.bind_some,Bool.true_and]
    cases wi x 0 ((N:Int) - 1) <;> cases decide (x≤l[i - 1]'(by omega)) <;> rfl
  · have e0:decide ((0:Int) < (i:Int))=false:=decide_eq_false (by omega)
    rw [e0,decide_eq_false h0]
    cases wi x 0 ((N:Int) - 1) <;> rfl) (by simp [M_p]) (by omega)]
 cases anyI (setBad l N) l <;> rfl
theorem p_l1Rising (l:List Int) (N:Int) (hl:l.length≤1048576):M_ev l 0 (N - 1)=some (setP l N):=by
 unfold M_ev setP
 rw [iter_anyI (f:=M_am l 0 (N - 1)) l (setBad l N) (.inr false) (.inl ()) (fun i x hx hprev=>by
  have hlt:=(List.getElem?_eq_some_iff.1 hx).1
  have h1:decide ((i:Int) < l.length)=true:=by simp [hlt]
  simp only [M_am,h1,cond_true,geti_nat,hx,Option.bind_some,p_l1In]
  rw [w64_eq (n:=(i:Int)+1) (by omega) (by omega)]
  unfold setBad
  by_cases h0:0 < i
  · have e0:decide ((0:Int) < (i:Int))=true:=decide_eq_true (by omega)
    have ew:IntKind.wrap .i64 ((i:Int) - 1)=((i - 1:Nat):Int):=by rw [w64_eq (by omega) (by omega)]; omega
    have hg:l[i - 1]?=some (l[i - 1]'(by omega)):=List.getElem?_eq_getElem (by omega)
    rw [e0,ew,geti_nat,hg,decide_eq_true h0]
    simp only [cond_true,Option.bind_some,Bool.true_and]
    cases wi x 0 (N - 1) <;> cases decide (x≤l[i - 1]'(by omega)) <;> rfl
  · have e0:decide ((0:Int) < (i:Int))=false:=decide_eq_false (by omega)
    rw [e0,decide_eq_false h0]
    cases wi x 0 (N - 1) <;> rfl) (by simp [M_am]) (by omega)]
 cases anyI (setBad l N) l <;> rfl
theorem rise_pw {l:List Int} (h:∀ (i:Nat) (a b:Int),l[i]?=some a→l[i+1]?=some b→a < b):l.Pairwise (· < ·):=by
 rw [List.pairwise_iff_getElem]
 intro i j hi hj hij
 obtain ⟨d,rfl⟩:∃ d,j=i+1+d:=⟨j - i - 1,by omega⟩
 induction d with
 | zero=>exact h i _ _ (List.getElem?_eq_getElem hi) (List.getElem?_eq_getElem hj)
 | succ d ih =>
   have h1:=ih (by omega) (by omega)
   have h2:=h (i+1+d) _ _ (List.getElem?_eq_getElem (by omega)) (List.getElem?_eq_getElem (by omega))
   have h3:l[i+1+(d+1)]'hj=l[i+1+d+1]'(by omega):=rfl
   omega
theorem set_in {l:List Int} {N:Int} (h:setP l N=true):l.Pairwise (· < ·)∧∀ x∈l,0≤x∧x < N:=by
 unfold setP at h
 have h2:=anyI_false.1 (by simpa using h)
 refine ⟨rise_pw fun i a b ha hb=>?_,fun x hx=>?_⟩
 · have:=h2 (i+1) b hb
   unfold setBad at this
   simp only [Nat.add_sub_cancel,ha,Bool.or_eq_false_iff,Bool.and_eq_false_iff,decide_eq_false_iff_not] at this
   omega
 · obtain ⟨i,hi⟩:=List.getElem?_of_mem hx
   have:=h2 i x hi
   unfold setBad at this
   simp only [Bool.or_eq_false_iff,Bool.not_eq_false',wi_iff] at this
   omega
theorem rise_nodup {l:List Int} (h:l.Pairwise (· < ·)):l.Nodup:=h.imp fun h=>by omega
theorem set_len {l:List Int} {N:Nat} (h:setP l N=true):l.length≤N:=by
 obtain ⟨h1,h2⟩:=set_in h
 exact nodup_le N l (rise_nodup h1) h2
end Vs

namespace Vs
open Go
def lgtOk (n:TNetwork) (x:TLight):Bool:=wi x.Id 1 999&&(visP n x.Route).isSome&&blkOk x.Block
structure LgtIn (n:TNetwork) (x:TLight):Prop where
 r:RteIn n x.Route
 b:blkIn x.Block
theorem lgt_in {n:TNetwork} {x:TLight} (h:netOk n=true) (hx:lgtOk n x=true):LgtIn n x:=by
 unfold lgtOk at hx
 simp only [Bool.and_eq_true] at hx
 obtain ⟨⟨_,h2⟩,h3⟩:=hx
 obtain ⟨l,hl⟩:=Option.isSome_iff_exists.1 h2
 exact ⟨(vis_in h hl).1,blk_in h3⟩
theorem p_isLight (n:TNetwork) (x:TLight) (h:netOk n=true) (hr:x.Route.Fibers.length≤1048576):M_ff n x=some (lgtOk n x):=by
 have hb:=netOk_b h
 unfold M_ff lgtOk
 simp only [p_within,p_IsValidBlock,p_visited n x.Route (by omega) (by omega) hr,Option.bind_some]
 cases visP n x.Route with
 | none=>simp
 | some l=>cases wi x.Id 1 999 <;> cases blkOk x.Block <;> rfl
theorem p_l9Light (n:TNetwork) (x:TLight) (h:netOk n=true) (hz:z_Network n≤1048576) (hr:x.Route.Fibers.length≤1048576):M_et n x=some (lgtOk n x):=by
 unfold M_et lgtOk
 have hg:M_dd n x.Route=some (visP n x.Route).isSome:=by
  rw [p_l4Good n x.Route hz hr]; unfold rteOk; rw [h,Bool.true_and]
 simp only [p_l1In,p_l8Good,hg,Option.bind_some]
 cases wi x.Id 1 999 <;> cases (visP n x.Route).isSome <;> rfl
theorem p_collide (n:TNetwork) (a b:TLight) (ha:LgtIn n a) (hb:LgtIn n b):M_cs a b=some (clashP a.Route a.Block b.Route b.Block):=by
 have h1:=ha.r.len
 have h2:=hb.r.len
 unfold M_cs clashP
 obtain ⟨l,l1,_,l3⟩:=p_common a.Route.Fibers b.Route.Fibers h1 (by omega)
 simp only [p_maskOf ha.b,p_maskOf hb.b,Option.bind_some,l1,sep_gt l3]
 cases bits .and .i64 (maskB a.Block) (maskB b.Block) != 0 <;> rfl
theorem p_l9Collide (n:TNetwork) (a b:TLight) (ha:LgtIn n a) (hb:LgtIn n b):M_eu a b=some (clashP a.Route a.Block b.Route b.Block):=by
 have h1:=ha.r.len
 have h2:=hb.r.len
 unfold M_eu clashP
 simp only [p_l4Uses a.Route b.Route.Fibers (by omega) (by omega),p_l8Bits ha.b,p_l8Bits hb.b,Option.bind_some]
 cases sepP a.Route.Fibers b.Route.Fibers <;> simp
theorem z_lgt {list:List TLight} (h:z_LightS list≤1048576) {s:TLight} (hs:s∈list):s.Route.Fibers.length≤1048576:=by
 obtain ⟨i,hi⟩:=List.getElem?_of_mem hs
 have h2:s.Route.Fibers.length≤(list.map fun x=>z_Light x).sum:=sum_ge (fun x=>z_Light x) hi
 unfold z_LightS at h
 omega
theorem z_lgl {list:List TLight} (h:z_LightS list≤1048576):list.length≤1048576:=by unfold z_LightS at h; omega
def plnBad (n:TNetwork) (list:List TLight) (i:Nat) (s:TLight):Bool :=
 !lgtOk n s||(decide (0 < i)&&match list[i - 1]? with | some g=>decide (s.Id≤g.Id) | none=>false)||(list.take i).any fun o=>clashP o.Route o.Block s.Route s.Block
def plnOk (p:TPlan):Bool:=netOk p.Network&&decide (p.Lights.length≤12)&&!anyI (plnBad p.Network p.Lights) p.Lights
theorem p_CFL (xs:List TLight) (f:TLight→Option Bool) (p:TLight→Bool) (hf:∀ x∈xs,f x=some (p x)) (hl:xs.length≤1048576):M_bp xs f=some (xs.any p):=by
 unfold M_bp M_cf
 rw [iter_findI (f:=M_i xs f) xs (fun _ x=>p x) (fun i _=>(i:Int)) () (fun i x hx _=>by
  have hlt:=(List.getElem?_eq_some_iff.1 hx).1
  have h1:decide ((i:Int) < xs.length)=true:=by simp [hlt]
  simp only [M_i,h1,cond_true,geti_nat,hx,hf x (List.mem_of_getElem? hx),Option.bind_some]
  rw [w64_eq (by omega) (by omega)]
  cases p x <;> rfl) (by simp [M_i]) (by omega)]
 rw [← anyI_any]
 cases e:findI (fun _ x=>p x) xs with
 | none =>
   have h:anyI (fun _ x=>p x) xs=false:=anyI_false.2 (findI_none.1 e)
   rw [h]; rfl
 | some q =>
   obtain ⟨i,x⟩:=q
   obtain ⟨h1,h2,_⟩:=findI_some.1 e
   have h:anyI (fun _ x=>p x) xs=true:=anyI_iff.2 ⟨i,x,h1,h2⟩
   rw [h]; simp
def fidL (xs:List TLight) (id:Int):Option (Nat×TLight):=findI (fun _ x=>x.Id==id) xs
def fidI (xs:List TLight) (id:Int):Int:=match fidL xs id with | some q=>(q.1:Int) | none=>-1
theorem p_IFL (xs:List TLight) (f:TLight→Option Bool) (p:TLight→Bool) (hf:∀ x∈xs,f x=some (p x)) (hl:xs.length≤1048576):M_cf xs f=some (match findI (fun _ x=>p x) xs with | some q=>(q.1:Int) | none=>-1):=by
 unfold M_cf
 rw [iter_findI (f:=M_i xs f) xs (fun _ x=>p x) (fun i _=>(i:Int)) () (fun i x hx _=>by
  have hlt:=(List.getElem?_eq_some_iff.1 hx).1
  have h1:decide ((i:Int) < xs.length)=true:=by simp [hlt]
  simp only [M_i,h1,cond_true,geti_nat,hx,hf x (List.mem_of_getElem? hx),Option.bind_some]
  rw [w64_eq (by omega) (by omega)]
  cases p x <;> rfl) (by simp [M_i]) (by omega)]
 cases findI (fun _ x=>p x) xs <;> rfl
theorem takeL_good {n:TNetwork} (h:netOk n=true) {list:List TLight} {i:Nat} (hprev:∀ j y,j < i→list[j]?=some y→plnBad n list j y=false):∀ o∈list.take i,LgtIn n o:=by
 intro o ho
 obtain ⟨j,hj⟩:=List.getElem?_of_mem ho
 rw [List.getElem?_take] at hj
 split at hj
 · rename_i hji
   have:=hprev j o hji hj
   unfold plnBad at this
   simp only [Bool.or_eq_false_iff,Bool.not_eq_false'] at this
   exact lgt_in h this.1.1
 · cases hj
theorem p_IsValidPlan (p:TPlan) (hz:z_Network p.Network≤1048576) (hl:z_LightS p.Lights≤1048576):M_cg p=some (plnOk p):=by
 have hll:=z_lgl hl
 unfold M_cg plnOk
 rw [p_IsValidNetwork p.Network hz]
 simp only [Option.bind_some]
 rcases bt (netOk p.Network) with hn | hn
 · rw [hn]
   simp only [Bool.not_true,cond_false,Option.bind_some,Bool.true_and]
   by_cases h8:p.Lights.length≤12
   · have e8:decide ((12:Int) < (p.Lights.length:Int))=false:=decide_eq_false (by omega)
     rw [e8,cond_false,decide_eq_true h8,Bool.true_and]
     rw [iter_anyI (f:=M_o p) p.Lights (plnBad p.Network p.Lights) (.inr false) (.inl ()) (fun i x hx hprev=>by
      have hlt:=(List.getElem?_eq_some_iff.1 hx).1
      have h1:decide ((i:Int) < p.Lights.length)=true:=by simp [hlt]
      have w1:=z_lgt hl (List.mem_of_getElem? hx)
      simp only [M_o,h1,cond_true,geti_nat,hx,Option.bind_some,p_isLight p.Network x hn w1,slT_nat p.Lights i (by omega)]
      unfold plnBad
      rcases bt (lgtOk p.Network x) with e | e
      · have hin:=lgt_in hn e
        have hcf:M_bp (p.Lights.take i) (fun x0=>M_ct x0 x)=some ((p.Lights.take i).any fun o=>clashP o.Route o.Block x.Route x.Block):=p_CFL _ _ _ (fun o ho=>by
         unfold M_ct
         rw [p_collide p.Network o x (takeL_good hn hprev o ho) hin]; rfl) (by simp; omega)
        rw [e]
        simp only [Bool.not_true,cond_false,Bool.false_or,hcf,Option.bind_some]
        rw [w64_eq (n:=(i:Int)+1) (by omega) (by omega)]
        by_cases h0:0 < i
        · have e0:decide ((0:Int) < (i:Int))=true:=decide_eq_true (by omega)
          have ew:IntKind.wrap .i64 ((i:Int) - 1)=((i - 1:Nat):Int):=by rw [w64_eq (by omega) (by omega)]; omega
          have hg:p.Lights[i - 1]?=some (p.Lights[i - 1]'(by omega)):=List.getElem?_eq_getElem (by omega)
          rw [e0,cond_true,ew,geti_nat,hg,decide_eq_true h0]
          simp only [Option.bind_some,Bool.true_and]
          cases decide (x.Id≤(p.Lights[i - 1]'(by omega)).Id) <;> cases ((p.Lights.take i).any fun o=>clashP o.Route o.Block x.Route x.Block) <;> rfl
        · have e0:decide ((0:Int) < (i:Int))=false:=decide_eq_false (by omega)
          rw [e0,cond_false,decide_eq_false h0]
          simp only [Bool.false_and,Bool.false_or]
          cases ((p.Lights.take i).any fun o=>clashP o.Route o.Block x.Route x.Block) <;> rfl
      · rw [e]; rfl) (by simp [M_o]) (by omega)]
     cases anyI (plnBad p.Network p.Lights) p.Lights <;> rfl
   · have e8:decide ((12:Int) < (p.Lights.length:Int))=true:=decide_eq_true (by omega)
     rw [e8,cond_true,decide_eq_false h8]; rfl
 · rw [hn]; rfl
theorem p_l9Good (p:TPlan) (hz:z_Network p.Network≤1048576) (hl:z_LightS p.Lights≤1048576):M_ce p=some (plnOk p):=by
 have hll:=z_lgl hl
 unfold M_ce plnOk
 rw [p_l2Good p.Network hz]
 simp only [Option.bind_some]
 rcases bt (netOk p.Network) with hn | hn
 · rw [hn]
   simp only [Bool.not_true,cond_false,Option.bind_some,Bool.true_and]
   by_cases h8:p.Lights.length≤12
   · have e8:decide ((12:Int) < (p.Lights.length:Int))=false:=decide_eq_false (by omega)
     rw [e8,cond_false,decide_eq_true h8,Bool.true_and]
     rw [iter_anyI (f:=M_al p) p.Lights (plnBad p.Network p.Lights) (.inr false) (.inl ()) (fun i x hx hprev=>by
      have hlt:=(List.getElem?_eq_some_iff.1 hx).1
      have h1:decide ((i:Int) < p.Lights.length)=true:=by simp [hlt]
      have w1:=z_lgt hl (List.mem_of_getElem? hx)
      simp only [M_al,h1,cond_true,geti_nat,hx,Option.bind_some,p_l9Light p.Network x hn hz w1]
      rw [w64_eq (n:=(i:Int)+1) (by omega) (by omega)]
      unfold plnBad
      rcases bt (lgtOk p.Network x) with e | e
      · have hin:=lgt_in hn e
        have hcf:iter (M_n p (i:Int)) N0 0=some (if (p.Lights.take i).any (fun o=>clashP o.Route o.Block x.Route x.Block) then .inr false else .inl ()):=by
         refine iter_any (f:=M_n p (i:Int)) (p.Lights.take i) (fun o=>clashP o.Route o.Block x.Route x.Block) (.inr false) (.inl ()) (fun k o ho=>?_) ?_ (by simp; omega)
         · have hin2:=takeL_good hn hprev o (List.mem_of_getElem? ho)
           rw [List.getElem?_take] at ho
           split at ho
           · rename_i hki
             have h1:decide ((k:Int) < (i:Int))=true:=decide_eq_true (by omega)
             simp only [M_n,h1,cond_true,geti_nat,ho,hx,Option.bind_some,p_l9Collide p.Network o x hin2 hin]
             rw [w64_eq (by omega) (by omega)]
             cases clashP o.Route o.Block x.Route x.Block <;> rfl
           · cases ho
         · have h1:decide ((((p.Lights.take i).length:Nat):Int) < (i:Int))=false:=decide_eq_false (by simp; omega)
           simp only [M_n,h1,cond_false]
        rw [e]
        simp only [Bool.not_true,cond_false,Bool.false_or,hcf,Option.bind_some]
        by_cases h0:0 < i
        · have e0:decide ((0:Int) < (i:Int))=true:=decide_eq_true (by omega)
          have ew:IntKind.wrap .i64 ((i:Int) - 1)=((i - 1:Nat):Int):=by rw [w64_eq (by omega) (by omega)]; omega
          have hg:p.Lights[i - 1]?=some (p.Lights[i - 1]'(by omega)):=List.getElem?_eq_getElem (by omega)
          rw [e0,cond_true,ew,geti_nat,hg,decide_eq_true h0]
          simp only [Option.bind_some,Bool.true_and]
          cases decide (x.Id≤(p.Lights[i - 1]'(by omega)).Id) <;> cases ((p.Lights.take i).any fun o=>clashP o.Route o.Block x.Route x.Block) <;> rfl
        · have e0:decide ((0:Int) < (i:Int))=false:=decide_eq_false (by omega)
          rw [e0,cond_false,decide_eq_false h0]
          simp only [Option.bind_some,cond_false,Bool.false_and,Bool.false_or]
          cases ((p.Lights.take i).any fun o=>clashP o.Route o.Block x.Route x.Block) <;> rfl
      · rw [e]; rfl) (by simp [M_al]) (by omega)]
     cases anyI (plnBad p.Network p.Lights) p.Lights <;> rfl
   · have e8:decide ((12:Int) < (p.Lights.length:Int))=true:=decide_eq_true (by omega)
     rw [e8,cond_true,decide_eq_false h8]; rfl
 · rw [hn]; rfl
structure PlnIn (p:TPlan):Prop where
 net:netOk p.Network=true
 len:p.Lights.length≤12
 lgt:∀ s∈p.Lights,LgtIn p.Network s
 ok:∀ s∈p.Lights,lgtOk p.Network s=true
 asc:∀ (i:Nat) (a b:TLight),p.Lights[i]?=some a→p.Lights[i+1]?=some b→a.Id < b.Id
theorem pln_in {p:TPlan} (h:plnOk p=true):PlnIn p:=by
 unfold plnOk at h
 simp only [Bool.and_eq_true,decide_eq_true_eq,Bool.not_eq_true'] at h
 obtain ⟨⟨h1,h2⟩,h3⟩:=h
 have key:∀ s∈p.Lights,lgtOk p.Network s=true:=fun s hs=>by
  obtain ⟨i,hi⟩:=List.getElem?_of_mem hs
  have:=anyI_false.1 h3 i s hi
  unfold plnBad at this
  simp only [Bool.or_eq_false_iff,Bool.not_eq_false'] at this
  exact this.1.1
 refine ⟨h1,h2,fun s hs=>lgt_in h1 (key s hs),key,fun i a b ha hb=>?_⟩
 have:=anyI_false.1 h3 (i+1) b hb
 unfold plnBad at this
 simp only [Nat.add_sub_cancel,ha,Bool.or_eq_false_iff,Bool.and_eq_false_iff,decide_eq_false_iff_not] at this
 omega
theorem vis_some {n:TNetwork} {x:TLight} (h:lgtOk n x=true):∃ l,visP n x.Route=some l:=by
 unfold lgtOk at h
 simp only [Bool.and_eq_true] at h
 exact Option.isSome_iff_exists.1 h.1.2
end Vs

namespace Vs
open Go
theorem p_endOf {n:TNetwork} {r:TRoute} {l:List Int} (h:netOk n=true) (hr:r.Fibers.length≤1048576) (hl:visP n r=some l):M_cv n r=some (endI n r):=by
 have hb:=netOk_b h
 obtain ⟨hi,hlen⟩:=vis_in h hl
 have:=hi.len
 unfold M_cv endI
 rw [p_visited n r (by omega) (by omega) hr,hl]
 simp only [Option.bind_some]
 have e:IntKind.wrap .i64 ((l.length:Int) - 1)=((l.length - 1:Nat):Int):=by rw [w64_eq (by omega) (by omega)]; omega
 rw [e,grd_t (by omega)]
 simp only [Option.bind_some,Int.toNat_natCast]
 rw [gz_at (by omega)]; rfl
def rstBad (r:TRestoration) (x:TLight):Bool:=match fidL r.Home x.Id with
 | none=>true
 | some q=>!sepP x.Route.Fibers r.Down||(q.2.Route.Start != x.Route.Start||(endI r.Plan.Network q.2.Route != endI r.Plan.Network x.Route||q.2.Block.Count != x.Block.Count))
def rstOk (r:TRestoration):Bool:=(plnOk r.Plan&&plnOk ⟨r.Plan.Network,r.Home⟩&&setP r.Down r.Plan.Network.Fibers.length)&&!r.Plan.Lights.any fun x=>rstBad r x
theorem z_rst {r:TRestoration} (h:z_Restoration r≤1048576):z_Network r.Plan.Network≤1048576∧z_LightS r.Plan.Lights≤1048576∧z_LightS r.Home≤1048576∧r.Down.length≤1048576:=by
 have e:z_Restoration r=z_Network r.Plan.Network+z_LightS r.Plan.Lights+z_LightS r.Home+r.Down.length:=by
  unfold z_Restoration z_Plan z_IntS; omega
 omega
theorem p_homeOf (r:TRestoration) (id:Int) (hl:r.Home.length≤1048576):M_cu r id=some (fidI r.Home id):=by
 unfold M_cu fidI fidL
 rw [p_IFL r.Home (fun x0=>M_gd x0 id) (fun x=>x.Id==id) (fun x _=>rfl) hl]; rfl
theorem p_l15Find (xs:List TLight) (id:Int) (hl:xs.length≤1048576):M_ew xs id=some (fidI xs id):=by
 unfold M_ew fidI fidL
 rw [iter_findI (f:=M_an xs id) xs (fun _ x=>x.Id==id) (fun i _=>(i:Int)) () (fun i x hx _=>by
  have hlt:=(List.getElem?_eq_some_iff.1 hx).1
  have h1:decide ((i:Int) < xs.length)=true:=by simp [hlt]
  simp only [M_an,h1,cond_true,geti_nat,hx,Option.bind_some]
  rw [w64_eq (by omega) (by omega)]
  cases x.Id==id <;> rfl) (by simp [M_an]) (by omega)]
 cases findI (fun _ (x:TLight)=>x.Id==id) xs <;> rfl
theorem bneI (a b:Int):(a != b)=(b != a):=by
 rw [Bool.eq_iff_iff]; simp only [bne_iff_ne]; exact ⟨Ne.symm,Ne.symm⟩
theorem fid_mem {xs:List TLight} {id:Int} {i:Nat} {y:TLight} (h:fidL xs id=some (i,y)):xs[i]?=some y∧y.Id=id:=by
 obtain ⟨h1,h2,_⟩:=findI_some.1 h
 exact ⟨h1,by simpa using h2⟩
theorem p_rstC (r:TRestoration) (x:TLight) (hP:PlnIn r.Plan) (hH:PlnIn ⟨r.Plan.Network,r.Home⟩) (hD:r.Down.length≤1048576) (hx:lgtOk r.Plan.Network x=true):M_fh x r r.Plan.Network=some (rstBad r x):=by
 have h12:r.Home.length≤12:=hH.len
 have hin:=lgt_in hP.net hx
 have w1:=hin.r.len
 unfold M_fh rstBad
 obtain ⟨a,a1,_,a3⟩:=p_common x.Route.Fibers r.Down w1 hD
 simp only [p_homeOf r x.Id (by omega),Option.bind_some,a1,sep_gt a3]
 unfold fidI
 cases hf:fidL r.Home x.Id with
 | none=>rfl
 | some q =>
   obtain ⟨i,y⟩:=q
   obtain ⟨f1,f2⟩:=fid_mem hf
   have hy:lgtOk r.Plan.Network y=true:=hH.ok y (List.mem_of_getElem? f1)
   obtain ⟨lx,hlx⟩:=vis_some hx
   obtain ⟨ly,hly⟩:=vis_some hy
   have w2:=(lgt_in hP.net hy).r.len
   have e0:decide ((i:Int) < 0)=false:=decide_eq_false (by omega)
   simp only [e0,cond_false,Option.bind_some,geti_nat,f1,p_endOf hP.net (by omega) hlx,p_endOf hP.net (by omega) hly]
   cases sepP x.Route.Fibers r.Down <;> cases y.Route.Start != x.Route.Start <;> cases endI r.Plan.Network y.Route != endI r.Plan.Network x.Route <;> rfl
theorem c3n (a b c:Bool):(cond (!a) (some true) (cond (!b) (some true) (some (!c))):Option Bool)=some (!(a&&b&&c)):=by
 cases a <;> cases b <;> cases c <;> rfl
theorem p_IsValidRestoration (r:TRestoration) (hz:z_Restoration r≤1048576):M_df r=some (rstOk r):=by
 obtain ⟨z1,z2,z3,z4⟩:=z_rst hz
 unfold M_df rstOk
 rw [p_IsValidPlan r.Plan z1 z2]
 have e:M_cg (⟨(⟨r.Plan.Network.Nodes,r.Plan.Network.Fibers⟩:TNetwork),r.Home⟩:TPlan)=some (plnOk ⟨r.Plan.Network,r.Home⟩):=p_IsValidPlan ⟨r.Plan.Network,r.Home⟩ z1 z3
 obtain ⟨_,hF,_⟩:=z_net z1
 rw [e,p_isSet r.Down r.Plan.Network.Fibers.length hF z4]
 simp only [Option.bind_some,c3n]
 rcases bt (plnOk r.Plan&&plnOk ⟨r.Plan.Network,r.Home⟩&&setP r.Down r.Plan.Network.Fibers.length) with e2 | e2
 · rw [e2]
   simp only [Bool.and_eq_true] at e2
   have hP:=pln_in e2.1.1
   have hH:=pln_in e2.1.2
   have h12:=hP.len
   rw [p_CFL r.Plan.Lights _ (fun x=>rstBad r x) (fun x hx=>p_rstC r x hP hH z4 (hP.ok x hx)) (by omega)]
   rfl
 · rw [e2]; rfl
theorem p_l15Good (r:TRestoration) (hz:z_Restoration r≤1048576):M_de r=some (rstOk r):=by
 obtain ⟨z1,z2,z3,z4⟩:=z_rst hz
 unfold M_de rstOk
 rw [p_l9Good r.Plan z1 z2]
 have e:M_ce (⟨(⟨r.Plan.Network.Nodes,r.Plan.Network.Fibers⟩:TNetwork),r.Home⟩:TPlan)=some (plnOk ⟨r.Plan.Network,r.Home⟩):=p_l9Good ⟨r.Plan.Network,r.Home⟩ z1 z3
 obtain ⟨_,hF,_⟩:=z_net z1
 rw [e,w64_eq (by omega) (by omega),p_l1Rising r.Down _ z4]
 simp only [Option.bind_some,c3n]
 rcases bt (plnOk r.Plan&&plnOk ⟨r.Plan.Network,r.Home⟩&&setP r.Down r.Plan.Network.Fibers.length) with e2 | e2
 · rw [e2]
   simp only [Bool.and_eq_true] at e2
   have hP:=pln_in e2.1.1
   have hH:=pln_in e2.1.2
   have h12:=hP.len
   have h12':r.Home.length≤12:=hH.len
   simp only [Bool.not_true,cond_false]
   rw [iter_any (f:=M_ao r) r.Plan.Lights (fun x=>rstBad r x) (.inr false) (.inl ()) (fun i x hx=>by
    have hlt:=(List.getElem?_eq_some_iff.1 hx).1
    have h1:decide ((i:Int) < r.Plan.Lights.length)=true:=by simp [hlt]
    have hxo:=hP.ok x (List.mem_of_getElem? hx)
    have hin:=lgt_in hP.net hxo
    have w1:=hin.r.len
    simp only [M_ao,h1,cond_true,geti_nat,hx,Option.bind_some,p_l15Find r.Home x.Id (by omega),p_l4Uses x.Route r.Down (by omega) z4]
    rw [w64_eq (n:=(i:Int)+1) (by omega) (by omega)]
    unfold fidI rstBad
    cases hf:fidL r.Home x.Id with
    | none=>rfl
    | some q =>
      obtain ⟨k,y⟩:=q
      obtain ⟨f1,f2⟩:=fid_mem hf
      have hy:lgtOk r.Plan.Network y=true:=hH.ok y (List.mem_of_getElem? f1)
      obtain ⟨lx,hlx⟩:=vis_some hxo
      obtain ⟨ly,hly⟩:=vis_some hy
      have w2:=(lgt_in hP.net hy).r.len
      have e0:decide ((k:Int) < 0)=false:=decide_eq_false (by omega)
      simp only [e0,cond_false,Option.bind_some,geti_nat,f1,p_l4End hP.net (by omega) hlx,p_l4End hP.net (by omega) hly,bneI x.Route.Start,bneI (endI r.Plan.Network x.Route),bneI x.Block.Count]
      rcases bt (sepP x.Route.Fibers r.Down) with q1 | q1 <;> rcases bt (y.Route.Start != x.Route.Start) with q2 | q2 <;> rcases bt (endI r.Plan.Network y.Route != endI r.Plan.Network x.Route) with q3 | q3 <;> rcases bt (y.Block.Count != x.Block.Count) with q4 | q4 <;> simp only [q1,q2,q3,q4] <;> rfl) (by simp [M_ao]) (by omega)]
   cases (r.Plan.Lights.any fun x=>rstBad r x) <;> rfl
 · rw [e2]; rfl
theorem p_impl_IsValidRestoration (r:TRestoration) (hz:z_Restoration r≤1048576):M_df r=some (rstOk r):=p_IsValidRestoration r hz
structure RstIn (r:TRestoration):Prop where
 pl:PlnIn r.Plan
 hm:PlnIn ⟨r.Plan.Network,r.Home⟩
 dn:setP r.Down r.Plan.Network.Fibers.length=true
theorem rst_in {r:TRestoration} (h:rstOk r=true):RstIn r:=by
 unfold rstOk at h
 simp only [Bool.and_eq_true] at h
 exact ⟨pln_in h.1.1.1,pln_in h.1.1.2,h.1.2⟩
theorem p_l9Find (p:TPlan) (id:Int) (hl:p.Lights.length≤1048576):M_ey p id=some (fidI p.Lights id):=by
 unfold M_ey fidI fidL
 rw [iter_findI (f:=M_ar p id) p.Lights (fun _ x=>x.Id==id) (fun i _=>(i:Int)) () (fun i x hx _=>by
  have hlt:=(List.getElem?_eq_some_iff.1 hx).1
  have h1:decide ((i:Int) < p.Lights.length)=true:=by simp [hlt]
  simp only [M_ar,h1,cond_true,geti_nat,hx,Option.bind_some]
  rw [w64_eq (by omega) (by omega)]
  cases x.Id==id <;> rfl) (by simp [M_ar]) (by omega)]
 cases findI (fun _ (x:TLight)=>x.Id==id) p.Lights <;> rfl
theorem cp_loop {f:Int×List TLight→Option ((Int×List TLight) ⊕ List TLight)} (xs:List TLight) (hl:xs.length≤1048576)
 (h1:∀ (i:Nat) x (a:List TLight),xs[i]?=some x→a.length=i→f ((i:Int),a)=some (.inl (((i+1:Nat):Int),a++[x]))) (h2:∀ a,f ((xs.length:Int),a)=some (.inr a)):iter f N0 (0,[])=some xs:=by
 have:=iter_list (f:=f) xs (fun i (a:List TLight)=>((i:Int),a)) (fun _ x a=>.inl (a++[x])) (fun a=>a) (fun i a=>a.length=i) (fun i a x hx hI=>.inl ⟨_,rfl,by simp [hI],h1 i x a hx hI⟩) (fun a _=>h2 a) [] rfl (by omega)
 have e0:((0:Nat):Int)=0:=rfl
 simp only [e0] at this
 rw [this]
 have gen:∀ (ys:List TLight) (i:Nat) (a:List TLight),walkL (fun (_:Nat) (x:TLight) (a:List TLight)=>(.inl (a++[x]):List TLight ⊕ List TLight)) (fun a=>a) i ys a=a++ys:=by
  intro ys
  induction ys with
  | nil=>intro i a; simp [walkL]
  | cons y ys ih=>intro i a; simp only [walkL]; rw [ih]; simp
 rw [gen]; rfl
theorem p_copyPlan (p:TPlan) (h1:z_Network p.Network≤1048576) (h2:z_LightS p.Lights≤1048576):M_cx p=some p:=by
 obtain ⟨a1,a2,_⟩:=z_net h1
 have hl:=z_lgl h2
 unfold M_cx M_ge
 rw [grd_t (by omega),grd_t (by omega)]
 simp only [Option.bind_some]
 rw [cp_loop (f:=M_au p) p.Lights hl (fun i x a hx ha=>by
  have hlt:=(List.getElem?_eq_some_iff.1 hx).1
  have e1:decide ((i:Int) < p.Lights.length)=true:=by simp [hlt]
  have hr:=z_lgt h2 (List.mem_of_getElem? hx)
  simp only [M_au,e1,cond_true,geti_nat,hx,Option.bind_some,M_cw,bnd]
  rw [grd_t (by omega)]
  simp only [Option.bind_some]
  rw [grd_t (by omega),w64_eq (by omega) (by omega)]; rfl) (fun a=>by simp [M_au])]
 rfl
theorem p_l9Copy (x:TLight) (h:x.Route.Fibers.length≤1048576):M_bo x=some x:=by
 unfold M_bo M_fz M_co
 rw [grd_t (by omega)]; rfl
theorem p_l9Own (p:TPlan) (h1:z_Network p.Network≤1048576) (h2:z_LightS p.Lights≤1048576):M_bn p=some p:=by
 obtain ⟨a1,a2,_⟩:=z_net h1
 have hl:=z_lgl h2
 unfold M_bn M_fy
 rw [grd_t (by omega),grd_t (by omega)]
 simp only [Option.bind_some]
 rw [cp_loop (f:=M_ap p) p.Lights hl (fun i x a hx ha=>by
  have hlt:=(List.getElem?_eq_some_iff.1 hx).1
  have e1:decide ((i:Int) < p.Lights.length)=true:=by simp [hlt]
  have hr:=z_lgt h2 (List.mem_of_getElem? hx)
  simp only [M_ap,e1,cond_true,geti_nat,hx,Option.bind_some,p_l9Copy x hr,bnd]
  rw [grd_t (by omega),w64_eq (by omega) (by omega)]; rfl) (fun a=>by simp [M_ap])]
 rfl
theorem p_l15Copy (xs:List TLight) (h2:z_LightS xs≤1048576):M_ex xs=some xs:=by
 have hl:=z_lgl h2
 unfold M_ex
 rw [cp_loop (f:=M_aq xs) xs hl (fun i x a hx ha=>by
  have hlt:=(List.getElem?_eq_some_iff.1 hx).1
  have e1:decide ((i:Int) < xs.length)=true:=by simp [hlt]
  have hr:=z_lgt h2 (List.mem_of_getElem? hx)
  simp only [M_aq,e1,cond_true,geti_nat,hx,Option.bind_some,p_l9Copy x hr,bnd]
  rw [grd_t (by omega),w64_eq (by omega) (by omega)]; rfl) (fun a=>by simp [M_aq])]
 rfl
theorem p_copyRestoration (r:TRestoration) (h1:z_Network r.Plan.Network≤1048576) (h2:z_LightS r.Plan.Lights≤1048576) (h3:z_LightS r.Home≤1048576) (h4:r.Down.length≤1048576):M_fi r=some r:=by
 unfold M_fi M_gf
 rw [p_copyPlan r.Plan h1 h2,p_copyPlan ⟨⟨[],[]⟩,r.Home⟩ (by show z_Network ⟨[],[]⟩≤1048576; decide) h3,grd_t (by omega)]
 rfl
def rst0:TRestoration:=⟨⟨⟨[],[]⟩,[]⟩,[],[]⟩
theorem sum_bd {α:Type} (g:α→Nat) (c:Nat):∀ (xs:List α),(∀ x∈xs,g x≤c)→(xs.map g).sum≤xs.length * c
 | [],_=>by simp
 | x :: xs, h => by
   have h1:=h x (by simp)
   have h2:=sum_bd g c xs fun y hy=>h y (List.mem_cons_of_mem _ hy)
   simp only [List.map_cons,List.sum_cons,List.length_cons,Nat.succ_mul]
   omega
theorem z_netOk {n:TNetwork} (h:netOk n=true):z_Network n≤200:=by
 have hb:=netOk_b h
 unfold netOk at h
 simp only [Bool.and_eq_true,Bool.not_eq_true'] at h
 have hn:=anyI_false.1 h.1.1.1
 have:(n.Nodes.map fun x=>x.size).sum≤n.Nodes.length * 8:=sum_bd _ 8 _ fun x hx=>by
  obtain ⟨i,hi⟩:=List.getElem?_of_mem hx
  have:=hn i x hi
  unfold nodeBad at this
  simp only [Bool.or_eq_false_iff,Bool.not_eq_false'] at this
  have h2:=this.1
  unfold nameB at h2
  simp only [Bool.and_eq_true,wi_iff] at h2
  omega
 unfold z_Network z_StringS z_FiberS
 omega
theorem z_lgtOk {n:TNetwork} {xs:List TLight} (hl:xs.length≤12) (h:∀ x∈xs,LgtIn n x):z_LightS xs≤200:=by
 have:(xs.map fun x=>z_Light x).sum≤xs.length * 12:=sum_bd _ 12 _ fun x hx=>(h x hx).r.len
 unfold z_LightS
 omega
end Vs

namespace Vs
open Go
def IsN (z:Int):Prop:=∃ m:Nat,z=(m:Int)∧m < 2 ^ 62
theorem isN0:IsN 0:=⟨0,rfl,by decide⟩
theorem mask_nat {b:TBlock} (h:blkIn b):IsN (maskB b):=by
 obtain ⟨⟨f1,f2⟩,c1,c2⟩:=h
 have hc:(2:Nat) ^ b.Count.toNat≤2 ^ 24:=Nat.pow_le_pow_right (by omega) (by omega)
 have hf:(2:Nat) ^ b.First.toNat≤2 ^ 24:=Nat.pow_le_pow_right (by omega) (by omega)
 have hc1:1≤(2:Nat) ^ b.Count.toNat:=Nat.one_le_two_pow
 have e1:IntKind.wrap .i64 (1 * 2 ^ (min (Int.toNat b.Count) (IntKind.bits .i64)))=((2 ^ b.Count.toNat:Nat):Int):=by
  have e:min b.Count.toNat (IntKind.bits .i64)=b.Count.toNat:=by show min _ 64=_; omega
  rw [e,Int.one_mul,show (2:Int) ^ b.Count.toNat=((2 ^ b.Count.toNat:Nat):Int) by rw [Int.natCast_pow]; rfl,w64_eq (by omega) (by omega)]
 have e2:min b.First.toNat (IntKind.bits .i64)=b.First.toNat:=by show min _ 64=_; omega
 have e3:((((2:Nat) ^ b.Count.toNat:Nat):Int) - 1) * 2 ^ b.First.toNat=(((2 ^ b.Count.toNat - 1) * 2 ^ b.First.toNat:Nat):Int):=by
  rw [Int.natCast_mul,Int.natCast_sub hc1,Int.natCast_pow 2 b.First.toNat]; rfl
 have hm:(2 ^ b.Count.toNat - 1) * 2 ^ b.First.toNat≤2 ^ 24 * 2 ^ 24:=Nat.mul_le_mul (by omega) hf
 refine ⟨(2 ^ b.Count.toNat - 1) * 2 ^ b.First.toNat,?_,by omega⟩
 unfold maskB
 rw [e1,w64_eq (n:=(((2:Nat) ^ b.Count.toNat:Nat):Int) - 1) (by omega) (by omega),e2,e3,w64_eq (by omega) (by omega)]
theorem ofNatW (a:Nat):BitVec.ofInt 64 (a:Int)=BitVec.ofNat 64 a:=by
 apply BitVec.eq_of_toNat_eq
 simp [BitVec.toNat_ofInt]
theorem borN (a b:Nat) (ha:a < 2 ^ 62) (hb:b < 2 ^ 62):bits .or .i64 (a:Int) (b:Int)=((a ||| b:Nat):Int):=by
 have h:=Nat.or_lt_two_pow ha hb
 unfold bits
 show IntKind.wrap .i64 (((BitVec.ofInt 64 (a:Int) ||| BitVec.ofInt 64 (b:Int)).toNat:Nat):Int)=_
 rw [ofNatW,ofNatW,BitVec.toNat_or,BitVec.toNat_ofNat,BitVec.toNat_ofNat,Nat.mod_eq_of_lt (by omega),Nat.mod_eq_of_lt (by omega),w64_eq (by omega) (by omega)]
theorem bandN (a b:Nat) (ha:a < 2 ^ 62) (hb:b < 2 ^ 62):bits .and .i64 (a:Int) (b:Int)=((a &&& b:Nat):Int):=by
 have h:a &&& b≤a:=Nat.and_le_left
 unfold bits
 show IntKind.wrap .i64 (((BitVec.ofInt 64 (a:Int) &&& BitVec.ofInt 64 (b:Int)).toNat:Nat):Int)=_
 rw [ofNatW,ofNatW,BitVec.toNat_and,BitVec.toNat_ofNat,BitVec.toNat_ofNat,Nat.mod_eq_of_lt (by omega),Nat.mod_eq_of_lt (by omega),w64_eq (by omega) (by omega)]
theorem or_N {a b:Int} (ha:IsN a) (hb:IsN b):IsN (bits .or .i64 a b):=by
 obtain ⟨m,rfl,hm⟩:=ha
 obtain ⟨k,rfl,hk⟩:=hb
 exact ⟨m ||| k,borN m k hm hk,Nat.or_lt_two_pow hm hk⟩
theorem or_and0 {a b c:Int} (ha:IsN a) (hb:IsN b) (hc:IsN c):bits .and .i64 (bits .or .i64 a b) c=0↔bits .and .i64 a c=0∧bits .and .i64 b c=0:=by
 obtain ⟨m,rfl,hm⟩:=ha
 obtain ⟨k,rfl,hk⟩:=hb
 obtain ⟨j,rfl,hj⟩:=hc
 rw [borN m k hm hk,bandN _ j (Nat.or_lt_two_pow hm hk) hj,bandN m j hm hj,bandN k j hk hj,Nat.and_or_distrib_right]
 have:(m &&& j) ||| (k &&& j)=0↔(m &&& j)=0∧(k &&& j)=0:=Nat.or_eq_zero_iff
 omega
theorem or_fold {α:Type} (g:α→Int) (p:α→Bool) {c:Int} (hc:IsN c):∀ (xs:List α) (k:Nat) (a:Int),IsN a→(∀ x∈xs,p x=true→IsN (g x)) →
 IsN (foldI (fun _ x (a:Int)=>if p x then bits .or .i64 a (g x) else a) k xs a)∧(bits .and .i64 (foldI (fun _ x (a:Int)=>if p x then bits .or .i64 a (g x) else a) k xs a) c=0↔bits .and .i64 a c=0∧∀ x∈xs,p x=true→bits .and .i64 (g x) c=0)
 | [],_,a,ha,_=>⟨ha,by simp [foldI]⟩
 | x :: xs, k, a, ha, hg => by
   simp only [foldI]
   rcases bt (p x) with e | e
   · have hx:=hg x (by simp) e
     obtain ⟨h1,h2⟩:=or_fold g p hc xs (k+1) _ (or_N ha hx) fun y hy=>hg y (by simp [hy])
     rw [if_pos e]
     refine ⟨h1,?_⟩
     rw [h2,or_and0 ha hx hc]
     simp only [List.mem_cons,forall_eq_or_imp,e,true_imp_iff]
     exact ⟨fun ⟨⟨q1,q2⟩,q3⟩=>⟨q1,q2,q3⟩,fun ⟨q1,q2,q3⟩=>⟨⟨q1,q2⟩,q3⟩⟩
   · obtain ⟨h1,h2⟩:=or_fold g p hc xs (k+1) a ha fun y hy=>hg y (by simp [hy])
     rw [if_neg (by rw [e]; simp)]
     refine ⟨h1,?_⟩
     rw [h2]
     simp [e]
def slotF (L:List TLight) (f:Int):Int:=foldI (fun _ (o:TLight) (a:Int)=>if (o.Route.Fibers.any fun y=>y==f) then bits .or .i64 a (maskB o.Block) else a) 0 L 0
def slotR (L:List TLight) (fs:List Int):Int:=foldI (fun _ (f:Int) (a:Int)=>if true then bits .or .i64 a (slotF L f) else a) 0 fs 0
def LsIn (n:TNetwork) (L:List TLight):Prop:=L.length≤12∧∀ o∈L,LgtIn n o
theorem slot_free {n:TNetwork} {L:List TLight} (hL:LsIn n L) {y:TLight} (hy:LgtIn n y):(bits .and .i64 (slotR L y.Route.Fibers) (maskB y.Block)==0)=!(L.any fun o=>clashP o.Route o.Block y.Route y.Block):=by
 have hc:=mask_nat hy.b
 have h1:=fun f=>or_fold (fun o:TLight=>maskB o.Block) (fun o:TLight=>o.Route.Fibers.any fun y=>y==f) hc L 0 0 isN0 fun o ho _=>mask_nat (hL.2 o ho).b
 have h2:=(or_fold (slotF L) (fun _=>true) hc y.Route.Fibers 0 0 isN0 fun f _ _=>(h1 f).1).2
 have e0:bits .and .i64 0 (maskB y.Block)=0:=and0 _
 have key:bits .and .i64 (slotR L y.Route.Fibers) (maskB y.Block)=0↔∀ f∈y.Route.Fibers,∀ o∈L,(o.Route.Fibers.any fun z=>z==f)=true→bits .and .i64 (maskB o.Block) (maskB y.Block)=0:=by
  show bits .and .i64 (foldI _ _ _ _) _=0↔_
  rw [h2]
  constructor
  · rintro ⟨_,h⟩ f hf o ho hof
    exact ((h1 f).2.1 (h f hf rfl)).2 o ho hof
  · intro h
    exact ⟨e0,fun f hf _=>(h1 f).2.2 ⟨e0,fun o ho hof=>h f hf o ho hof⟩⟩
 rw [Bool.eq_iff_iff,beq_iff_eq,key,Bool.not_eq_true',List.any_eq_false]
 constructor
 · intro h o ho
   unfold clashP sepP
   simp only [Bool.not_not,Bool.and_eq_true,bne_iff_ne,List.any_eq_true,decide_eq_true_eq,not_and,not_exists]
   rintro hne z hz hzy
   exact hne (h z hzy o ho (List.any_eq_true.2 ⟨z,hz,by simp⟩))
 · intro h f hf o ho hof
   have:=h o ho
   unfold clashP sepP at this
   simp only [Bool.not_not,Bool.and_eq_true,bne_iff_ne,List.any_eq_true,decide_eq_true_eq,not_and,not_exists] at this
   obtain ⟨z,hz,e⟩:=List.any_eq_true.1 hof
   rw [beq_iff_eq] at e
   subst e
   exact Classical.byContradiction fun hne=>this hne z hz hf
theorem p_l9Used {n:TNetwork} {p:TPlan} (hL:LsIn n p.Lights) (f:Int):M_ez p f=some (slotF p.Lights f):=by
 unfold M_ez
 have:iter (M_h p f) N0 (0,0)=some (slotF p.Lights f):=by
  refine iter_foldI (f:=M_h p f) p.Lights (fun i (a:Int)=>(a,(i:Int))) _ id (fun _ _=>True) (fun i a x hx _=>?_) (fun a _=>by simp [M_h]) 0 trivial (by have:=hL.1; omega)
  have hlt:=(List.getElem?_eq_some_iff.1 hx).1
  have hin:=hL.2 x (List.mem_of_getElem? hx)
  have:=hL.1
  refine ⟨trivial,?_⟩
  simp only [M_h,decide_eq_true (show (i:Int) < (p.Lights.length:Int) by omega),cond_true,geti_nat,hx,Option.bind_some,p_l1Has x.Route.Fibers f (by have:=hin.r.len; omega)]
  rw [w64_eq (n:=(i:Int)+1) (by omega) (by omega)]
  rcases bt (x.Route.Fibers.any fun y=>y==f) with e | e
  · rw [e,cond_true,p_l8Bits hin.b]; rfl
  · rw [e]; rfl
 rw [this]; rfl
theorem p_l9Along {n:TNetwork} {p:TPlan} (hL:LsIn n p.Lights) (r:TRoute) (hr:r.Fibers.length≤12):M_fa p r=some (slotR p.Lights r.Fibers):=by
 unfold M_fa
 have:iter (M_s p r) N0 (0,0)=some (slotR p.Lights r.Fibers):=by
  refine iter_foldI (f:=M_s p r) r.Fibers (fun i (a:Int)=>(a,(i:Int))) _ id (fun _ _=>True) (fun i a x hx _=>?_) (fun a _=>by simp [M_s]) 0 trivial (by omega)
  have hlt:=(List.getElem?_eq_some_iff.1 hx).1
  refine ⟨trivial,?_⟩
  simp only [M_s,decide_eq_true (show (i:Int) < (r.Fibers.length:Int) by omega),cond_true,geti_nat,hx,Option.bind_some,p_l9Used hL x]
  rw [w64_eq (n:=(i:Int)+1) (by omega) (by omega)]; rfl
 rw [this]; rfl
def barL (L:List TLight) (y:TLight):Bool:=L.any fun o=>o.Id != y.Id&&clashP o.Route o.Block y.Route y.Block
theorem p_isOpen {n:TNetwork} (r:TRestoration) (hL:LsIn n r.Plan.Lights) (y:TLight) (hy:LgtIn n y) (hD:r.Down.length≤1048576):M_fj r y=some (sepP y.Route.Fibers r.Down&&!barL r.Plan.Lights y):=by
 unfold M_fj barL
 obtain ⟨a,a1,_,a3⟩:=p_common y.Route.Fibers r.Down hy.r.len hD
 have h12:=hL.1
 simp only [a1,Option.bind_some,sep_len a3]
 rw [p_CFL r.Plan.Lights _ (fun o=>o.Id != y.Id&&clashP o.Route o.Block y.Route y.Block) (fun o ho=>by
  unfold M_gg
  cases o.Id != y.Id
  · rfl
  · simp only [cond_true,p_collide n o y (hL.2 o ho) hy,Option.bind_some,Bool.true_and]) (by omega)]
 cases sepP y.Route.Fibers r.Down <;> rfl
end Vs

namespace Vs
open Go
theorem same_iter {f:Int→Option (Int ⊕ (Unit ⊕ Bool))} (a b:List Int) (hl:a.length≤1048576) (hab:a.length=b.length)
 (hf:∀ s,f s=cond (decide (s < (a.length:Int))) ((geti a s).bind fun y=>(geti b s).bind fun z=>cond (y != z) (some (.inr (.inr false))) (some (.inl (IntKind.wrap .i64 (s+1))))) (some (.inr (.inl ())))) :
 iter f N0 0=some (if a=b then .inl () else .inr false):=by
 rw [iter_anyI (f:=f) a (fun i x=>x != (b[i]?).getD 0) (.inr false) (.inl ()) (fun i x hx _=>by
  have hlt:=(List.getElem?_eq_some_iff.1 hx).1
  have hb:b[i]?=some b[i]:=List.getElem?_eq_getElem (by omega)
  rw [hf,decide_eq_true (show (i:Int) < (a.length:Int) by omega),cond_true,geti_nat,geti_nat,hx,hb]
  simp only [Option.bind_some,Option.getD_some]
  rw [w64_eq (n:=(i:Int)+1) (by omega) (by omega)]
  by_cases e:x=b[i]
  · subst e; simp
  · have e':(x != b[i])=true:=by simpa using e
    simp only [e',cond_true,if_true]) (by rw [hf]; simp) (by omega)]
 by_cases e:a=b
 · subst e
   have:anyI (fun i x=>x != (a[i]?).getD 0) a=false:=anyI_false.2 fun i x hx=>by simp [hx]
   rw [this]; simp
 · have:anyI (fun i x=>x != (b[i]?).getD 0) a=true:=by
    cases h:anyI (fun i x=>x != (b[i]?).getD 0) a with
    | true=>rfl
    | false =>
      exfalso
      refine e (List.ext_getElem hab fun i h1 h2=>?_)
      have:=anyI_false.1 h i a[i] (List.getElem?_eq_getElem h1)
      rw [List.getElem?_eq_getElem h2] at this
      simpa using this
   rw [this,if_neg e]; rfl
theorem p_EqualI (a b:List Int) (hl:a.length≤1048576):M_da a b=some (decide (a=b)):=by
 unfold M_da
 by_cases h:a.length=b.length
 · rw [show ((a.length:Int) != (b.length:Int))=false by simp [h],cond_false,same_iter (f:=M_bi a b) a b hl h fun s=>rfl]
   by_cases e:a=b <;> simp [e]
 · rw [show ((a.length:Int) != (b.length:Int))=true by simp; omega,cond_true,decide_eq_false fun e=>h (by rw [e])]
theorem p_l1Same (a b:List Int) (hl:a.length≤1048576):M_dn a b=some (decide (a=b)):=by
 unfold M_dn
 by_cases h:a.length=b.length
 · rw [show ((a.length:Int) != (b.length:Int))=false by simp [h],cond_false,same_iter (f:=M_bj a b) a b hl h fun s=>rfl]
   by_cases e:a=b <;> simp [e]
 · rw [show ((a.length:Int) != (b.length:Int))=true by simp; omega,cond_true,decide_eq_false fun e=>h (by rw [e])]
def sameB (x y:TLight):Bool:=x.Route.Start==y.Route.Start&&(decide (x.Route.Fibers=y.Route.Fibers)&&(x.Block.First==y.Block.First&&x.Block.Count==y.Block.Count))
theorem p_sameLight (x y:TLight) (hid:x.Id=y.Id) (hl:x.Route.Fibers.length≤1048576):M_do x y=some (sameB x y):=by
 unfold M_do M_ft sameB
 rw [show (x.Id==y.Id)=true by simp [hid],cond_true,p_l1Same _ _ hl]
 cases x.Route.Start==y.Route.Start
 · rfl
 · simp only [cond_true,Option.bind_some,Bool.true_and]
   cases decide (x.Route.Fibers=y.Route.Fibers) <;> rfl
def rvS (D:List Int) (y:TLight) (i:Nat) (s:List TLight×List Int):List TLight×List Int :=
 match s.1[i]? with
 | some x=>if !sameB x y&&(sepP y.Route.Fibers D&&!barL s.1 y) then (s.1.set i y,s.2++[y.Id]) else s
 | none=>s
def rvF (D:List Int):List TLight→Nat→List TLight×List Int→List TLight×List Int
 | [],_,s=>s
 | y::ys,i,s=>rvF D ys (i+1) (rvS D y i s)
def hmL (H L:List TLight):List TLight:=H.filter fun y=>decide (y.Id∈L.map (·.Id))
structure RvI (n:TNetwork) (ids:List Int) (k:Nat) (s:List TLight×List Int):Prop where
 ls:LsIn n s.1
 ids:s.1.map (·.Id)=ids
 out:s.2.length≤k
theorem RvI.len {n:TNetwork} {ids:List Int} {k:Nat} {s:List TLight×List Int} (h:RvI n ids k s):s.1.length=ids.length:=by rw [← h.ids,List.length_map]
theorem RvI.step {n:TNetwork} {ids D:List Int} {k:Nat} {s:List TLight×List Int} (h:RvI n ids k s) {y:TLight} (hy:LgtIn n y) {i:Nat} (hi:ids[i]?=some y.Id):RvI n ids (k+1) (rvS D y i s):=by
 unfold rvS
 split
 · rename_i x hx
   split
   · refine ⟨⟨by rw [List.length_set]; exact h.ls.1,fun o ho=>?_⟩,?_,by simp only [List.length_append,List.length_cons,List.length_nil]; have:=h.out; omega⟩
     · rcases List.mem_or_eq_of_mem_set ho with h1 | h1
       · exact h.ls.2 o h1
       · rw [h1]; exact hy
     · rw [List.map_set,h.ids]
       obtain ⟨h1,h2⟩:=List.getElem?_eq_some_iff.1 hi
       rw [← h2,List.set_getElem_self]
   · exact ⟨h.ls,h.ids,by have:=h.out; omega⟩
 · exact ⟨h.ls,h.ids,by have:=h.out; omega⟩
theorem fid_at {L:List TLight} (hn:(L.map (·.Id)).Nodup) {i:Nat} {x:TLight} (h:L[i]?=some x):fidL L x.Id=some (i,x):=by
 unfold fidL
 refine findI_some.2 ⟨h,by simp,fun j y hj hy=>?_⟩
 have hne:y.Id ≠ x.Id:=by
  intro e
  have h1:(L.map (·.Id))[j]?=some x.Id:=by rw [List.getElem?_map,hy]; simp [e]
  have h2:(L.map (·.Id))[i]?=some x.Id:=by rw [List.getElem?_map,h]; rfl
  obtain ⟨p1,p2⟩:=List.getElem?_eq_some_iff.1 h1
  obtain ⟨q1,q2⟩:=List.getElem?_eq_some_iff.1 h2
  have:=(List.getElem_inj hn).1 (p2.trans q2.symm)
  omega
 simpa using hne
theorem fid_no {L:List TLight} {id:Int} (h:id ∉ L.map (·.Id)):fidL L id=none:=by
 unfold fidL
 refine findI_none.2 fun i x hx=>?_
 have:x.Id ≠ id:=by
  rintro rfl
  exact h (List.mem_map.2 ⟨x,List.mem_of_getElem? hx,rfl⟩)
 simpa using this
theorem bar_erase {L:List TLight} (hn:(L.map (·.Id)).Nodup) {i:Nat} {x y:TLight} (hx:L[i]?=some x) (hid:x.Id=y.Id):((L.eraseIdx i).any fun o=>clashP o.Route o.Block y.Route y.Block)=barL L y:=by
 unfold barL
 rw [Bool.eq_iff_iff,List.any_eq_true,List.any_eq_true]
 constructor
 · rintro ⟨o,ho,hc⟩
   rw [List.mem_eraseIdx_iff_getElem?] at ho
   obtain ⟨j,hj,hjo⟩:=ho
   refine ⟨o,List.mem_of_getElem? hjo,?_⟩
   have hne:o.Id ≠ y.Id:=by
    intro e
    have h1:(L.map (·.Id))[j]?=some y.Id:=by rw [List.getElem?_map,hjo]; simp [e]
    have h2:(L.map (·.Id))[i]?=some y.Id:=by rw [List.getElem?_map,hx]; simp [hid]
    obtain ⟨p1,p2⟩:=List.getElem?_eq_some_iff.1 h1
    obtain ⟨q1,q2⟩:=List.getElem?_eq_some_iff.1 h2
    exact hj ((List.getElem_inj hn).1 (p2.trans q2.symm))
   rw [Bool.and_eq_true,bne_iff_ne]
   exact ⟨hne,hc⟩
 · rintro ⟨o,ho,hc⟩
   rw [Bool.and_eq_true,bne_iff_ne] at hc
   obtain ⟨j,hj⟩:=List.getElem?_of_mem ho
   refine ⟨o,List.mem_eraseIdx_iff_getElem?.2 ⟨j,?_,hj⟩,hc.2⟩
   rintro rfl
   rw [hj] at hx; cases hx
   exact hc.1 hid
theorem p_l9Put {n:TNetwork} (hnet:netOk n=true) {L:List TLight} (hL:LsIn n L) (hp:(L.map (·.Id)).Pairwise (· < ·)) {i:Nat} {x y:TLight} (hx:L[i]?=some x) (hid:x.Id=y.Id) (hy:LgtIn n y) :
 M_dp y.Id y.Route.Start y.Block.First y.Block.Count n.Nodes n.Fibers (L.eraseIdx i) y.Route.Fibers=some (n.Nodes,L.set i y,n.Fibers,n.Nodes,n.Fibers,L.eraseIdx i,y.Route.Fibers):=by
 have hlt:=(List.getElem?_eq_some_iff.1 hx).1
 have h12:=hL.1
 have hle:(L.eraseIdx i).length=L.length - 1:=by rw [List.length_eraseIdx,if_pos hlt]
 have hE:LsIn n (L.eraseIdx i):=⟨by omega,fun o ho=>hL.2 o (List.mem_of_mem_eraseIdx ho)⟩
 have hz:=z_lgtOk hE.1 hE.2
 have hzn:=z_netOk hnet
 have hid2:∀ (j:Nat) (o:TLight),L[j]?=some o→(j < i→o.Id < y.Id)∧(i < j→y.Id < o.Id):=by
  intro j o hj
  have hjl:=(List.getElem?_eq_some_iff.1 hj).1
  have g1:(L.map (·.Id))[j]'(by simpa using hjl)=o.Id:=by rw [List.getElem_map,(List.getElem?_eq_some_iff.1 hj).2]
  have g2:(L.map (·.Id))[i]'(by simpa using hlt)=y.Id:=by rw [List.getElem_map,(List.getElem?_eq_some_iff.1 hx).2,hid]
  constructor
  · intro h; have:=List.pairwise_iff_getElem.1 hp j i (by simpa using hjl) (by simpa using hlt) h; rw [g1,g2] at this; exact this
  · intro h; have:=List.pairwise_iff_getElem.1 hp i j (by simpa using hlt) (by simpa using hjl) h; rw [g1,g2] at this; exact this
 unfold M_dp
 rw [show M_bn (⟨(⟨n.Nodes,n.Fibers⟩:TNetwork),L.eraseIdx i⟩:TPlan)=some ⟨n,L.eraseIdx i⟩ from p_l9Own ⟨n,L.eraseIdx i⟩ (by simpa using Nat.le_trans hzn (by omega)) (by simp only; omega)]
 simp only [Option.bind_some]
 obtain ⟨b,hb,hq⟩:=iter_inv (f:=M_q y.Id (⟨n,L.eraseIdx i⟩:TPlan)) (fun s=>∃ m:Nat,s=(m:Int)∧m≤i) (fun s=>i+1 - s.toNat) (fun b=>b=(i:Int)) (fun s hI=>by
  obtain ⟨m,rfl,hm⟩:=hI
  simp only [M_q]
  by_cases hml:m < (L.eraseIdx i).length
  · rw [decide_eq_true (show (m:Int) < ((L.eraseIdx i).length:Int) by omega),cond_true,grd_t (by omega)]
    simp only [Option.bind_some,Int.toNat_natCast]
    by_cases hmi:m < i
    · left
      have e:(L.eraseIdx i)[m]?=L[m]?:=List.getElem?_eraseIdx_of_lt hmi
      have e2:L[m]?=some L[m]:=List.getElem?_eq_getElem (by omega)
      rw [e,e2]
      simp only [Option.bind_some]
      rw [decide_eq_true ((hid2 m _ e2).1 hmi),cond_true,w64_eq (n:=(m:Int)+1) (by omega) (by omega)]
      exact ⟨_,rfl,⟨m+1,by simp,by omega⟩,by omega⟩
    · right
      obtain rfl:m=i:=by omega
      have e:(L.eraseIdx m)[m]?=L[m+1]?:=List.getElem?_eraseIdx_of_ge (Nat.le_refl _)
      have e2:L[m+1]?=some L[m+1]:=List.getElem?_eq_getElem (by omega)
      rw [e,e2]
      simp only [Option.bind_some]
      rw [decide_eq_false (by have:=(hid2 (m+1) _ e2).2 (by omega); omega),cond_false]
      exact ⟨_,rfl,rfl⟩
  · right
    obtain rfl:m=i:=by omega
    rw [decide_eq_false (show ¬ (m:Int) < ((L.eraseIdx m).length:Int) by omega),cond_false]
    exact ⟨_,rfl,rfl⟩) N0 0 ⟨0,rfl,by omega⟩ (N0_lt (by omega))
 rw [hb,hq]
 simp only [Option.bind_some,Int.toNat_natCast,bnd]
 rw [grd_t ⟨trivial,by omega,trivial,by omega⟩]
 simp only [Option.bind_some]
 have s1:subT (L.eraseIdx i) 0 i=L.take i:=by
  rw [subT_drop,List.drop_zero,List.eraseIdx_eq_take_drop_succ,List.take_append_of_le_length (by rw [List.length_take]; omega),List.take_take,Nat.min_self]
 have s2:subT (L.eraseIdx i) i ((L.eraseIdx i).length - i)=L.drop (i+1):=by
  rw [subT_drop,List.take_of_length_le (by rw [List.length_drop]; omega),List.eraseIdx_eq_take_drop_succ,List.drop_append_of_le_length (by rw [List.length_take]; omega),List.drop_eq_nil_of_le (by rw [List.length_take]; omega),List.nil_append]
 have l1:(L.take i).length=i:=by rw [List.length_take]; omega
 have hgi:i≤(L.eraseIdx i).length:=by omega
 simp only [s1,s2]
 rw [grd_t (by omega)]
 simp only [Option.bind_some]
 have hc:=p_l9Copy y (by have:=hy.r.len; omega)
 rw [show M_bo (⟨y.Id,(⟨y.Route.Start,y.Route.Fibers⟩:TRoute),(⟨y.Block.First,y.Block.Count⟩:TBlock)⟩:TLight)=some y from hc]
 simp only [Option.bind_some]
 rw [grd_t (by omega)]
 simp only [Option.bind_some]
 rw [grd_t ⟨by omega,trivial,by omega,trivial⟩]
 simp only [Option.bind_some]
 rw [grd_t (by simp only [List.length_append,List.length_cons,List.length_nil,List.length_drop]; omega)]
 simp only [Option.bind_some]
 rw [List.set_eq_take_append_cons_drop,if_pos hlt]
 simp
end Vs

namespace Vs
open Go
theorem p_l9WithoutM {n:TNetwork} (hnet:netOk n=true) {L:List TLight} (hL:LsIn n L) (i:Nat) (hi:i < L.length) :
 M_fb 0 n.Nodes.length 0 n.Fibers.length 0 L.length (i:Int) n.Nodes n.Fibers L=some (n.Nodes,L.eraseIdx i,n.Fibers,n.Nodes,n.Fibers,L):=by
 have hz:=z_lgtOk hL.1 hL.2
 have hzn:=z_netOk hnet
 have h12:=hL.1
 unfold M_fb
 simp only [subT_all,bnd]
 rw [show M_bn (⟨(⟨n.Nodes,n.Fibers⟩:TNetwork),L⟩:TPlan)=some ⟨n,L⟩ from p_l9Own ⟨n,L⟩ (Nat.le_trans hzn (by omega)) (by simp only; omega)]
 simp only [Option.bind_some,Int.toNat_natCast]
 rw [grd_t ⟨trivial,by omega,trivial,by omega⟩]
 have s1:subT L 0 i=L.take i:=by rw [subT_drop]; simp
 have s2:subT L (i+1) (L.length - (i+1))=L.drop (i+1):=by rw [subT_drop,List.take_of_length_le (by rw [List.length_drop]; omega)]
 have l1:(L.take i).length=i:=by rw [List.length_take]; omega
 rw [w64_eq (n:=(i:Int)+1) (by omega) (by omega),show Int.toNat ((i:Int)+1)=i+1 by omega]
 simp only [Option.bind_some,s1,s2]
 rw [grd_t (by omega)]
 simp only [Option.bind_some]
 rw [grd_t ⟨by omega,trivial,by omega,trivial⟩]
 simp only [Option.bind_some]
 rw [grd_t (by rw [List.length_drop]; omega),List.eraseIdx_eq_take_drop_succ]
 rfl
def rvT (n:TNetwork) (j:Nat) (s:List TLight×List Int):Int×Nat×Nat×Nat×List Int×List ByteArray×List TFiber×List TLight:=((j:Int),n.Nodes.length,n.Fibers.length,s.1.length,s.2,n.Nodes,n.Fibers,s.1)
theorem p_rvSkip {n:TNetwork} {H:List TLight} {D ids:List Int} (hH:H.length≤12) {j:Nat} {y:TLight} (hj:H[j]?=some y) {s:List TLight×List Int} (hI:RvI n ids j s) (hno:y.Id ∉ ids) :
 M_b H D (rvT n j s)=some (.inl (rvT n (j+1) s)):=by
 have hlt:=(List.getElem?_eq_some_iff.1 hj).1
 have h12:=hI.ls.1
 show M_b H D ((j:Int),n.Nodes.length,n.Fibers.length,s.1.length,s.2,n.Nodes,n.Fibers,s.1)=_
 simp only [M_b,bnd,subT_all]
 simp only [decide_eq_true (show (j:Int) < (H.length:Int) by omega),cond_true,grd_t (show 0≤(j:Int)∧(j:Int) < (H.length:Int) by omega),Option.bind_some,Int.toNat_natCast,hj]
 rw [p_l9Find (⟨(⟨n.Nodes,n.Fibers⟩:TNetwork),s.1⟩:TPlan) y.Id (by simp only; omega)]
 have e:fidI s.1 y.Id=-1:=by unfold fidI; rw [fid_no (by rw [hI.ids]; exact hno)]
 simp only [Option.bind_some,e]
 rw [w64_eq (n:=(j:Int)+1) (by omega) (by omega)]; rfl
theorem p_rvStep {n:TNetwork} (hnet:netOk n=true) {H:List TLight} {D ids:List Int} (hH:H.length≤12) (hD:D.length≤1048576) (hp:ids.Pairwise (· < ·)) {j:Nat} {y:TLight} (hj:H[j]?=some y) (hy:LgtIn n y) {s:List TLight×List Int} (hI:RvI n ids j s) {i:Nat} (hi:ids[i]?=some y.Id) (hjb:j≤12) :
 M_b H D (rvT n j s)=some (.inl (rvT n (j+1) (rvS D y i s))):=by
 have hlt:=(List.getElem?_eq_some_iff.1 hj).1
 have h12:=hI.ls.1
 have hids:(s.1.map (·.Id))[i]?=some y.Id:=by rw [hI.ids]; exact hi
 rw [List.getElem?_map,Option.map_eq_some_iff] at hids
 obtain ⟨x,hx,hid⟩:=hids
 have hxl:=(List.getElem?_eq_some_iff.1 hx).1
 have hnod:(s.1.map (·.Id)).Nodup:=by rw [hI.ids]; exact hp.imp fun h=>by omega
 have hxin:=hI.ls.2 x (List.mem_of_getElem? hx)
 have hlen:(rvS D y i s).1.length=s.1.length:=by unfold rvS; rw [hx]; simp only; split <;> simp
 show M_b H D ((j:Int),n.Nodes.length,n.Fibers.length,s.1.length,s.2,n.Nodes,n.Fibers,s.1)=_
 rw [show rvT n (j+1) (rvS D y i s)=(((j+1:Nat):Int),n.Nodes.length,n.Fibers.length,s.1.length,(rvS D y i s).2,n.Nodes,n.Fibers,(rvS D y i s).1) by unfold rvT; rw [hlen]]
 simp only [M_b,bnd,subT_all]
 simp only [decide_eq_true (show (j:Int) < (H.length:Int) by omega),cond_true,grd_t (show 0≤(j:Int)∧(j:Int) < (H.length:Int) by omega),Option.bind_some,Int.toNat_natCast,hj]
 rw [p_l9Find (⟨(⟨n.Nodes,n.Fibers⟩:TNetwork),s.1⟩:TPlan) y.Id (by simp only; omega)]
 have e:fidI s.1 y.Id=(i:Int):=by unfold fidI; rw [← hid,fid_at hnod hx]
 simp only [Option.bind_some,e,Int.toNat_natCast]
 rw [decide_eq_false (show ¬ (i:Int) < 0 by omega),cond_false,grd_t (by omega)]
 simp only [Option.bind_some,hx]
 rw [p_sameLight x y hid (by have:=hxin.r.len; omega),w64_eq (n:=(j:Int)+1) (by omega) (by omega)]
 simp only [Option.bind_some]
 unfold rvS
 rw [hx]
 simp only
 rcases bt (sameB x y) with e1 | e1
 · rw [e1]; rfl
 rw [e1]
 simp only [cond_false,p_l4Uses y.Route D (by have:=hy.r.len; omega) hD,Option.bind_some,Bool.not_false,Bool.true_and]
 rcases bt (sepP y.Route.Fibers D) with e2 | e2
 · have hE:LsIn n (s.1.eraseIdx i):=⟨Nat.le_trans (List.length_eraseIdx_le ..) h12,fun o ho=>hI.ls.2 o (List.mem_of_mem_eraseIdx ho)⟩
   rw [e2]
   simp only [Bool.not_true,cond_false,Bool.true_and]
   rw [p_l9WithoutM hnet hI.ls i hxl]
   simp only [Option.bind_some]
   rw [p_l9Along (p:=(⟨(⟨n.Nodes,n.Fibers⟩:TNetwork),s.1.eraseIdx i⟩:TPlan)) hE y.Route hy.r.len,p_l8Bits hy.b]
   simp only [Option.bind_some]
   rw [slot_free hE hy,bar_erase hnod hx hid]
   rcases bt (barL s.1 y) with e3 | e3
   · rw [e3]; rfl
   · rw [e3]
     simp only [Bool.not_false,cond_true,if_true,p_l9Copy y (show y.Route.Fibers.length≤1048576 by have:=hy.r.len; omega),Option.bind_some]
     rw [p_l9Put hnet hI.ls (by rw [hI.ids]; exact hp) hx hid hy]
     simp only [Option.bind_some]
     rw [grd_t (by have:=hI.out; omega)]
     simp only [Option.bind_some,List.length_set]
     rfl
 · rw [e2]; rfl
theorem hm_at {H:List TLight} {p:TLight→Bool} {j:Nat} {y:TLight} (hj:H[j]?=some y) (hy:p y=true):(H.filter p)[((H.take j).filter p).length]?=some y:=by
 have hlt:=(List.getElem?_eq_some_iff.1 hj).1
 have e:H=H.take j++y::H.drop (j+1):=by
  rw [← (List.getElem?_eq_some_iff.1 hj).2,List.getElem_cons_drop,List.take_append_drop]
 conv=>lhs; rw [e]
 rw [List.filter_append,List.filter_cons,if_pos hy]
 have h0:((H.take j++y::H.drop (j+1)).take j)=H.take j:=by
  rw [List.take_append_of_le_length (by rw [List.length_take]; omega),List.take_take,Nat.min_self]
 rw [h0,List.getElem?_append_right (Nat.le_refl _),Nat.sub_self]
 rfl
theorem hm_next {H:List TLight} {p:TLight→Bool} {j:Nat} {y:TLight} (hj:H[j]?=some y):((H.take (j+1)).filter p).length=((H.take j).filter p).length+if p y then 1 else 0:=by
 have hlt:=(List.getElem?_eq_some_iff.1 hj).1
 rw [List.take_add_one,hj,List.filter_append,List.length_append]
 cases e:p y <;> simp [e]
def rvG (D ids:List Int) (_:Nat) (y:TLight) (a:Nat×(List TLight×List Int)):Nat×(List TLight×List Int):=if decide (y.Id∈ids) then (a.1+1,rvS D y a.1 a.2) else a
theorem rvG_fold (D ids:List Int):∀ (H:List TLight) (k i:Nat) (s:List TLight×List Int),(foldI (rvG D ids) k H (i,s)).2=rvF D (H.filter fun y=>decide (y.Id∈ids)) i s
 | [],_,_,_=>rfl
 | y :: H, k, i, s => by
   simp only [foldI]
   rcases bt (decide (y.Id∈ids)) with e | e
   · have e1:rvG D ids k y (i,s)=(i+1,rvS D y i s):=by unfold rvG; rw [if_pos e]
     rw [e1,rvG_fold D ids H (k+1),List.filter_cons,if_pos e]; rfl
   · have e1:rvG D ids k y (i,s)=(i,s):=by unfold rvG; rw [if_neg (by rw [e]; simp)]
     rw [e1,rvG_fold D ids H (k+1),List.filter_cons,if_neg (by rw [e]; simp)]
theorem asc_ids {n:TNetwork} {L:List TLight} (h:PlnIn ⟨n,L⟩):(L.map (·.Id)).Pairwise (· < ·):=by
 have step:=h.asc
 simp only at step
 clear h
 induction L with
 | nil=>simp
 | cons a L ih =>
   have hL:=ih fun i x y hx hy=>step (i+1) x y (by simpa using hx) (by simpa using hy)
   rw [List.map_cons,List.pairwise_cons]
   refine ⟨fun z hz=>?_,hL⟩
   cases L with
   | nil=>simp at hz
   | cons b L =>
     have h0:=step 0 a b rfl rfl
     rw [List.map_cons,List.mem_cons] at hz
     rcases hz with rfl | hz
     · exact h0
     · rw [List.map_cons,List.pairwise_cons] at hL
       have:=hL.1 z hz; omega
theorem hm_ids {n:TNetwork} {H L:List TLight} (hH:PlnIn ⟨n,H⟩) (hL:PlnIn ⟨n,L⟩) (hsub:∀ x∈L,∃ q,fidL H x.Id=some q):(hmL H L).map (·.Id)=L.map (·.Id):=by
 have a1:=asc_ids hH
 refine rise_eq _ _ ?_ (asc_ids hL) fun z=>?_
 · unfold hmL
   exact a1.sublist (List.filter_sublist.map _)
 · unfold hmL
   simp only [List.mem_map,List.mem_filter,decide_eq_true_eq]
   constructor
   · rintro ⟨y,⟨_,x,hx,e⟩,rfl⟩; exact ⟨x,hx,e⟩
   · rintro ⟨x,hx,rfl⟩
     obtain ⟨⟨k,y⟩,hq⟩:=hsub x hx
     obtain ⟨f1,f2⟩:=fid_mem hq
     exact ⟨y,⟨List.mem_of_getElem? f1,x,hx,f2.symm⟩,f2⟩
def rvP (r:TRestoration):TRestoration×List Int×Bool :=
 if rstOk r then (⟨⟨r.Plan.Network,(rvF r.Down (hmL r.Home r.Plan.Lights) 0 (r.Plan.Lights,[])).1⟩,r.Home,r.Down⟩,(rvF r.Down (hmL r.Home r.Plan.Lights) 0 (r.Plan.Lights,[])).2,true) else (rst0,[],false)
theorem rst_sub {r:TRestoration} (h:rstOk r=true):∀ x∈r.Plan.Lights,∃ q,fidL r.Home x.Id=some q:=by
 unfold rstOk at h
 simp only [Bool.and_eq_true,Bool.not_eq_true',List.any_eq_false] at h
 intro x hx
 have:=h.2 x hx
 unfold rstBad at this
 cases e:fidL r.Home x.Id with
 | none=>rw [e] at this; simp at this
 | some q=>exact ⟨q,rfl⟩
theorem p_spec_RevertLights (r:TRestoration) (hz:z_Restoration r≤1048576):M_fc r.Plan.Network.Nodes r.Plan.Network.Fibers r.Plan.Lights r.Home r.Down =
 some (0,(rvP r).1.Plan.Network.Nodes.length,0,(rvP r).1.Plan.Network.Fibers.length,0,(rvP r).1.Plan.Lights.length,(rvP r).2.2,(rvP r).2.1,(rvP r).1.Plan.Network.Nodes,(rvP r).1.Plan.Network.Fibers,(rvP r).1.Plan.Lights,(rvP r).1.Home,(rvP r).1.Down,
  r.Plan.Network.Nodes,r.Plan.Network.Fibers,r.Plan.Lights,r.Home,r.Down):=by
 obtain ⟨z1,z2,z3,z4⟩:=z_rst hz
 unfold M_fc rvP
 rw [show M_de (⟨(⟨(⟨r.Plan.Network.Nodes,r.Plan.Network.Fibers⟩:TNetwork),r.Plan.Lights⟩:TPlan),r.Home,r.Down⟩:TRestoration)=some (rstOk r) from p_l15Good r hz]
 simp only [Option.bind_some]
 rcases bt (rstOk r) with e | e
 · rw [e]
   simp only [Bool.not_true,cond_false,if_true]
   have hR:=rst_in e
   have hP:=hR.pl
   have hH:=hR.hm
   have h12:r.Home.length≤12:=hH.len
   have hpid:=asc_ids (n:=r.Plan.Network) (L:=r.Plan.Lights) hP
   have hhm:=hm_ids hH (L:=r.Plan.Lights) hP (rst_sub e)
   unfold M_gb M_ga
   rw [show M_bn (⟨(⟨r.Plan.Network.Nodes,r.Plan.Network.Fibers⟩:TNetwork),r.Plan.Lights⟩:TPlan)=some r.Plan from p_l9Own r.Plan z1 z2]
   simp only [Option.bind_some,p_l15Copy r.Home z3]
   unfold M_co
   simp only [Option.bind_some,grd_t (show r.Down.length * 8≤140737488355328 by omega)]
   have key:=iter_foldI (f:=M_b r.Home r.Down) r.Home (fun j (a:Nat×(List TLight×List Int))=>rvT r.Plan.Network j a.2) (rvG r.Down (r.Plan.Lights.map (·.Id)))
    (fun a=>(r.Plan.Network.Nodes.length,r.Plan.Network.Fibers.length,a.2.1.length,a.2.2,r.Plan.Network.Nodes,r.Plan.Network.Fibers,a.2.1))
    (fun j a=>a.1=((r.Home.take j).filter fun y=>decide (y.Id∈r.Plan.Lights.map (·.Id))).length∧RvI r.Plan.Network (r.Plan.Lights.map (·.Id)) j a.2)
    (fun j a y hy hI=>by
     obtain ⟨hi,hI⟩:=hI
     have hlt:=(List.getElem?_eq_some_iff.1 hy).1
     have hyin:LgtIn r.Plan.Network y:=hH.lgt y (List.mem_of_getElem? hy)
     rcases bt (decide (y.Id∈r.Plan.Lights.map (·.Id))) with e1 | e1
     · have hat:=hm_at (p:=fun y=>decide (y.Id∈r.Plan.Lights.map (·.Id))) hy e1
       have hid:(r.Plan.Lights.map (·.Id))[a.1]?=some y.Id:=by
        rw [← hhm,List.getElem?_map,hi]
        unfold hmL
        rw [hat]; rfl
       have eg:rvG r.Down (r.Plan.Lights.map (·.Id)) j y a=(a.1+1,rvS r.Down y a.1 a.2):=by unfold rvG; rw [if_pos e1]
       rw [eg]
       refine ⟨⟨?_,hI.step hyin hid⟩,p_rvStep hP.net h12 z4 hpid hy hyin hI hid (by omega)⟩
       rw [hm_next hy]
       simp only [e1,if_true,hi]
     · have eg:rvG r.Down (r.Plan.Lights.map (·.Id)) j y a=a:=by unfold rvG; rw [if_neg (by rw [e1]; simp)]
       rw [eg]
       refine ⟨⟨?_,⟨hI.ls,hI.ids,by have:=hI.out; omega⟩⟩,p_rvSkip h12 hy hI (by simpa using e1)⟩
       rw [hm_next hy,hi]
       simp only [e1]
       rfl)
    (fun a hI=>by simp [M_b,rvT]) (0,(r.Plan.Lights,[])) ⟨by simp,⟨hP.len,hP.lgt⟩,rfl,by simp⟩ (by omega)
   have e0:rvT r.Plan.Network 0 (r.Plan.Lights,[])=(0,r.Plan.Network.Nodes.length,r.Plan.Network.Fibers.length,r.Plan.Lights.length,[],r.Plan.Network.Nodes,r.Plan.Network.Fibers,r.Plan.Lights):=rfl
   rw [e0] at key
   rw [key]
   simp only [Option.bind_some]
   have hg:=rvG_fold r.Down (r.Plan.Lights.map (·.Id)) r.Home 0 0 (r.Plan.Lights,[])
   rw [hg]
   rfl
 · rw [e]; rfl
end Vs

namespace Vs
open Go
theorem fid_home {n:TNetwork} {H:List TLight} (hH:PlnIn ⟨n,H⟩) {y:TLight} (hy:y∈H):∃ k,fidL H y.Id=some (k,y)∧H[k]?=some y∧k < H.length:=by
 obtain ⟨k,hk⟩:=List.getElem?_of_mem hy
 exact ⟨k,fid_at ((asc_ids hH).imp fun h=>by omega) hk,hk,(List.getElem?_eq_some_iff.1 hk).1⟩
theorem p_rvImp {n:TNetwork} {r:TRestoration} {ids:List Int} (hn:r.Plan.Network=n) (hH:PlnIn ⟨n,r.Home⟩) (hD:r.Down.length≤1048576) (hlen:r.Plan.Lights.length=ids.length) {i:Nat} {y:TLight} (hyH:y∈r.Home) {s:List TLight×List Int} (hI:RvI n ids i s) (hi:ids[i]?=some y.Id) (hp:ids.Pairwise (· < ·)) (hjb:i≤12) :
 M_j r ((i:Int),s.2,s.1)=some (.inl (((i+1:Nat):Int),(rvS r.Down y i s).2,(rvS r.Down y i s).1)):=by
 subst hn
 have h12:=hI.ls.1
 have hil:=(List.getElem?_eq_some_iff.1 hi).1
 have hids:(s.1.map (·.Id))[i]?=some y.Id:=by rw [hI.ids]; exact hi
 rw [List.getElem?_map,Option.map_eq_some_iff] at hids
 obtain ⟨x,hx,hid⟩:=hids
 have hxl:=(List.getElem?_eq_some_iff.1 hx).1
 have hxin:=hI.ls.2 x (List.mem_of_getElem? hx)
 have hyin:LgtIn r.Plan.Network y:=hH.lgt y hyH
 have hH12:r.Home.length≤12:=hH.len
 obtain ⟨k,hk1,hk2,hk3⟩:=fid_home hH hyH
 have ek:fidI r.Home x.Id=(k:Int):=by unfold fidI; rw [hid,hk1]
 simp only [M_j,decide_eq_true (show (i:Int) < (r.Plan.Lights.length:Int) by omega),cond_true,grd_t (show 0≤(i:Int)∧(i:Int) < (s.1.length:Int) by omega),Option.bind_some,Int.toNat_natCast,hx,bnd]
 rw [p_homeOf (⟨(⟨(⟨r.Plan.Network.Nodes,r.Plan.Network.Fibers⟩:TNetwork),s.1⟩:TPlan),r.Home,r.Down⟩:TRestoration) x.Id (by simp only; omega)]
 simp only [Option.bind_some,ek,Int.toNat_natCast,grd_t (show 0≤(k:Int)∧(k:Int) < (r.Home.length:Int) by omega),hk2]
 have es:(cond (x.Route.Start==y.Route.Start) ((M_da x.Route.Fibers y.Route.Fibers).bind fun rZ12=>cond (rZ12) (some (x.Block.First==y.Block.First&&x.Block.Count==y.Block.Count)) (some false)) (some false):Option Bool)=some (sameB x y):=by
  rw [p_EqualI _ _ (by have:=hxin.r.len; omega)]
  unfold sameB
  cases x.Route.Start==y.Route.Start
  · rfl
  · simp only [cond_true,Option.bind_some,Bool.true_and]
    cases decide (x.Route.Fibers=y.Route.Fibers) <;> rfl
 rw [es]
 simp only [Option.bind_some]
 rw [p_isOpen (n:=r.Plan.Network) (⟨(⟨(⟨r.Plan.Network.Nodes,r.Plan.Network.Fibers⟩:TNetwork),s.1⟩:TPlan),r.Home,r.Down⟩:TRestoration) hI.ls y hyin hD,w64_eq (n:=(i:Int)+1) (by omega) (by omega)]
 simp only [Option.bind_some]
 unfold rvS
 rw [hx]
 simp only
 have ey:(⟨x.Id,(⟨y.Route.Start,y.Route.Fibers⟩:TRoute),(⟨y.Block.First,y.Block.Count⟩:TBlock)⟩:TLight)=y:=by rw [hid]
 rcases bt (sameB x y) with e1 | e1
 · rw [e1]; rfl
 rw [e1]
 simp only [Bool.not_false,cond_true,Option.bind_some,Bool.true_and]
 rcases bt (sepP y.Route.Fibers r.Down&&!barL s.1 y) with e2 | e2
 · rw [e2]
   simp only [cond_true,if_true]
   unfold M_cw
   rw [grd_t (by have:=hyin.r.len; omega)]
   simp only [Option.bind_some]
   rw [grd_t (by have:=hI.out; omega)]
   simp only [Option.bind_some,ey,hid]
   rfl
 · rw [e2]; rfl
theorem rvF_fold (D:List Int):∀ (ys:List TLight) (i:Nat) (s:List TLight×List Int),foldI (fun i y s=>rvS D y i s) i ys s=rvF D ys i s
 | [],_,_=>rfl
 | y::ys,i,s=>by simp only [foldI,rvF]; exact rvF_fold D ys (i+1) _
theorem rvF_inv {n:TNetwork} {ids D:List Int}:∀ (ys:List TLight) (i:Nat) (s:List TLight×List Int),RvI n ids i s→(∀ y∈ys,LgtIn n y)→(∀ k y,ys[k]?=some y→ids[i+k]?=some y.Id)→RvI n ids (i+ys.length) (rvF D ys i s)
 | [],_,_,h,_,_=>h
 | y :: ys, i, s, h, hy, hk => by
   have h0:=hk 0 y rfl
   have:=rvF_inv (D:=D) ys (i+1) (rvS D y i s) (h.step (hy y (by simp)) h0) (fun z hz=>hy z (by simp [hz])) fun k z hz=>by
    have:=hk (k+1) z (by simpa using hz)
    rw [show i+1+k=i+(k+1) by omega]; exact this
   rw [List.length_cons,show i+(ys.length+1)=i+1+ys.length by omega]
   exact this
theorem hm_facts {r:TRestoration} (e:rstOk r=true):(hmL r.Home r.Plan.Lights).length=r.Plan.Lights.length∧(∀ y∈hmL r.Home r.Plan.Lights,y∈r.Home)∧∀ (k:Nat) y,(hmL r.Home r.Plan.Lights)[k]?=some y→(r.Plan.Lights.map (·.Id))[k]?=some y.Id:=by
 have hR:=rst_in e
 have hhm:=hm_ids hR.hm (L:=r.Plan.Lights) hR.pl (rst_sub e)
 refine ⟨by have:=congrArg List.length hhm; simpa using this,fun y hy=>(List.mem_filter.1 hy).1,fun k y hk=>?_⟩
 rw [← hhm,List.getElem?_map,hk]; rfl
theorem p_impl_RevertLights (r:TRestoration) (hz:z_Restoration r≤1048576):M_cy r=some (rvP r):=by
 obtain ⟨z1,z2,z3,z4⟩:=z_rst hz
 unfold M_cy rvP
 rw [p_impl_IsValidRestoration r hz]
 simp only [Option.bind_some]
 rcases bt (rstOk r) with e | e
 · rw [e]
   simp only [Bool.not_true,cond_false,if_true]
   have hR:=rst_in e
   obtain ⟨f1,f2,f3⟩:=hm_facts e
   have h12:r.Plan.Lights.length≤12:=hR.pl.len
   rw [p_copyRestoration r z1 z2 z3 z4]
   simp only [Option.bind_some]
   have key:=iter_foldI (f:=M_j r) (hmL r.Home r.Plan.Lights) (fun j (s:List TLight×List Int)=>((j:Int),s.2,s.1)) (fun i y s=>rvS r.Down y i s) (fun s=>(s.2,s.1))
    (fun j s=>RvI r.Plan.Network (r.Plan.Lights.map (·.Id)) j s) (fun j s y hy hI=>by
     have hlt:=(List.getElem?_eq_some_iff.1 hy).1
     have hyH:=f2 y (List.mem_of_getElem? hy)
     exact ⟨hI.step (hR.hm.lgt y hyH) (f3 j y hy),p_rvImp rfl hR.hm z4 (by simp) hyH hI (f3 j y hy) (asc_ids (n:=r.Plan.Network) hR.pl) (by omega)⟩)
    (fun s hI=>by simp [M_j,f1]) (r.Plan.Lights,[]) ⟨⟨h12,hR.pl.lgt⟩,rfl,by simp⟩ (by omega)
   have e0:((0:Nat):Int)=0:=rfl
   simp only [e0] at key
   rw [key,rvF_fold]
   rfl
 · rw [e]; rfl
theorem zr_RevertLights (r:TRestoration) (hz:z_Restoration r≤1048576):z_Restoration (rvP r).1≤1048576∧z_IntS (rvP r).2.1≤1048576:=by
 unfold rvP
 split
 · rename_i e
   have hR:=rst_in e
   obtain ⟨f1,f2,f3⟩:=hm_facts e
   have h12:r.Plan.Lights.length≤12:=hR.pl.len
   have hI:=rvF_inv (D:=r.Down) (hmL r.Home r.Plan.Lights) 0 (r.Plan.Lights,[]) (n:=r.Plan.Network) (ids:=r.Plan.Lights.map (·.Id)) ⟨⟨h12,hR.pl.lgt⟩,rfl,by simp⟩ (fun y hy=>hR.hm.lgt y (f2 y hy)) fun k y hk=>by rw [Nat.zero_add]; exact f3 k y hk
   obtain ⟨z1,z2,z3,z4⟩:=z_rst hz
   have h1:=z_netOk hR.pl.net
   have h2:=z_lgtOk hI.ls.1 hI.ls.2
   have h3:=z_lgtOk (n:=r.Plan.Network) (xs:=r.Home) hR.hm.len hR.hm.lgt
   have h4:r.Down.length≤1048576 - 1000:=by
    have e:z_Restoration r=z_Network r.Plan.Network+z_LightS r.Plan.Lights+z_LightS r.Home+r.Down.length:=by unfold z_Restoration z_Plan z_IntS; omega
    have:=set_len hR.dn
    have:=(netOk_b hR.pl.net).2.2
    omega
   refine ⟨?_,?_⟩
   · show z_Network r.Plan.Network+z_LightS (rvF r.Down (hmL r.Home r.Plan.Lights) 0 (r.Plan.Lights,[])).1+z_LightS r.Home+r.Down.length≤1048576
     omega
   · show (rvF r.Down (hmL r.Home r.Plan.Lights) 0 (r.Plan.Lights,[])).2.length≤1048576
     have:=hI.out; omega
 · exact ⟨by decide,Nat.zero_le _⟩
end Vs

namespace Vs
open Go
theorem subT_len {α:Type} {xs:List α} {n:Nat} (h:xs.length=n):subT xs 0 n=xs:=by subst h; exact subT_all xs
theorem p_FnExactRevertLights (x1:TRestoration) (o1:ok_Restoration x1):M_gh x1=some true:=by
 unfold M_gh
 rw [p_szRestoration x1 _ (by omega) (by omega) o1]
 simp only [Option.bind_some]
 by_cases hc1:(1048576:Int) - z_Restoration x1 < 0
 · simp [hc1]
 simp only [hc1,if_false,decide_false,cond_false]
 have z1:z_Restoration x1≤1048576:=by omega
 have zr:=zr_RevertLights x1 z1
 obtain ⟨zr1,zr2⟩:=zr
 have w1:=w_gk x1
 have f1:=mkr_fst_Restoration 1 x1
 have m1:=p_markRestoration x1 1 (by omega) (by omega) z1
 have n1:decide ((mkr_Restoration 1 x1).1 < 0)=false:=decide_eq_false (by omega)
 have w2:=w_gk (rvP x1).1
 have f2:=mkr_fst_Restoration 1 (rvP x1).1
 have m2:=p_markRestoration (rvP x1).1 1 (by omega) (by omega) zr1
 have n2:decide ((mkr_Restoration 1 (rvP x1).1).1 < 0)=false:=decide_eq_false (by omega)
 have w3:=w_gj (rvP x1).2.1
 have f3:=markL_fst mk_IntS w_IntS hw_IntS (rvP x1).2.1 ((mkr_Restoration 1 (rvP x1).1).1)
 have m3:=p_markIntS (rvP x1).2.1 ((mkr_Restoration 1 (rvP x1).1).1) (by omega) (by omega) zr2
 have n3:decide ((markL mk_IntS ((mkr_Restoration 1 (rvP x1).1).1) (rvP x1).2.1).1 < 0)=false:=decide_eq_false (by omega)
 have grZ42:M_cd (⟨(⟨(⟨(mkr_Restoration 1 (rvP x1).1).2.1,(mkr_Restoration 1 (rvP x1).1).2.2.1⟩:TNetwork),(mkr_Restoration 1 (rvP x1).1).2.2.2.1⟩:TPlan),(mkr_Restoration 1 (rvP x1).1).2.2.2.2.1,(mkr_Restoration 1 (rvP x1).1).2.2.2.2.2⟩:TRestoration) 1=some (mkr_Restoration 1 (rvP x1).1).1:=p_heldRestoration (rvP x1).1 1 (by omega) (by omega) zr1
 have grZ46:=p_heldIntS (rvP x1).2.1 ((mkr_Restoration 1 (rvP x1).1).1) (by omega) (by omega) zr2
 have grZ57:M_cd (⟨(⟨(⟨(mkr_Restoration 1 (rvP x1).1).2.1,(mkr_Restoration 1 (rvP x1).1).2.2.1⟩:TNetwork),(mkr_Restoration 1 (rvP x1).1).2.2.2.1⟩:TPlan),(mkr_Restoration 1 (rvP x1).1).2.2.2.2.1,(mkr_Restoration 1 (rvP x1).1).2.2.2.2.2⟩:TRestoration) 1=some (mkr_Restoration 1 (rvP x1).1).1:=p_heldRestoration (rvP x1).1 1 (by omega) (by omega) zr1
 have grZ59:=p_heldIntS (rvP x1).2.1 ((mkr_Restoration 1 (rvP x1).1).1) (by omega) (by omega) zr2
 simp only [p_spec_RevertLights x1 z1,p_impl_RevertLights x1 z1,p_toRestoration x1 z1,p_eqRestoration ((rvP x1).1) zr1,p_eqIntS ((rvP x1).2.1) zr2,p_eqRestoration x1 z1,m1,n1,m2,n2,m3,n3,subT_len (mkr_len0_Restoration 1 (rvP x1).1),subT_len (mkr_len1_Restoration 1 (rvP x1).1),subT_len (mkr_len2_Restoration 1 (rvP x1).1),subT_len (mkr_len3_Restoration 1 (rvP x1).1),subT_len (mkr_len4_Restoration 1 (rvP x1).1),grZ42,subT_len (markL_len mk_IntS (rvP x1).2.1 ((mkr_Restoration 1 (rvP x1).1).1)),grZ46,grZ57,grZ59,subT_all,Option.bind_some,Bool.not_true,beq_self_eq_true,bnd,bne_self_eq_false,cond_false,cond_true]
end Vs

