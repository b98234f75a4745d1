/-
  Part of the proof that the law FnExactFailFibers returns true at every input; no condition beside the row's own.
-/
import Derived.Test.YtgpbibgbfklikaaGreatXe
import Derived.Test.YtgpbibgbfklikaaGreatKa
set_option linter.defProp false
set_option linter.unusedSimpArgs false
set_option linter.unusedVariables false
namespace Vs
open Go
theorem b2s_len:∀ (ns:List Int) (r:ByteArray),(ns.foldl (fun r n=>r.push (UInt8.ofNat n.toNat)) r).size=r.size+ns.length
 | [],r=>by simp
 | n :: ns, r => by
   simp only [List.foldl_cons,b2s_len ns,List.length_cons,ByteArray.size_push]; omega
theorem b2s_size (ns:List Int):(b2s ns).size=ns.length:=by
 unfold b2s; rw [b2s_len]; simp
def txt (k:Int):ByteArray:=(M_bu k).getD ⟨#[]⟩
theorem p_markText (k:Int) (h0:0≤k) (h1:k≤1000000000000):M_bu k=some (txt k):=by
 have:∃ r,M_bu k=some r:=by
  unfold M_bu
  by_cases h:k≤0
  · exact ⟨_,by rw [decide_eq_true h,cond_true]⟩
  · rw [decide_eq_false h,cond_false]
    obtain ⟨b,hb,hq⟩:=iter_inv (f:=M_ax) (fun s=>0≤s.1∧s.2.size≤13∧s.1 * 10 ^ s.2.size≤1000000000000) (fun s=>s.1.toNat) (fun b=>b.size≤13) (fun s hI=>by
     obtain ⟨a,z⟩:=s
     obtain ⟨i1,i2,i3⟩:=hI
     simp only at i1 i2 i3
     by_cases hp:0 < a
     · left
       have hz:z.size≤12:=by
        apply Decidable.byContradiction
        intro hc
        have e:z.size=13:=by omega
        rw [e] at i3
        omega
       have hd:10 * (a.tdiv 10)≤a:=by rw [Int.tdiv_eq_ediv_of_nonneg i1]; omega
       have hd2:a.tdiv 10 < a:=by rw [Int.tdiv_eq_ediv_of_nonneg i1]; omega
       have hd3:0≤a.tdiv 10:=by rw [Int.tdiv_eq_ediv_of_nonneg i1]; omega
       have hpow:(0:Int)≤10 ^ z.size:=Int.le_of_lt (Int.pow_pos (by omega))
       have ha:a≤1000000000000:=by
        have h1:(1:Int)≤10 ^ z.size:=Int.pow_pos (by omega)
        have:=Int.mul_le_mul_of_nonneg_left h1 i1
        omega
       refine ⟨(a.tdiv 10,b2s [IntKind.wrap .u8 (IntKind.wrap .i64 (48+(Int.tmod a 10)))]++z),?_,⟨hd3,?_,?_⟩,by simp only; omega⟩
       · simp only [M_ax,decide_eq_true hp,cond_true,bnd]
         rw [grd_t (by omega),grd_t (by rw [b2s_size]; simp; omega)]
         simp only [Option.bind_some]
         rw [w64_eq (n:=Int.tdiv a 10) (by omega) (by omega)]
       · simp only [ByteArray.size_append,b2s_size,List.length_cons,List.length_nil]; omega
       · simp only [ByteArray.size_append,b2s_size,List.length_cons,List.length_nil]
         rw [show 0+1+z.size=z.size+1 by omega,Int.pow_succ,Int.mul_comm (10 ^ z.size) 10,← Int.mul_assoc,Int.mul_comm (a.tdiv 10) 10]
         exact Int.le_trans (Int.mul_le_mul_of_nonneg_right hd hpow) i3
     · right
       exact ⟨z,by simp only [M_ax,decide_eq_false hp,cond_false],i2⟩) N0 (k,⟨#[]⟩) ⟨h0,by show (0:Nat)≤13; omega,by show k * 10 ^ 0≤1000000000000; simpa using h1⟩ (N0_lt (by simp; omega))
    rw [hb]
    simp only [Option.bind_some]
    rw [grd_t (by have:(⟨#[109]⟩:ByteArray).size=1:=rfl; omega)]
    exact ⟨_,rfl⟩
 obtain ⟨r,hr⟩:=this
 unfold txt; rw [hr]; rfl
def z_StringS (xs:(List ByteArray)):Nat:=xs.length+(xs.map fun x=>x.size).sum
def ok_StringS (xs:(List ByteArray)):Prop:=xs.length≤9223372036854775807∧∀ x∈xs,x.size≤9223372036854775807
theorem p_szStringS (xs:(List ByteArray)) (l:Int) (h1:0≤l) (h2:l≤1048576) (hs:ok_StringS xs):M_dr xs l=some (if l - z_StringS xs < 0 then (-1:Int) else l - z_StringS xs):=by
 unfold M_dr
 have hs1:=hs.1
 rw [w64_eq (by omega) (by omega)]
 simp only [cond_ite,decide_eq_true_eq]
 by_cases h:l - (xs.length:Int) < 0
 · rw [if_pos h,if_pos (by unfold z_StringS; omega)]
 · rw [if_neg h,sz_loop (f:=M_s xs) xs (fun x=>x.size) (fun i x l' hx h3 h4=>by
    have hlt:=(List.getElem?_eq_some_iff.1 hx).1
    have h1:decide ((i:Int) < xs.length)=true:=by simp [hlt]
    have hx2:=hs.2 x (List.mem_of_getElem? hx)
    simp only [M_s,h1,cond_true,geti_nat,hx,Option.bind_some,cond_ite,decide_eq_true_eq]
    rw [w64_eq (by omega) (by omega),w64_eq (by omega) (by omega)]
    by_cases h5:l' - (x.size:Int) < 0
    · simp only [if_pos h5,if_true]
    · simp only [if_neg h5,if_true]; rfl) (fun l=>by simp [M_s]) _ (by omega) (by omega) (by omega)]
   have e:l - (xs.length:Int) - ((xs.map fun x=>x.size).sum:Nat)=l - (z_StringS xs:Int):=by unfold z_StringS; omega
   rw [e]
   by_cases h5:l - (z_StringS xs:Int) < 0
   · simp only [if_pos h5,Option.bind_some]
   · simp only [if_neg h5,Option.bind_some]
theorem p_toStringS (xs:(List ByteArray)) (hl:z_StringS xs≤1048576):M_dy xs=some xs:=by
 unfold M_dy
 have hlen:xs.length≤1048576:=by unfold z_StringS at hl; omega
 have key:=fun l0 (h0:l0.length=xs.length)=>iter_copy (f:=M_u xs) xs id l0 h0 (fun i l x y hx hy hll=>by
  have hlt:=(List.getElem?_eq_some_iff.1 hx).1
  have h1:decide ((i:Int) < xs.length)=true:=by simp [hlt]
  have h2:(0≤(i:Int)∧(i:Int) < (l.length:Int)):=by omega
  simp only [M_u,h1,cond_true,geti_nat,hx,Option.bind_some,grd_t h2,Int.toNat_natCast,hy,bnd,id]
  rw [w64_eq (by omega) (by omega)]; rfl) (fun l=>by simp [M_u]) (by omega)
 rw [grd_t (by omega)]
 simp only [Option.bind_some,bnd]
 rw [key _ (by simp)]; simp
theorem p_eqStringS (xs:(List ByteArray)) (hl:z_StringS xs≤1048576):M_ff xs xs=some true:=by
 unfold M_ff
 have hlen:xs.length≤1048576:=by unfold z_StringS at hl; omega
 rw [eq_loop (f:=M_at xs xs) xs (fun i x hx=>by
  have hlt:=(List.getElem?_eq_some_iff.1 hx).1
  have h1:decide ((i:Int) < xs.length)=true:=by simp [hlt]
  simp only [M_at,h1,cond_true,geti_nat,hx,Option.bind_some,beq_self_eq_true,Bool.not_true,cond_false]
  rw [w64_eq (by omega) (by omega)]; rfl) (by simp [M_at]) (by omega)]
 simp
theorem p_toFiber (x:TFiber):M_db x=some x:=by unfold M_db; rfl
theorem p_eqFiber (x:TFiber):M_df x x=some true:=by unfold M_df; simp
def z_FiberS (xs:(List TFiber)):Nat:=xs.length
def ok_FiberS (xs:(List TFiber)):Prop:=xs.length≤9223372036854775807
theorem p_szFiberS (xs:(List TFiber)) (l:Int) (h1:0≤l) (h2:l≤1048576) (hs:ok_FiberS xs):M_ds xs l=some (if l - z_FiberS xs < 0 then (-1:Int) else l - z_FiberS xs):=by
 unfold M_ds
 unfold ok_FiberS at hs
 rw [w64_eq (by omega) (by omega)]
 simp only [cond_ite,decide_eq_true_eq]
 by_cases h:l - (xs.length:Int) < 0
 · rw [if_pos h,if_pos (show l - (z_FiberS xs:Int) < 0 from h)]
 · rw [if_neg h,if_neg (show ¬ l - (z_FiberS xs:Int) < 0 from h)]; rfl
theorem p_toFiberS (xs:(List TFiber)) (hl:z_FiberS xs≤1048576):M_dz xs=some xs:=by
 unfold M_dz
 have hlen:xs.length≤1048576:=by unfold z_FiberS at hl; omega
 have key:=fun l0 (h0:l0.length=xs.length)=>iter_copy (f:=M_v xs) xs id l0 h0 (fun i l x y hx hy hll=>by
  have hlt:=(List.getElem?_eq_some_iff.1 hx).1
  have h1:decide ((i:Int) < xs.length)=true:=by simp [hlt]
  have h2:(0≤(i:Int)∧(i:Int) < (l.length:Int)):=by omega
  have hto:M_db x=some x:=p_toFiber x
  simp only [M_v,h1,cond_true,geti_nat,hx,Option.bind_some,grd_t h2,Int.toNat_natCast,hy,hto,bnd,id]
  rw [w64_eq (by omega) (by omega)]; rfl) (fun l=>by simp [M_v]) (by omega)
 rw [grd_t (by omega)]
 simp only [Option.bind_some,bnd]
 rw [key _ (by simp)]; simp
theorem p_eqFiberS (xs:(List TFiber)) (hl:z_FiberS xs≤1048576):M_fg xs xs=some true:=by
 unfold M_fg
 have hlen:xs.length≤1048576:=by unfold z_FiberS at hl; omega
 rw [eq_loop (f:=M_au xs xs) xs (fun i x hx=>by
  have hlt:=(List.getElem?_eq_some_iff.1 hx).1
  have h1:decide ((i:Int) < xs.length)=true:=by simp [hlt]
  have he:M_df x x=some true:=p_eqFiber x
  simp only [M_au,h1,cond_true,geti_nat,hx,Option.bind_some,he,Bool.not_true,cond_false]
  rw [w64_eq (by omega) (by omega)]; rfl) (by simp [M_au]) (by omega)]
 simp
def z_Network (x:TNetwork):Nat:=z_StringS x.Nodes+z_FiberS x.Fibers
def ok_Network (x:TNetwork):Prop:=ok_StringS x.Nodes∧ok_FiberS x.Fibers
theorem p_szNetwork (x:TNetwork) (l:Int) (h1:0≤l) (h2:l≤1048576) (hs:ok_Network x):M_dt x l=some (if l - z_Network x < 0 then (-1:Int) else l - z_Network x):=by
 unfold M_dt
 obtain ⟨hs0,hs1⟩:=hs
 rw [p_szStringS _ _ (by omega) (by omega) hs0]
 simp only [Option.bind_some]
 by_cases h10:l - (z_StringS x.Nodes:Int) < 0
 · rw [if_pos h10,if_pos (show l - (z_Network x:Int) < 0 by unfold z_Network; omega)]; simp
 · simp only [if_neg h10]
   simp only [h10,decide_false,cond_false]
   rw [p_szFiberS _ _ (by omega) (by omega) hs1]
   simp only [Option.bind_some]
   by_cases h11:l - (z_StringS x.Nodes:Int) - (z_FiberS x.Fibers:Int) < 0
   · rw [if_pos h11,if_pos (show l - (z_Network x:Int) < 0 by unfold z_Network; omega)]; simp
   · simp only [if_neg h11]
     simp only [h11,decide_false,cond_false]
     have e:l - (z_StringS x.Nodes:Int) - (z_FiberS x.Fibers:Int)=l - (z_Network x:Int):=by unfold z_Network; omega
     rw [e,if_neg (by omega)]
theorem p_toNetwork (x:TNetwork) (hl:z_Network x≤1048576):M_ea x=some x:=by
 unfold M_ea
 simp only [p_toStringS x.Nodes (by unfold z_Network at hl; omega),p_toFiberS x.Fibers (by unfold z_Network at hl; omega),Option.bind_some]
theorem p_eqNetwork (x:TNetwork) (hl:z_Network x≤1048576):M_fh x x=some true:=by
 unfold M_fh
 simp [p_eqStringS x.Nodes (by unfold z_Network at hl; omega),p_eqFiberS x.Fibers (by unfold z_Network at hl; omega)]
def z_IntS (xs:(List Int)):Nat:=xs.length
def ok_IntS (xs:(List Int)):Prop:=xs.length≤9223372036854775807
theorem p_szIntS (xs:(List Int)) (l:Int) (h1:0≤l) (h2:l≤1048576) (hs:ok_IntS xs):M_cg xs l=some (if l - z_IntS xs < 0 then (-1:Int) else l - z_IntS xs):=by
 unfold M_cg
 unfold ok_IntS at hs
 rw [w64_eq (by omega) (by omega)]
 simp only [cond_ite,decide_eq_true_eq]
 by_cases h:l - (xs.length:Int) < 0
 · rw [if_pos h,if_pos (show l - (z_IntS xs:Int) < 0 from h)]
 · rw [if_neg h,if_neg (show ¬ l - (z_IntS xs:Int) < 0 from h)]; rfl
theorem p_toIntS (xs:(List Int)) (hl:z_IntS xs≤1048576):M_bj xs=some xs:=by
 unfold M_bj
 have hlen:xs.length≤1048576:=by unfold z_IntS at hl; omega
 have key:=fun l0 (h0:l0.length=xs.length)=>iter_copy (f:=M_w xs) xs id l0 h0 (fun i l x y hx hy hll=>by
  have hlt:=(List.getElem?_eq_some_iff.1 hx).1
  have h1:decide ((i:Int) < xs.length)=true:=by simp [hlt]
  have h2:(0≤(i:Int)∧(i:Int) < (l.length:Int)):=by omega
  simp only [M_w,h1,cond_true,geti_nat,hx,Option.bind_some,grd_t h2,Int.toNat_natCast,hy,bnd,id]
  rw [w64_eq (by omega) (by omega)]; rfl) (fun l=>by simp [M_w]) (by omega)
 rw [grd_t (by omega)]
 simp only [Option.bind_some,bnd]
 rw [key _ (by simp)]; simp
theorem p_eqIntS (xs:(List Int)) (hl:z_IntS xs≤1048576):M_bk xs xs=some true:=by
 unfold M_bk
 have hlen:xs.length≤1048576:=by unfold z_IntS at hl; omega
 rw [eq_loop (f:=M_av xs xs) xs (fun i x hx=>by
  have hlt:=(List.getElem?_eq_some_iff.1 hx).1
  have h1:decide ((i:Int) < xs.length)=true:=by simp [hlt]
  simp only [M_av,h1,cond_true,geti_nat,hx,Option.bind_some,bne_self_eq_false,cond_false]
  rw [w64_eq (by omega) (by omega)]; rfl) (by simp [M_av]) (by omega)]
 simp
def z_Route (x:TRoute):Nat:=z_IntS x.Fibers
def ok_Route (x:TRoute):Prop:=ok_IntS x.Fibers
theorem p_szRoute (x:TRoute) (l:Int) (h1:0≤l) (h2:l≤1048576) (hs:ok_Route x):M_du x l=some (if l - z_Route x < 0 then (-1:Int) else l - z_Route x):=by
 unfold M_du
 have hs0:ok_IntS x.Fibers:=hs
 rw [p_szIntS _ _ (by omega) (by omega) hs0]
 simp only [Option.bind_some]
 by_cases h10:l - (z_IntS x.Fibers:Int) < 0
 · rw [if_pos h10,if_pos (show l - (z_Route x:Int) < 0 by unfold z_Route; omega)]; simp
 · simp only [if_neg h10]
   simp only [h10,decide_false,cond_false]
   have e:l - (z_IntS x.Fibers:Int)=l - (z_Route x:Int):=by unfold z_Route; omega
   rw [e,if_neg (by omega)]
theorem p_toRoute (x:TRoute) (hl:z_Route x≤1048576):M_eb x=some x:=by
 unfold M_eb
 simp only [p_toIntS x.Fibers (by unfold z_Route at hl; omega),Option.bind_some]
theorem p_eqRoute (x:TRoute) (hl:z_Route x≤1048576):M_fi x x=some true:=by
 unfold M_fi
 simp [p_eqIntS x.Fibers (by unfold z_Route at hl; omega)]
theorem p_toBlock (x:TBlock):M_ec x=some x:=by unfold M_ec; rfl
theorem p_eqBlock (x:TBlock):M_fj x x=some true:=by unfold M_fj; simp
def z_Light (x:TLight):Nat:=z_Route x.Route
def ok_Light (x:TLight):Prop:=ok_Route x.Route
theorem p_szLight (x:TLight) (l:Int) (h1:0≤l) (h2:l≤1048576) (hs:ok_Light x):M_dv x l=some (if l - z_Light x < 0 then (-1:Int) else l - z_Light x):=by
 unfold M_dv
 have hs0:ok_Route x.Route:=hs
 rw [p_szRoute _ _ (by omega) (by omega) hs0]
 simp only [Option.bind_some]
 by_cases h10:l - (z_Route x.Route:Int) < 0
 · rw [if_pos h10,if_pos (show l - (z_Light x:Int) < 0 by unfold z_Light; omega)]; simp
 · simp only [if_neg h10]
   simp only [h10,decide_false,cond_false]
   have e:l - (z_Route x.Route:Int)=l - (z_Light x:Int):=by unfold z_Light; omega
   rw [e,if_neg (by omega)]
theorem p_toLight (x:TLight) (hl:z_Light x≤1048576):M_dc x=some x:=by
 unfold M_dc
 simp only [p_toRoute x.Route (by unfold z_Light at hl; omega),p_toBlock x.Block,Option.bind_some]
theorem p_eqLight (x:TLight) (hl:z_Light x≤1048576):M_dg x x=some true:=by
 unfold M_dg
 simp [p_eqRoute x.Route (by unfold z_Light at hl; omega),p_eqBlock x.Block]
def z_LightS (xs:(List TLight)):Nat:=xs.length+(xs.map fun x=>z_Light x).sum
def ok_LightS (xs:(List TLight)):Prop:=xs.length≤9223372036854775807∧∀ x∈xs,ok_Light x
theorem p_szLightS (xs:(List TLight)) (l:Int) (h1:0≤l) (h2:l≤1048576) (hs:ok_LightS xs):M_ch xs l=some (if l - z_LightS xs < 0 then (-1:Int) else l - z_LightS xs):=by
 unfold M_ch
 have hs1:=hs.1
 rw [w64_eq (by omega) (by omega)]
 simp only [cond_ite,decide_eq_true_eq]
 by_cases h:l - (xs.length:Int) < 0
 · rw [if_pos h,if_pos (by unfold z_LightS; omega)]
 · rw [if_neg h,sz_loop (f:=M_t xs) xs (fun x=>z_Light x) (fun i x l' hx h3 h4=>by
    have hlt:=(List.getElem?_eq_some_iff.1 hx).1
    have h1:decide ((i:Int) < xs.length)=true:=by simp [hlt]
    simp only [M_t,h1,cond_true,geti_nat,hx,Option.bind_some,p_szLight x l' h3 h4 (hs.2 x (List.mem_of_getElem? hx)),cond_ite,decide_eq_true_eq]
    rw [w64_eq (by omega) (by omega)]
    by_cases h5:l' - (z_Light x:Int) < 0
    · simp only [if_pos h5,if_true,Int.reduceNeg,Int.reduceLT]
    · simp only [if_neg h5,if_true]; rfl) (fun l=>by simp [M_t]) _ (by omega) (by omega) (by omega)]
   have e:l - (xs.length:Int) - ((xs.map fun x=>z_Light x).sum:Nat)=l - (z_LightS xs:Int):=by unfold z_LightS; omega
   rw [e]
   by_cases h5:l - (z_LightS xs:Int) < 0
   · simp only [if_pos h5,Option.bind_some]
   · simp only [if_neg h5,Option.bind_some]
theorem p_toLightS (xs:(List TLight)) (hl:z_LightS xs≤1048576):M_ci xs=some xs:=by
 unfold M_ci
 have hlen:xs.length≤1048576:=by unfold z_LightS at hl; omega
 have key:=fun l0 (h0:l0.length=xs.length)=>iter_copy (f:=M_x xs) xs id l0 h0 (fun i l x y hx hy hll=>by
  have hlt:=(List.getElem?_eq_some_iff.1 hx).1
  have h1:decide ((i:Int) < xs.length)=true:=by simp [hlt]
  have h2:(0≤(i:Int)∧(i:Int) < (l.length:Int)):=by omega
  have hto:M_dc x=some x:=p_toLight x (by have:=sum_ge (fun x=>z_Light x) hx; unfold z_LightS at hl; omega)
  simp only [M_x,h1,cond_true,geti_nat,hx,Option.bind_some,grd_t h2,Int.toNat_natCast,hy,hto,bnd,id]
  rw [w64_eq (by omega) (by omega)]; rfl) (fun l=>by simp [M_x]) (by omega)
 rw [grd_t (by omega)]
 simp only [Option.bind_some,bnd]
 rw [key _ (by simp)]; simp
theorem p_eqLightS (xs:(List TLight)) (hl:z_LightS xs≤1048576):M_cy xs xs=some true:=by
 unfold M_cy
 have hlen:xs.length≤1048576:=by unfold z_LightS at hl; omega
 rw [eq_loop (f:=M_aw xs xs) xs (fun i x hx=>by
  have hlt:=(List.getElem?_eq_some_iff.1 hx).1
  have h1:decide ((i:Int) < xs.length)=true:=by simp [hlt]
  have he:M_dg x x=some true:=p_eqLight x (by have:=sum_ge (fun x=>z_Light x) hx; unfold z_LightS at hl; omega)
  simp only [M_aw,h1,cond_true,geti_nat,hx,Option.bind_some,he,Bool.not_true,cond_false]
  rw [w64_eq (by omega) (by omega)]; rfl) (by simp [M_aw]) (by omega)]
 simp
def z_Plan (x:TPlan):Nat:=z_Network x.Network+z_LightS x.Lights
def ok_Plan (x:TPlan):Prop:=ok_Network x.Network∧ok_LightS x.Lights
theorem p_szPlan (x:TPlan) (l:Int) (h1:0≤l) (h2:l≤1048576) (hs:ok_Plan x):M_dw x l=some (if l - z_Plan x < 0 then (-1:Int) else l - z_Plan x):=by
 unfold M_dw
 obtain ⟨hs0,hs1⟩:=hs
 rw [p_szNetwork _ _ (by omega) (by omega) hs0]
 simp only [Option.bind_some]
 by_cases h10:l - (z_Network x.Network:Int) < 0
 · rw [if_pos h10,if_pos (show l - (z_Plan x:Int) < 0 by unfold z_Plan; omega)]; simp
 · simp only [if_neg h10]
   simp only [h10,decide_false,cond_false]
   rw [p_szLightS _ _ (by omega) (by omega) hs1]
   simp only [Option.bind_some]
   by_cases h11:l - (z_Network x.Network:Int) - (z_LightS x.Lights:Int) < 0
   · rw [if_pos h11,if_pos (show l - (z_Plan x:Int) < 0 by unfold z_Plan; omega)]; simp
   · simp only [if_neg h11]
     simp only [h11,decide_false,cond_false]
     have e:l - (z_Network x.Network:Int) - (z_LightS x.Lights:Int)=l - (z_Plan x:Int):=by unfold z_Plan; omega
     rw [e,if_neg (by omega)]
theorem p_toPlan (x:TPlan) (hl:z_Plan x≤1048576):M_ed x=some x:=by
 unfold M_ed
 simp only [p_toNetwork x.Network (by unfold z_Plan at hl; omega),p_toLightS x.Lights (by unfold z_Plan at hl; omega),Option.bind_some]
theorem p_eqPlan (x:TPlan) (hl:z_Plan x≤1048576):M_fk x x=some true:=by
 unfold M_fk
 simp [p_eqNetwork x.Network (by unfold z_Plan at hl; omega),p_eqLightS x.Lights (by unfold z_Plan at hl; omega)]
def z_Restoration (x:TRestoration):Nat:=z_Plan x.Plan+z_LightS x.Home+z_IntS x.Down
def ok_Restoration (x:TRestoration):Prop:=ok_Plan x.Plan∧ok_LightS x.Home∧ok_IntS x.Down
theorem p_szRestoration (x:TRestoration) (l:Int) (h1:0≤l) (h2:l≤1048576) (hs:ok_Restoration x):M_dx x l=some (if l - z_Restoration x < 0 then (-1:Int) else l - z_Restoration x):=by
 unfold M_dx
 obtain ⟨hs0,hs1,hs2⟩:=hs
 rw [p_szPlan _ _ (by omega) (by omega) hs0]
 simp only [Option.bind_some]
 by_cases h10:l - (z_Plan x.Plan:Int) < 0
 · rw [if_pos h10,if_pos (show l - (z_Restoration x:Int) < 0 by unfold z_Restoration; omega)]; simp
 · simp only [if_neg h10]
   simp only [h10,decide_false,cond_false]
   rw [p_szLightS _ _ (by omega) (by omega) hs1]
   simp only [Option.bind_some]
   by_cases h11:l - (z_Plan x.Plan:Int) - (z_LightS x.Home:Int) < 0
   · rw [if_pos h11,if_pos (show l - (z_Restoration x:Int) < 0 by unfold z_Restoration; omega)]; simp
   · simp only [if_neg h11]
     simp only [h11,decide_false,cond_false]
     rw [p_szIntS _ _ (by omega) (by omega) hs2]
     simp only [Option.bind_some]
     by_cases h12:l - (z_Plan x.Plan:Int) - (z_LightS x.Home:Int) - (z_IntS x.Down:Int) < 0
     · rw [if_pos h12,if_pos (show l - (z_Restoration x:Int) < 0 by unfold z_Restoration; omega)]; simp
     · simp only [if_neg h12]
       simp only [h12,decide_false,cond_false]
       have e:l - (z_Plan x.Plan:Int) - (z_LightS x.Home:Int) - (z_IntS x.Down:Int)=l - (z_Restoration x:Int):=by unfold z_Restoration; omega
       rw [e,if_neg (by omega)]
theorem p_toRestoration (x:TRestoration) (hl:z_Restoration x≤1048576):M_bn x=some x:=by
 unfold M_bn
 simp only [p_toPlan x.Plan (by unfold z_Restoration at hl; omega),p_toLightS x.Home (by unfold z_Restoration at hl; omega),p_toIntS x.Down (by unfold z_Restoration at hl; omega),Option.bind_some]
theorem p_eqRestoration (x:TRestoration) (hl:z_Restoration x≤1048576):M_bp x x=some true:=by
 unfold M_bp
 simp [p_eqPlan x.Plan (by unfold z_Restoration at hl; omega),p_eqLightS x.Home (by unfold z_Restoration at hl; omega),p_eqIntS x.Down (by unfold z_Restoration at hl; omega)]
def mk_StringS (k:Int) (_:ByteArray):Int×ByteArray:=(k+1,txt k)
def w_c (_:ByteArray):Nat:=1
theorem hw_StringS (k:Int) (x:ByteArray):(mk_StringS k x).1=k+(w_c x:Int):=rfl
theorem w_gc (xs:(List ByteArray)):(xs.map w_c).sum≤16 * z_StringS xs:=by
 unfold z_StringS
 induction xs with
 | nil=>simp
 | cons x xs ih=>simp only [List.map_cons,List.sum_cons,List.length_cons,w_c] at ih ⊢; omega
theorem p_markStringS (xs:(List ByteArray)) (k0:Int) (hk:0≤k0) (hK:k0+((xs.map w_c).sum:Nat)≤1000000000000) (hl:z_StringS xs≤1048576):M_fl k0 xs=some (markL mk_StringS k0 xs):=by
 unfold M_fl
 have hlen:xs.length≤1048576:=by unfold z_StringS at hl; omega
 rw [mark_loop (f:=M_ay) xs mk_StringS w_c hw_StringS 1000000000000 (fun i x k l hll hi hx hli h0 hK2=>by
  have hw1:w_c x=w_c x:=rfl
  have h1:decide ((i:Int) < (l.length:Int))=true:=decide_eq_true (by omega)
  have h2:0≤(i:Int)∧(i:Int) < (l.length:Int):=by omega
  simp only [M_ay,h1,cond_true,grd_t h2,Option.bind_some,Int.toNat_natCast,hli,bnd,p_markText k h0 (by omega)]
  rw [w64_eq (n:=k+1) (by unfold w_c at hK2; omega) (by unfold w_c at hK2; omega),w64_eq (n:=(i:Int)+1) (by unfold w_c at hK2; omega) (by unfold w_c at hK2; omega)]
  rfl) (fun k l hll=>by simp [M_ay,hll]) k0 hk hK (by omega)]
 rfl
theorem p_heldStringS (xs:(List ByteArray)) (k0:Int) (hk:0≤k0) (hK:k0+((xs.map w_c).sum:Nat)≤1000000000000) (hl:z_StringS xs≤1048576):M_di (markL mk_StringS k0 xs).2 k0=some (markL mk_StringS k0 xs).1:=by
 unfold M_di
 have hlen:xs.length≤1048576:=by unfold z_StringS at hl; omega
 rw [held_loop (f:=M_bc (markL mk_StringS k0 xs).2) xs mk_StringS w_c hw_StringS 1000000000000 k0 (fun i x k hx hm h0 hK2=>by
  have hi:=(List.getElem?_eq_some_iff.1 hx).1
  have h1:decide ((i:Int) < ((markL mk_StringS k0 xs).2.length:Int))=true:=decide_eq_true (by rw [markL_len]; omega)
  simp only [M_bc,h1,cond_true,geti_nat,hm,Option.bind_some,mk_StringS,p_markText k h0 (by omega),beq_self_eq_true,Bool.not_true,cond_false]
  rw [w64_eq (n:=k+1) (by unfold w_c at hK2; omega) (by unfold w_c at hK2; omega),w64_eq (n:=(i:Int)+1) (by unfold w_c at hK2; omega) (by unfold w_c at hK2; omega)]
  rfl) (fun k=>by simp [M_bc,markL_len]) hk hK (by omega)]
 rfl
def mk_FiberS (k:Int) (_:TFiber):Int×TFiber:=(k+4,⟨k,k+1,k+2,k+3⟩)
def w_a (_:TFiber):Nat:=4
theorem hw_FiberS (k:Int) (x:TFiber):(mk_FiberS k x).1=k+(w_a x:Int):=rfl
theorem w_gd (xs:(List TFiber)):(xs.map w_a).sum≤16 * z_FiberS xs:=by
 unfold z_FiberS
 induction xs with
 | nil=>simp
 | cons x xs ih=>simp only [List.map_cons,List.sum_cons,List.length_cons,w_a] at ih ⊢; omega
theorem p_markFiberS (xs:(List TFiber)) (k0:Int) (hk:0≤k0) (hK:k0+((xs.map w_a).sum:Nat)≤1000000000000) (hl:z_FiberS xs≤1048576):M_fm k0 xs=some (markL mk_FiberS k0 xs):=by
 unfold M_fm
 have hlen:xs.length≤1048576:=by unfold z_FiberS at hl; omega
 rw [mark_loop (f:=M_az) xs mk_FiberS w_a hw_FiberS 1000000000000 (fun i x k l hll hi hx hli h0 hK2=>by
  have hw1:w_a x=w_a x:=rfl
  have h1:decide ((i:Int) < (l.length:Int))=true:=decide_eq_true (by omega)
  have h2:0≤(i:Int)∧(i:Int) < (l.length:Int):=by omega
  simp only [M_az,h1,cond_true,grd_t h2,Option.bind_some,Int.toNat_natCast,hli,bnd,List.getElem?_set_self (show i < l.length by omega),List.set_set]
  rw [w64_eq (n:=k+1) (by unfold w_a at hK2; omega) (by unfold w_a at hK2; omega),w64_eq (n:=k+1+1) (by unfold w_a at hK2; omega) (by unfold w_a at hK2; omega),w64_eq (n:=k+1+1+1) (by unfold w_a at hK2; omega) (by unfold w_a at hK2; omega),w64_eq (n:=k+1+1+1+1) (by unfold w_a at hK2; omega) (by unfold w_a at hK2; omega),w64_eq (n:=(i:Int)+1) (by unfold w_a at hK2; omega) (by unfold w_a at hK2; omega)]
  simp only [Int.add_assoc,Int.reduceAdd,mk_FiberS]
  rfl) (fun k l hll=>by simp [M_az,hll]) k0 hk hK (by omega)]
 rfl
theorem p_heldFiberS (xs:(List TFiber)) (k0:Int) (hk:0≤k0) (hK:k0+((xs.map w_a).sum:Nat)≤1000000000000) (hl:z_FiberS xs≤1048576):M_dj (markL mk_FiberS k0 xs).2 k0=some (markL mk_FiberS k0 xs).1:=by
 unfold M_dj
 have hlen:xs.length≤1048576:=by unfold z_FiberS at hl; omega
 rw [held_loop (f:=M_bd (markL mk_FiberS k0 xs).2) xs mk_FiberS w_a hw_FiberS 1000000000000 k0 (fun i x k hx hm h0 hK2=>by
  have hi:=(List.getElem?_eq_some_iff.1 hx).1
  have h1:decide ((i:Int) < ((markL mk_FiberS k0 xs).2.length:Int))=true:=decide_eq_true (by rw [markL_len]; omega)
  simp only [M_bd,h1,cond_true,geti_nat,hm,Option.bind_some,mk_FiberS]
  rw [w64_eq (n:=k+1) (by unfold w_a at hK2; omega) (by unfold w_a at hK2; omega),w64_eq (n:=k+1+1) (by unfold w_a at hK2; omega) (by unfold w_a at hK2; omega),w64_eq (n:=k+1+1+1) (by unfold w_a at hK2; omega) (by unfold w_a at hK2; omega),w64_eq (n:=k+1+1+1+1) (by unfold w_a at hK2; omega) (by unfold w_a at hK2; omega),w64_eq (n:=(i:Int)+1) (by unfold w_a at hK2; omega) (by unfold w_a at hK2; omega)]
  simp only [Int.add_assoc,Int.reduceAdd,bne_self_eq_false,cond_false]
  rfl) (fun k=>by simp [M_bd,markL_len]) hk hK (by omega)]
 rfl
def mkr_Network (k:Int) (x:TNetwork):Int×List ByteArray×List TFiber:=((markL mk_FiberS (markL mk_StringS k x.Nodes).1 x.Fibers).1,(markL mk_StringS k x.Nodes).2,(markL mk_FiberS (markL mk_StringS k x.Nodes).1 x.Fibers).2)
def wr_Network (x:TNetwork):Nat:=(x.Nodes.map w_c).sum+(x.Fibers.map w_a).sum
def mks_Network (k:Int) (x:TNetwork):TNetwork:=⟨(markL mk_StringS k x.Nodes).2,(markL mk_FiberS (markL mk_StringS k x.Nodes).1 x.Fibers).2⟩
theorem p_markNetwork (x:TNetwork) (k0:Int) (hk:0≤k0) (hK:k0+(wr_Network x:Int)≤1000000000000) (hl:z_Network x≤1048576):M_fn k0 x.Nodes x.Fibers=some (mkr_Network k0 x):=by
 unfold M_fn
 unfold wr_Network at hK
 have hz:z_Network x=z_StringS x.Nodes+z_FiberS x.Fibers:=by unfold z_Network; omega
 have f0:=markL_fst mk_StringS w_c hw_StringS x.Nodes k0
 have f1:=markL_fst mk_FiberS w_a hw_FiberS x.Fibers ((markL mk_StringS k0 x.Nodes).1)
 rw [p_markStringS x.Nodes k0 (by omega) (by omega) (by omega)]
 simp only [Option.bind_some]
 rw [p_markFiberS x.Fibers ((markL mk_StringS k0 x.Nodes).1) (by omega) (by omega) (by omega)]
 simp only [Option.bind_some]
 rfl
theorem p_heldNetwork (x:TNetwork) (k0:Int) (hk:0≤k0) (hK:k0+(wr_Network x:Int)≤1000000000000) (hl:z_Network x≤1048576):M_dk (mks_Network k0 x) k0=some (mkr_Network k0 x).1:=by
 unfold wr_Network at hK
 have hz:z_Network x=z_StringS x.Nodes+z_FiberS x.Fibers:=by unfold z_Network; omega
 have f0:=markL_fst mk_StringS w_c hw_StringS x.Nodes k0
 have f1:=markL_fst mk_FiberS w_a hw_FiberS x.Fibers ((markL mk_StringS k0 x.Nodes).1)
 have h0:M_di (mks_Network k0 x).Nodes k0=some (markL mk_StringS k0 x.Nodes).1:=p_heldStringS x.Nodes k0 (by omega) (by omega) (by omega)
 have n0:decide ((markL mk_StringS k0 x.Nodes).1 < 0)=false:=decide_eq_false (by omega)
 have h1:M_dj (mks_Network k0 x).Fibers ((markL mk_StringS k0 x.Nodes).1)=some (markL mk_FiberS (markL mk_StringS k0 x.Nodes).1 x.Fibers).1:=p_heldFiberS x.Fibers ((markL mk_StringS k0 x.Nodes).1) (by omega) (by omega) (by omega)
 have n1:decide ((markL mk_FiberS (markL mk_StringS k0 x.Nodes).1 x.Fibers).1 < 0)=false:=decide_eq_false (by omega)
 unfold M_dk
 simp only [h0,n0,h1,n1,Option.bind_some,cond_false]
 rfl
def mk_IntS (k:Int) (_:Int):Int×Int:=(k+1,k)
def w_IntS (_:Int):Nat:=1
theorem hw_IntS (k:Int) (x:Int):(mk_IntS k x).1=k+(w_IntS x:Int):=rfl
theorem w_fz (xs:(List Int)):(xs.map w_IntS).sum≤16 * z_IntS xs:=by
 unfold z_IntS
 induction xs with
 | nil=>simp
 | cons x xs ih=>simp only [List.map_cons,List.sum_cons,List.length_cons,w_IntS] at ih ⊢; omega
theorem p_markIntS (xs:(List Int)) (k0:Int) (hk:0≤k0) (hK:k0+((xs.map w_IntS).sum:Nat)≤1000000000000) (hl:z_IntS xs≤1048576):M_bq k0 xs=some (markL mk_IntS k0 xs):=by
 unfold M_bq
 have hlen:xs.length≤1048576:=by unfold z_IntS at hl; omega
 rw [mark_loop (f:=M_ba) xs mk_IntS w_IntS hw_IntS 1000000000000 (fun i x k l hll hi hx hli h0 hK2=>by
  have hw1:w_IntS x=w_IntS x:=rfl
  have h1:decide ((i:Int) < (l.length:Int))=true:=decide_eq_true (by omega)
  have h2:0≤(i:Int)∧(i:Int) < (l.length:Int):=by omega
  simp only [M_ba,h1,cond_true,grd_t h2,Option.bind_some,Int.toNat_natCast,hli,bnd]
  rw [w64_eq (n:=k+1) (by unfold w_IntS at hK2; omega) (by unfold w_IntS at hK2; omega),w64_eq (n:=(i:Int)+1) (by unfold w_IntS at hK2; omega) (by unfold w_IntS at hK2; omega)]
  rfl) (fun k l hll=>by simp [M_ba,hll]) k0 hk hK (by omega)]
 rfl
theorem p_heldIntS (xs:(List Int)) (k0:Int) (hk:0≤k0) (hK:k0+((xs.map w_IntS).sum:Nat)≤1000000000000) (hl:z_IntS xs≤1048576):M_bl (markL mk_IntS k0 xs).2 k0=some (markL mk_IntS k0 xs).1:=by
 unfold M_bl
 have hlen:xs.length≤1048576:=by unfold z_IntS at hl; omega
 rw [held_loop (f:=M_be (markL mk_IntS k0 xs).2) xs mk_IntS w_IntS hw_IntS 1000000000000 k0 (fun i x k hx hm h0 hK2=>by
  have hi:=(List.getElem?_eq_some_iff.1 hx).1
  have h1:decide ((i:Int) < ((markL mk_IntS k0 xs).2.length:Int))=true:=decide_eq_true (by rw [markL_len]; omega)
  simp only [M_be,h1,cond_true,geti_nat,hm,Option.bind_some,mk_IntS,bne_self_eq_false,cond_false]
  rw [w64_eq (n:=k+1) (by unfold w_IntS at hK2; omega) (by unfold w_IntS at hK2; omega),w64_eq (n:=(i:Int)+1) (by unfold w_IntS at hK2; omega) (by unfold w_IntS at hK2; omega)]
  rfl) (fun k=>by simp [M_be,markL_len]) hk hK (by omega)]
 rfl
def mk_LightS (k:Int) (x:TLight):Int×TLight:=((markL mk_IntS (k+1+1) x.Route.Fibers).1+1+1,⟨k,⟨k+1,(markL mk_IntS (k+1+1) x.Route.Fibers).2⟩,⟨(markL mk_IntS (k+1+1) x.Route.Fibers).1,(markL mk_IntS (k+1+1) x.Route.Fibers).1+1⟩⟩)
def w_r (x:TLight):Nat:=4+(x.Route.Fibers.map w_IntS).sum
theorem hw_LightS (k:Int) (x:TLight):(mk_LightS k x).1=k+(w_r x:Int):=by
 unfold mk_LightS w_r
 simp only [markL_fst mk_IntS w_IntS hw_IntS]
 omega
theorem w_gb (xs:(List TLight)):(xs.map w_r).sum≤16 * z_LightS xs:=by
 unfold z_LightS
 induction xs with
 | nil=>simp
 | cons x xs ih =>
   have t0:=w_fz x.Route.Fibers
   simp only [z_IntS] at t0
   simp only [List.map_cons,List.sum_cons,List.length_cons,w_r,z_Light,z_Route,z_IntS] at ih ⊢
   omega
theorem p_markLightS (xs:(List TLight)) (k0:Int) (hk:0≤k0) (hK:k0+((xs.map w_r).sum:Nat)≤1000000000000) (hl:z_LightS xs≤1048576):M_bv k0 xs=some (markL mk_LightS k0 xs):=by
 unfold M_bv
 have hlen:xs.length≤1048576:=by unfold z_LightS at hl; omega
 rw [mark_loop (f:=M_bb) xs mk_LightS w_r hw_LightS 1000000000000 (fun i x k l hll hi hx hli h0 hK2=>by
  have hw1:w_r x=w_r x:=rfl
  have h1:decide ((i:Int) < (l.length:Int))=true:=decide_eq_true (by omega)
  have h2:0≤(i:Int)∧(i:Int) < (l.length:Int):=by omega
  have hb:z_Light x≤1048576:=by have:=sum_ge (fun x=>z_Light x) hx; unfold z_LightS at hl; omega
  unfold z_Light z_Route z_IntS at hb
  unfold w_r at hK2
  simp only [M_bb,h1,cond_true,grd_t h2,Option.bind_some,Int.toNat_natCast,hli,bnd,List.getElem?_set_self (show i < l.length by omega),List.set_set]
  rw [w64_eq (n:=k+1) (by omega) (by omega),w64_eq (n:=k+1+1) (by omega) (by omega)]
  have f0:=markL_fst mk_IntS w_IntS hw_IntS x.Route.Fibers (k+1+1)
  have g0:=w_fz x.Route.Fibers
  unfold z_IntS at g0
  rw [p_markIntS x.Route.Fibers (k+1+1) (by omega) (by omega) (by unfold z_IntS; omega)]
  simp only [Option.bind_some,List.getElem?_set_self (show i < l.length by omega),List.set_set]
  rw [w64_eq (n:=(markL mk_IntS (k+1+1) x.Route.Fibers).1+1) (by omega) (by omega),w64_eq (n:=(markL mk_IntS (k+1+1) x.Route.Fibers).1+1+1) (by omega) (by omega)]
  rw [w64_eq (n:=(i:Int)+1) (by omega) (by omega)]
  rfl) (fun k l hll=>by simp [M_bb,hll]) k0 hk hK (by omega)]
 rfl
theorem p_heldLightS (xs:(List TLight)) (k0:Int) (hk:0≤k0) (hK:k0+((xs.map w_r).sum:Nat)≤1000000000000) (hl:z_LightS xs≤1048576):M_bx (markL mk_LightS k0 xs).2 k0=some (markL mk_LightS k0 xs).1:=by
 unfold M_bx
 have hlen:xs.length≤1048576:=by unfold z_LightS at hl; omega
 rw [held_loop (f:=M_bf (markL mk_LightS k0 xs).2) xs mk_LightS w_r hw_LightS 1000000000000 k0 (fun i x k hx hm h0 hK2=>by
  have hi:=(List.getElem?_eq_some_iff.1 hx).1
  have h1:decide ((i:Int) < ((markL mk_LightS k0 xs).2.length:Int))=true:=decide_eq_true (by rw [markL_len]; omega)
  have hb:z_Light x≤1048576:=by have:=sum_ge (fun x=>z_Light x) hx; unfold z_LightS at hl; omega
  unfold z_Light z_Route z_IntS at hb
  unfold w_r at hK2
  simp only [M_bf,h1,cond_true,geti_nat,hm,Option.bind_some,mk_LightS]
  rw [w64_eq (n:=k+1) (by omega) (by omega),w64_eq (n:=k+1+1) (by omega) (by omega)]
  have f0:=markL_fst mk_IntS w_IntS hw_IntS x.Route.Fibers (k+1+1)
  have g0:=w_fz x.Route.Fibers
  unfold z_IntS at g0
  have hh0:M_bl (markL mk_IntS (k+1+1) x.Route.Fibers).2 (k+1+1)=some (markL mk_IntS (k+1+1) x.Route.Fibers).1:=p_heldIntS x.Route.Fibers (k+1+1) (by omega) (by omega) (by unfold z_IntS; omega)
  have hn0:decide ((markL mk_IntS (k+1+1) x.Route.Fibers).1 < 0)=false:=decide_eq_false (by omega)
  simp only [bne_self_eq_false,cond_false,hh0,Option.bind_some,hn0]
  rw [w64_eq (n:=(markL mk_IntS (k+1+1) x.Route.Fibers).1+1) (by omega) (by omega),w64_eq (n:=(markL mk_IntS (k+1+1) x.Route.Fibers).1+1+1) (by omega) (by omega)]
  rw [w64_eq (n:=(i:Int)+1) (by omega) (by omega)]
  simp only [bne_self_eq_false,cond_false]
  rfl) (fun k=>by simp [M_bf,markL_len]) hk hK (by omega)]
 rfl
def mkr_Plan (k:Int) (x:TPlan):Int×List ByteArray×List TFiber×List TLight:=((markL mk_LightS (markL mk_FiberS (markL mk_StringS k x.Network.Nodes).1 x.Network.Fibers).1 x.Lights).1,(markL mk_StringS k x.Network.Nodes).2,(markL mk_FiberS (markL mk_StringS k x.Network.Nodes).1 x.Network.Fibers).2,(markL mk_LightS (markL mk_FiberS (markL mk_StringS k x.Network.Nodes).1 x.Network.Fibers).1 x.Lights).2)
def wr_Plan (x:TPlan):Nat:=(x.Network.Nodes.map w_c).sum+(x.Network.Fibers.map w_a).sum+(x.Lights.map w_r).sum
def mks_Plan (k:Int) (x:TPlan):TPlan:=⟨⟨(markL mk_StringS k x.Network.Nodes).2,(markL mk_FiberS (markL mk_StringS k x.Network.Nodes).1 x.Network.Fibers).2⟩,(markL mk_LightS (markL mk_FiberS (markL mk_StringS k x.Network.Nodes).1 x.Network.Fibers).1 x.Lights).2⟩
theorem p_markPlan (x:TPlan) (k0:Int) (hk:0≤k0) (hK:k0+(wr_Plan x:Int)≤1000000000000) (hl:z_Plan x≤1048576):M_dh k0 x.Network.Nodes x.Network.Fibers x.Lights=some (mkr_Plan k0 x):=by
 unfold M_dh
 unfold wr_Plan at hK
 have hz:z_Plan x=z_StringS x.Network.Nodes+z_FiberS x.Network.Fibers+z_LightS x.Lights:=by unfold z_Plan z_Network; omega
 have f0:=markL_fst mk_StringS w_c hw_StringS x.Network.Nodes k0
 have f1:=markL_fst mk_FiberS w_a hw_FiberS x.Network.Fibers ((markL mk_StringS k0 x.Network.Nodes).1)
 have f2:=markL_fst mk_LightS w_r hw_LightS x.Lights ((markL mk_FiberS (markL mk_StringS k0 x.Network.Nodes).1 x.Network.Fibers).1)
 rw [p_markNetwork x.Network k0 (by omega) (by unfold wr_Network; omega) (by unfold z_Network; omega)]
 simp only [Option.bind_some,mkr_Network]
 rw [p_markLightS x.Lights ((markL mk_FiberS (markL mk_StringS k0 x.Network.Nodes).1 x.Network.Fibers).1) (by omega) (by omega) (by omega)]
 simp only [Option.bind_some]
 rfl
theorem p_heldPlan (x:TPlan) (k0:Int) (hk:0≤k0) (hK:k0+(wr_Plan x:Int)≤1000000000000) (hl:z_Plan x≤1048576):M_dl (mks_Plan k0 x) k0=some (mkr_Plan k0 x).1:=by
 unfold wr_Plan at hK
 have hz:z_Plan x=z_StringS x.Network.Nodes+z_FiberS x.Network.Fibers+z_LightS x.Lights:=by unfold z_Plan z_Network; omega
 have f0:=markL_fst mk_StringS w_c hw_StringS x.Network.Nodes k0
 have f1:=markL_fst mk_FiberS w_a hw_FiberS x.Network.Fibers ((markL mk_StringS k0 x.Network.Nodes).1)
 have f2:=markL_fst mk_LightS w_r hw_LightS x.Lights ((markL mk_FiberS (markL mk_StringS k0 x.Network.Nodes).1 x.Network.Fibers).1)
 have h0:M_dk (⟨(mks_Plan k0 x).Network.Nodes,(mks_Plan k0 x).Network.Fibers⟩:TNetwork) k0=some (markL mk_FiberS (markL mk_StringS k0 x.Network.Nodes).1 x.Network.Fibers).1:=p_heldNetwork x.Network k0 (by omega) (by unfold wr_Network; omega) (by unfold z_Network; omega)
 have n0:decide ((markL mk_FiberS (markL mk_StringS k0 x.Network.Nodes).1 x.Network.Fibers).1 < 0)=false:=decide_eq_false (by omega)
 have h1:M_bx (mks_Plan k0 x).Lights ((markL mk_FiberS (markL mk_StringS k0 x.Network.Nodes).1 x.Network.Fibers).1)=some (markL mk_LightS (markL mk_FiberS (markL mk_StringS k0 x.Network.Nodes).1 x.Network.Fibers).1 x.Lights).1:=p_heldLightS x.Lights ((markL mk_FiberS (markL mk_StringS k0 x.Network.Nodes).1 x.Network.Fibers).1) (by omega) (by omega) (by omega)
 have n1:decide ((markL mk_LightS (markL mk_FiberS (markL mk_StringS k0 x.Network.Nodes).1 x.Network.Fibers).1 x.Lights).1 < 0)=false:=decide_eq_false (by omega)
 unfold M_dl
 simp only [h0,n0,h1,n1,Option.bind_some,cond_false]
 rfl
def mkr_Restoration (k:Int) (x:TRestoration):Int×List ByteArray×List TFiber×List TLight×List TLight×List Int:=((markL mk_IntS (markL mk_LightS (markL mk_LightS (markL mk_FiberS (markL mk_StringS k x.Plan.Network.Nodes).1 x.Plan.Network.Fibers).1 x.Plan.Lights).1 x.Home).1 x.Down).1,(markL mk_StringS k x.Plan.Network.Nodes).2,(markL mk_FiberS (markL mk_StringS k x.Plan.Network.Nodes).1 x.Plan.Network.Fibers).2,(markL mk_LightS (markL mk_FiberS (markL mk_StringS k x.Plan.Network.Nodes).1 x.Plan.Network.Fibers).1 x.Plan.Lights).2,(markL mk_LightS (markL mk_LightS (markL mk_FiberS (markL mk_StringS k x.Plan.Network.Nodes).1 x.Plan.Network.Fibers).1 x.Plan.Lights).1 x.Home).2,(markL mk_IntS (markL mk_LightS (markL mk_LightS (markL mk_FiberS (markL mk_StringS k x.Plan.Network.Nodes).1 x.Plan.Network.Fibers).1 x.Plan.Lights).1 x.Home).1 x.Down).2)
theorem mkr_len0_Restoration (k:Int) (x:TRestoration):(mkr_Restoration k x).2.1.length=x.Plan.Network.Nodes.length:=markL_len mk_StringS _ _
theorem mkr_len1_Restoration (k:Int) (x:TRestoration):(mkr_Restoration k x).2.2.1.length=x.Plan.Network.Fibers.length:=markL_len mk_FiberS _ _
theorem mkr_len2_Restoration (k:Int) (x:TRestoration):(mkr_Restoration k x).2.2.2.1.length=x.Plan.Lights.length:=markL_len mk_LightS _ _
theorem mkr_len3_Restoration (k:Int) (x:TRestoration):(mkr_Restoration k x).2.2.2.2.1.length=x.Home.length:=markL_len mk_LightS _ _
theorem mkr_len4_Restoration (k:Int) (x:TRestoration):(mkr_Restoration k x).2.2.2.2.2.length=x.Down.length:=markL_len mk_IntS _ _
def wr_Restoration (x:TRestoration):Nat:=(x.Plan.Network.Nodes.map w_c).sum+(x.Plan.Network.Fibers.map w_a).sum+(x.Plan.Lights.map w_r).sum+(x.Home.map w_r).sum+(x.Down.map w_IntS).sum
def mks_Restoration (k:Int) (x:TRestoration):TRestoration:=⟨⟨⟨(markL mk_StringS k x.Plan.Network.Nodes).2,(markL mk_FiberS (markL mk_StringS k x.Plan.Network.Nodes).1 x.Plan.Network.Fibers).2⟩,(markL mk_LightS (markL mk_FiberS (markL mk_StringS k x.Plan.Network.Nodes).1 x.Plan.Network.Fibers).1 x.Plan.Lights).2⟩,(markL mk_LightS (markL mk_LightS (markL mk_FiberS (markL mk_StringS k x.Plan.Network.Nodes).1 x.Plan.Network.Fibers).1 x.Plan.Lights).1 x.Home).2,(markL mk_IntS (markL mk_LightS (markL mk_LightS (markL mk_FiberS (markL mk_StringS k x.Plan.Network.Nodes).1 x.Plan.Network.Fibers).1 x.Plan.Lights).1 x.Home).1 x.Down).2⟩
theorem mkr_fst_Restoration (k:Int) (x:TRestoration):(mkr_Restoration k x).1=k+(wr_Restoration x:Int):=by
 unfold mkr_Restoration wr_Restoration
 simp only [markL_fst mk_StringS w_c hw_StringS,markL_fst mk_FiberS w_a hw_FiberS,markL_fst mk_LightS w_r hw_LightS,markL_fst mk_IntS w_IntS hw_IntS]
 try omega
theorem w_ga (x:TRestoration):wr_Restoration x≤16 * z_Restoration x:=by
 unfold wr_Restoration
 have hz:z_Restoration x=z_StringS x.Plan.Network.Nodes+z_FiberS x.Plan.Network.Fibers+z_LightS x.Plan.Lights+z_LightS x.Home+z_IntS x.Down:=by unfold z_Restoration z_Plan z_Network; omega
 have:=w_gc x.Plan.Network.Nodes
 have:=w_gd x.Plan.Network.Fibers
 have:=w_gb x.Plan.Lights
 have:=w_gb x.Home
 have:=w_fz x.Down
 omega
theorem p_markRestoration (x:TRestoration) (k0:Int) (hk:0≤k0) (hK:k0+(wr_Restoration x:Int)≤1000000000000) (hl:z_Restoration x≤1048576):M_bw k0 x.Plan.Network.Nodes x.Plan.Network.Fibers x.Plan.Lights x.Home x.Down=some (mkr_Restoration k0 x):=by
 unfold M_bw
 unfold wr_Restoration at hK
 have hz:z_Restoration x=z_StringS x.Plan.Network.Nodes+z_FiberS x.Plan.Network.Fibers+z_LightS x.Plan.Lights+z_LightS x.Home+z_IntS x.Down:=by unfold z_Restoration z_Plan z_Network; omega
 have f0:=markL_fst mk_StringS w_c hw_StringS x.Plan.Network.Nodes k0
 have f1:=markL_fst mk_FiberS w_a hw_FiberS x.Plan.Network.Fibers ((markL mk_StringS k0 x.Plan.Network.Nodes).1)
 have f2:=markL_fst mk_LightS w_r hw_LightS x.Plan.Lights ((markL mk_FiberS (markL mk_StringS k0 x.Plan.Network.Nodes).1 x.Plan.Network.Fibers).1)
 have f3:=markL_fst mk_LightS w_r hw_LightS x.Home ((markL mk_LightS (markL mk_FiberS (markL mk_StringS k0 x.Plan.Network.Nodes).1 x.Plan.Network.Fibers).1 x.Plan.Lights).1)
 have f4:=markL_fst mk_IntS w_IntS hw_IntS x.Down ((markL mk_LightS (markL mk_LightS (markL mk_FiberS (markL mk_StringS k0 x.Plan.Network.Nodes).1 x.Plan.Network.Fibers).1 x.Plan.Lights).1 x.Home).1)
 rw [p_markPlan x.Plan k0 (by omega) (by unfold wr_Plan; omega) (by unfold z_Plan z_Network; omega)]
 simp only [Option.bind_some,mkr_Plan]
 rw [p_markLightS x.Home ((markL mk_LightS (markL mk_FiberS (markL mk_StringS k0 x.Plan.Network.Nodes).1 x.Plan.Network.Fibers).1 x.Plan.Lights).1) (by omega) (by omega) (by omega)]
 simp only [Option.bind_some]
 rw [p_markIntS x.Down ((markL mk_LightS (markL mk_LightS (markL mk_FiberS (markL mk_StringS k0 x.Plan.Network.Nodes).1 x.Plan.Network.Fibers).1 x.Plan.Lights).1 x.Home).1) (by omega) (by omega) (by omega)]
 simp only [Option.bind_some]
 rfl
theorem p_heldRestoration (x:TRestoration) (k0:Int) (hk:0≤k0) (hK:k0+(wr_Restoration x:Int)≤1000000000000) (hl:z_Restoration x≤1048576):M_by (mks_Restoration k0 x) k0=some (mkr_Restoration k0 x).1:=by
 unfold wr_Restoration at hK
 have hz:z_Restoration x=z_StringS x.Plan.Network.Nodes+z_FiberS x.Plan.Network.Fibers+z_LightS x.Plan.Lights+z_LightS x.Home+z_IntS x.Down:=by unfold z_Restoration z_Plan z_Network; omega
 have f0:=markL_fst mk_StringS w_c hw_StringS x.Plan.Network.Nodes k0
 have f1:=markL_fst mk_FiberS w_a hw_FiberS x.Plan.Network.Fibers ((markL mk_StringS k0 x.Plan.Network.Nodes).1)
 have f2:=markL_fst mk_LightS w_r hw_LightS x.Plan.Lights ((markL mk_FiberS (markL mk_StringS k0 x.Plan.Network.Nodes).1 x.Plan.Network.Fibers).1)
 have f3:=markL_fst mk_LightS w_r hw_LightS x.Home ((markL mk_LightS (markL mk_FiberS (markL mk_StringS k0 x.Plan.Network.Nodes).1 x.Plan.Network.Fibers).1 x.Plan.Lights).1)
 have f4:=markL_fst mk_IntS w_IntS hw_IntS x.Down ((markL mk_LightS (markL mk_LightS (markL mk_FiberS (markL mk_StringS k0 x.Plan.Network.Nodes).1 x.Plan.Network.Fibers).1 x.Plan.Lights).1 x.Home).1)
 have h0:M_dl (⟨(⟨(mks_Restoration k0 x).Plan.Network.Nodes,(mks_Restoration k0 x).Plan.Network.Fibers⟩:TNetwork),(mks_Restoration k0 x).Plan.Lights⟩:TPlan) k0=some (markL mk_LightS (markL mk_FiberS (markL mk_StringS k0 x.Plan.Network.Nodes).1 x.Plan.Network.Fibers).1 x.Plan.Lights).1:=p_heldPlan x.Plan k0 (by omega) (by unfold wr_Plan; omega) (by unfold z_Plan z_Network; omega)
 have n0:decide ((markL mk_LightS (markL mk_FiberS (markL mk_StringS k0 x.Plan.Network.Nodes).1 x.Plan.Network.Fibers).1 x.Plan.Lights).1 < 0)=false:=decide_eq_false (by omega)
 have h1:M_bx (mks_Restoration k0 x).Home ((markL mk_LightS (markL mk_FiberS (markL mk_StringS k0 x.Plan.Network.Nodes).1 x.Plan.Network.Fibers).1 x.Plan.Lights).1)=some (markL mk_LightS (markL mk_LightS (markL mk_FiberS (markL mk_StringS k0 x.Plan.Network.Nodes).1 x.Plan.Network.Fibers).1 x.Plan.Lights).1 x.Home).1:=p_heldLightS x.Home ((markL mk_LightS (markL mk_FiberS (markL mk_StringS k0 x.Plan.Network.Nodes).1 x.Plan.Network.Fibers).1 x.Plan.Lights).1) (by omega) (by omega) (by omega)
 have n1:decide ((markL mk_LightS (markL mk_LightS (markL mk_FiberS (markL mk_StringS k0 x.Plan.Network.Nodes).1 x.Plan.Network.Fibers).1 x.Plan.Lights).1 x.Home).1 < 0)=false:=decide_eq_false (by omega)
 have h2:M_bl (mks_Restoration k0 x).Down ((markL mk_LightS (markL mk_LightS (markL mk_FiberS (markL mk_StringS k0 x.Plan.Network.Nodes).1 x.Plan.Network.Fibers).1 x.Plan.Lights).1 x.Home).1)=some (markL mk_IntS (markL mk_LightS (markL mk_LightS (markL mk_FiberS (markL mk_StringS k0 x.Plan.Network.Nodes).1 x.Plan.Network.Fibers).1 x.Plan.Lights).1 x.Home).1 x.Down).1:=p_heldIntS x.Down ((markL mk_LightS (markL mk_LightS (markL mk_FiberS (markL mk_StringS k0 x.Plan.Network.Nodes).1 x.Plan.Network.Fibers).1 x.Plan.Lights).1 x.Home).1) (by omega) (by omega) (by omega)
 have n2:decide ((markL mk_IntS (markL mk_LightS (markL mk_LightS (markL mk_FiberS (markL mk_StringS k0 x.Plan.Network.Nodes).1 x.Plan.Network.Fibers).1 x.Plan.Lights).1 x.Home).1 x.Down).1 < 0)=false:=decide_eq_false (by omega)
 unfold M_by
 simp only [h0,n0,h1,n1,h2,n2,Option.bind_some,cond_false]
 rfl
end Vs

namespace Vs
open Go
def wi (x a b:Int):Bool:=decide (a≤x)&&decide (x≤b)
theorem wi_iff {x a b:Int}:wi x a b=true↔a≤x∧x≤b:=by simp [wi]
theorem wi_false {x a b:Int}:wi x a b=false↔¬ (a≤x∧x≤b):=by rw [← wi_iff]; simp
theorem p_within (x a b:Int):M_j x a b=some (wi x a b):=by
 unfold M_j wi; by_cases h:a≤x <;> simp [h]
theorem p_l1In (x a b:Int):M_b x a b=some (wi x a b):=by
 unfold M_b wi; by_cases h:a≤x <;> simp [h]
def letB (c:UInt8):Bool:=decide (97≤c.toNat)&&decide (c.toNat≤122)
def digB (c:UInt8):Bool:=decide (48≤c.toNat)&&decide (c.toNat≤57)
def nameBad (i:Nat) (c:UInt8):Bool:=!letB c&&(!digB c||i==0)
def nameB (s:ByteArray):Bool:=!anyI nameBad s.data.toList&&wi s.size 1 8
theorem getz_nat (s:ByteArray) (i:Nat):getz s (i:Int)=s.data.toList[i]?:=by
 unfold getz
 rw [if_pos (by omega),Int.toNat_natCast]
 by_cases h:i < s.size
 · have h2:i < s.data.toList.length:=by simpa using h
   rw [getElem?_pos s i h,List.getElem?_eq_getElem h2]
   rfl
 · have h2:¬ i < s.data.toList.length:=by simpa using h
   rw [getElem?_neg s i h,List.getElem?_eq_none (Nat.le_of_not_lt h2)]
theorem size_list (s:ByteArray):s.size=s.data.toList.length:=by show s.data.size=s.data.toList.length; rw [Array.length_toList]
theorem letB_c (c:UInt8):letB c=(decide (97≤(c.toNat:Int))&&decide ((c.toNat:Int)≤122)):=by
 unfold letB
 congr 1 <;> exact decide_eq_decide.2 (by omega)
theorem digB_c (c:UInt8):digB c=(decide (48≤(c.toNat:Int))&&decide ((c.toNat:Int)≤57)):=by
 unfold digB
 congr 1 <;> exact decide_eq_decide.2 (by omega)
theorem p_isName (s:ByteArray) (hl:s.size≤1048576):M_es s=some (nameB s):=by
 unfold M_es nameB
 rw [size_list] at *
 rw [iter_anyI (f:=M_k s) s.data.toList nameBad (.inr false) (.inl ()) (fun i c hc _=>by
  have hlt:=(List.getElem?_eq_some_iff.1 hc).1
  have h1:decide ((i:Int) < s.size)=true:=decide_eq_true (by rw [size_list]; omega)
  simp only [M_k,h1,cond_true,getz_nat,hc,Option.bind_some,nameBad,letB_c,digB_c]
  rw [w64_eq (by omega) (by omega)]
  have hi:((i:Int)==0)=(i==0):=by rw [Bool.eq_iff_iff]; simp
  rw [hi]
  cases decide (97≤(c.toNat:Int)) <;> cases decide ((c.toNat:Int)≤122) <;> cases decide (48≤(c.toNat:Int)) <;> cases decide ((c.toNat:Int)≤57) <;> cases (i==0) <;> rfl) (by simp [M_k]) (by omega)]
 rw [← size_list]
 cases anyI nameBad s.data.toList <;> simp [p_within]
theorem p_l2Sign (c:UInt8):M_ee (c.toNat:Int)=some (letB c||digB c):=by
 unfold M_ee
 simp only [letB_c,digB_c]
 cases decide (97≤(c.toNat:Int)) <;> cases decide ((c.toNat:Int)≤122) <;> cases decide (48≤(c.toNat:Int)) <;> rfl
theorem fstc (c:UInt8):(cond (decide ((c.toNat:Int) < 97)) (some true) (some (decide (122 < (c.toNat:Int)))):Option Bool)=some (!letB c):=by
 rw [letB_c]
 by_cases h1:(c.toNat:Int) < 97
 · have h2:¬ 97≤(c.toNat:Int):=by omega
   simp [h1,h2]
 · have h2:97≤(c.toNat:Int):=by omega
   simp only [h1,decide_false,cond_false,h2,decide_true,Bool.true_and]
   by_cases h3:122 < (c.toNat:Int)
   · have h4:¬ (c.toNat:Int)≤122:=by omega
     simp [h3,h4]
   · have h4:(c.toNat:Int)≤122:=by omega
     simp [h3,h4]
theorem p_l2Name (s:ByteArray) (hl:s.size≤1048576):M_ef s=some (nameB s):=by
 unfold M_ef nameB
 simp only [p_l1In,Option.bind_some]
 rcases bt (wi s.size 1 8) with hw | hw
 · simp only [hw,Bool.not_true,cond_false,Bool.and_true]
   have hs:0 < s.data.toList.length:=by rw [← size_list]; have:=(wi_iff.1 hw).1; omega
   have h0:s.data.toList[0]?=some s.data.toList[0]:=List.getElem?_eq_getElem hs
   have g0:getz s 0=some s.data.toList[0]:=by rw [← h0]; exact getz_nat s 0
   simp only [g0,Option.bind_some]
   have key:=iter_anyI (f:=M_y s) s.data.toList (fun _ c=>!(letB c||digB c)) (.inr false) (.inl ()) (fun i c hc _=>by
    have hlt:=(List.getElem?_eq_some_iff.1 hc).1
    have h1:decide ((i:Int) < s.size)=true:=decide_eq_true (by rw [size_list]; omega)
    rw [size_list] at hl
    simp only [M_y,h1,cond_true,getz_nat,hc,Option.bind_some,p_l2Sign]
    rw [w64_eq (by omega) (by omega)]
    cases letB c <;> cases digB c <;> rfl) (by simp [M_y]) (by rw [size_list] at hl; omega)
   rw [fstc]
   simp only [Option.bind_some,key]
   rcases bt (letB s.data.toList[0]) with hL | hL
   · simp only [hL,Bool.not_true,cond_false]
     have e:anyI (fun _ c=>!(letB c||digB c)) s.data.toList=anyI nameBad s.data.toList:=by
      refine anyI_congr fun i c hc _=>?_
      unfold nameBad
      by_cases hi:i=0
      · subst hi; rw [h0] at hc; cases hc; rw [hL]; rfl
      · have:(i==0)=false:=by simpa using hi
        rw [this]
        cases letB c <;> cases digB c <;> rfl
     rw [e]
     cases anyI nameBad s.data.toList <;> rfl
   · have:anyI nameBad s.data.toList=true:=anyI_iff.2 ⟨0,_,h0,by unfold nameBad; rw [hL]; simp⟩
     simp only [hL,this,Bool.not_false,cond_true,Bool.not_true]
 · simp [hw]
def idxZ (v:ByteArray) (xs:List ByteArray):Option (Nat×ByteArray):=findI (fun _ x=>x.toList==v.toList) xs
def fidx (v:ByteArray) (xs:List ByteArray):Int:=match idxZ v xs with | some q=>(q.1:Int) | none=>-1
theorem p_l2Find (xs:List ByteArray) (v:ByteArray) (hl:xs.length≤1048576):M_eg xs v=some (fidx v xs):=by
 unfold M_eg fidx
 rw [iter_findI (f:=M_z xs v) xs (fun _ x=>x.toList==v.toList) (fun i _=>(i:Int)) () (fun i x hx _=>by
  have hlt:=(List.getElem?_eq_some_iff.1 hx).1
  have h1:decide ((i:Int) < xs.length)=true:=by simp [hlt]
  simp only [M_z,h1,cond_true,geti_nat,hx,Option.bind_some]
  rw [w64_eq (by omega) (by omega)]
  cases x.toList==v.toList <;> rfl) (by simp [M_z]) (by omega)]
 unfold idxZ
 cases findI (fun _ x=>x.toList==v.toList) xs <;> rfl
theorem p_Contains_z (xs:List ByteArray) (v:ByteArray) (hl:xs.length≤1048576):M_et xs v=some (xs.any fun x=>x.toList==v.toList):=by
 unfold M_et M_fs
 rw [iter_findI (f:=M_am xs v) xs (fun _ x=>x.toList==v.toList) (fun i _=>(i:Int)) () (fun i x hx _=>by
  have hlt:=(List.getElem?_eq_some_iff.1 hx).1
  have h1:decide ((i:Int) < xs.length)=true:=by simp [hlt]
  simp only [M_am,h1,cond_true,geti_nat,hx,Option.bind_some]
  rw [w64_eq (by omega) (by omega),show (v.toList==x.toList)=(x.toList==v.toList) from Bool.beq_comm ..]
  cases x.toList==v.toList <;> rfl) (by simp [M_am]) (by omega)]
 cases e:findI (fun _ x=>x.toList==v.toList) xs with
 | none =>
   have:=findI_none.1 e
   have h:(xs.any fun x=>x.toList==v.toList)=false:=by
    rw [← anyI_any (fun x:ByteArray=>x.toList==v.toList),anyI_false]; exact this
   rw [h]; rfl
 | some q =>
   obtain ⟨i,x⟩:=q
   obtain ⟨h1,h2,_⟩:=findI_some.1 e
   have h:(xs.any fun x=>x.toList==v.toList)=true:=List.any_eq_true.2 ⟨x,List.mem_of_getElem? h1,h2⟩
   rw [h]; simp
def cmpI (x y:Int):Int:=if x < y then -1 else if y < x then 1 else 0
theorem p_cmp (x y:Int):M_bo x y=some (cmpI x y):=by
 unfold M_bo M_de cmpI
 by_cases h:x < y
 · simp [h]
 · by_cases h2:y < x <;> simp [h,h2]
def cmpF (f g:TFiber):Int:=if f.A ≠ g.A then cmpI f.A g.A else if f.B ≠ g.B then cmpI f.B g.B else if f.Length ≠ g.Length then cmpI f.Length g.Length else cmpI f.Risk g.Risk
theorem cmpI_zero {x y:Int}:cmpI x y=0↔x=y:=by
 unfold cmpI
 split
 · simp; omega
 · split
   · simp; omega
   · simp; omega
theorem p_compareFibers (f g:TFiber):M_eu f g=some (cmpF f g):=by
 unfold M_eu
 simp only [p_cmp,Option.bind_some,bnd]
 unfold M_ft
 have key:=iter_findI (f:=M_an [cmpI f.A g.A,cmpI f.B g.B,cmpI f.Length g.Length,cmpI f.Risk g.Risk]) [cmpI f.A g.A,cmpI f.B g.B,cmpI f.Length g.Length,cmpI f.Risk g.Risk] (fun _ x=>x != 0) (fun _ x=>x) () (fun i x hx _=>by
  have hlt:=(List.getElem?_eq_some_iff.1 hx).1
  have h1:decide ((i:Int) < ([cmpI f.A g.A,cmpI f.B g.B,cmpI f.Length g.Length,cmpI f.Risk g.Risk].length:Nat))=true:=decide_eq_true (by omega)
  simp only [List.length_cons,List.length_nil] at hlt
  simp only [M_an,h1,cond_true,geti_nat,hx,Option.bind_some]
  rw [w64_eq (by omega) (by omega)]
  cases x != 0 <;> rfl) (by simp [M_an]) (by simp)
 rw [key]
 unfold cmpF findI
 simp only [List.zipIdx_cons,List.zipIdx_nil,List.find?_cons,List.find?_nil]
 by_cases h1:f.A=g.A
 · rw [cmpI_zero.2 h1]
   by_cases h2:f.B=g.B
   · rw [cmpI_zero.2 h2]
     by_cases h3:f.Length=g.Length
     · rw [cmpI_zero.2 h3]
       by_cases h4:f.Risk=g.Risk
       · simp [h1,h2,h3,h4,cmpI_zero.2]
       · have:(cmpI f.Risk g.Risk != 0)=true:=bne_iff_ne.2 fun e=>h4 (cmpI_zero.1 e)
         simp [h1,h2,h3,this]
     · have:(cmpI f.Length g.Length != 0)=true:=bne_iff_ne.2 fun e=>h3 (cmpI_zero.1 e)
       simp [h1,h2,h3,this]
   · have:(cmpI f.B g.B != 0)=true:=bne_iff_ne.2 fun e=>h2 (cmpI_zero.1 e)
     simp [h1,h2,this]
 · have:(cmpI f.A g.A != 0)=true:=bne_iff_ne.2 fun e=>h1 (cmpI_zero.1 e)
   simp [h1,this]
end Vs

namespace Vs
open Go
theorem slT_nat {α:Type} (xs:List α) (i:Nat) (h:i≤xs.length):slT xs (i:Int)=some (xs.take i):=by
 unfold slT
 rw [if_pos ⟨by omega,by simpa using h⟩]; simp
theorem z_net {n:TNetwork} (h:z_Network n≤1048576):n.Nodes.length≤1048576∧n.Fibers.length≤1048576∧∀ x∈n.Nodes,x.size≤1048576:=by
 unfold z_Network z_StringS z_FiberS at h
 refine ⟨by omega,by omega,fun x hx=>?_⟩
 obtain ⟨i,hi,rfl⟩:=List.getElem_of_mem hx
 have:n.Nodes[i].size≤(n.Nodes.map fun x:ByteArray=>x.size).sum:=sum_ge (fun x:ByteArray=>x.size) (xs:=n.Nodes) (i:=i) (x:=n.Nodes[i]) (by simp [hi])
 omega
def nodeBad (n:TNetwork) (i:Nat) (x:ByteArray):Bool:=!nameB x||(n.Nodes.take i).any fun y=>y.toList==x.toList
def fib1 (m:Nat) (f:TFiber):Bool:=decide (f.A < 0)||decide (f.B≤f.A)||decide ((m:Int)≤f.B)||!wi f.Length 1 5000||!wi f.Risk 0 9
def fibBad (n:TNetwork) (i:Nat) (f:TFiber):Bool:=fib1 n.Nodes.length f||(decide (0 < i)&&match n.Fibers[i - 1]? with | some g=>decide (0 < cmpF g f) | none=>false)
def netOk (n:TNetwork):Bool:=!anyI (nodeBad n) n.Nodes&&!anyI (fibBad n) n.Fibers&&wi n.Nodes.length 2 8&&decide (n.Fibers.length≤14)
theorem p_IsValidNetwork (n:TNetwork) (hz:z_Network n≤1048576):M_ev n=some (netOk n):=by
 obtain ⟨h1,h2,h3⟩:=z_net hz
 unfold M_ev netOk
 rw [iter_anyI (f:=M_ao n) n.Nodes (nodeBad n) (.inr false) (.inl ()) (fun i x hx _=>by
  have hlt:=(List.getElem?_eq_some_iff.1 hx).1
  have e1:decide ((i:Int) < n.Nodes.length)=true:=by simp [hlt]
  simp only [M_ao,e1,cond_true,geti_nat,hx,Option.bind_some,p_isName x (h3 x (List.mem_of_getElem? hx)),slT_nat n.Nodes i (Nat.le_of_lt hlt),p_Contains_z (n.Nodes.take i) x (by simp; omega),nodeBad]
  rw [w64_eq (by omega) (by omega)]
  rcases bt (nameB x) with e | e <;> rcases bt ((n.Nodes.take i).any (fun y=>y.toList==x.toList)) with e' | e' <;> simp only [e,e'] <;> rfl) (by simp [M_ao]) (by omega)]
 rcases bt (anyI (nodeBad n) n.Nodes) with hN | hN
 · simp [hN]
 · simp only [hN,Bool.false_eq_true,if_false,Option.bind_some,Bool.not_false,Bool.true_and]
   rw [iter_anyI (f:=M_l n) n.Fibers (fibBad n) (.inr false) (.inl ()) (fun i x hx _=>by
    have hlt:=(List.getElem?_eq_some_iff.1 hx).1
    have e1:decide ((i:Int) < n.Fibers.length)=true:=by simp [hlt]
    simp only [M_l,e1,cond_true,geti_nat,hx,Option.bind_some,p_within]
    rw [w64_eq (n:=(i:Int)+1) (by omega) (by omega)]
    unfold fibBad fib1
    cases decide (x.A < 0)
    · cases decide (x.B≤x.A)
      · cases decide ((n.Nodes.length:Int)≤x.B)
        · cases wi x.Length 1 5000
          · rfl
          · cases wi x.Risk 0 9
            · rfl
            · by_cases hi:0 < i
              · have hi':decide ((0:Int) < (i:Int))=true:=by simp [hi]
                have hp:n.Fibers[i - 1]?=some n.Fibers[i - 1]:=List.getElem?_eq_getElem (by omega)
                have hw:IntKind.wrap .i64 ((i:Int) - 1)=((i - 1:Nat):Int):=by rw [w64_eq (by omega) (by omega)]; omega
                simp only [hi',cond_true,cond_false,Bool.not_true,hw,geti_nat,hp,Option.bind_some,p_compareFibers,hi,decide_true,Bool.true_and,Bool.false_or]
                cases decide (0 < cmpF n.Fibers[i - 1] x) <;> rfl
              · have hi':decide ((0:Int) < (i:Int))=false:=by simp; omega
                simp [hi',hi]
        · rfl
      · rfl
    · rfl) (by simp [M_l]) (by omega)]
   rcases bt (anyI (fibBad n) n.Fibers) with hF | hF
   · simp [hF]
   · simp only [hF,Bool.false_eq_true,if_false,Option.bind_some,Bool.not_false,Bool.true_and,p_within]
     have e:decide ((n.Fibers.length:Int)≤14)=decide (n.Fibers.length≤14):=decide_eq_decide.2 (by omega)
     rw [e]
     cases wi n.Nodes.length 2 8 <;> rfl
theorem find_dup (n:TNetwork) (i:Nat) (x:ByteArray) (hx:n.Nodes[i]?=some x) :
 (fidx x n.Nodes != (i:Int))=(n.Nodes.take i).any fun y=>y.toList==x.toList:=by
 unfold fidx
 cases e:idxZ x n.Nodes with
 | none =>
   have:=findI_none.1 e i x hx
   simp at this
 | some q =>
   obtain ⟨j,y⟩:=q
   obtain ⟨h1,h2,h3⟩:=findI_some.1 e
   simp only
   by_cases hj:j=i
   · subst hj
     have:((n.Nodes.take j).any fun y=>y.toList==x.toList)=false:=by
      rw [List.any_eq_false]
      intro z hz
      obtain ⟨k,hk,rfl⟩:=List.getElem_of_mem hz
      simp only [List.length_take] at hk
      have:=h3 k (n.Nodes.take j)[k] (by omega) (by rw [List.getElem_take]; exact List.getElem?_eq_getElem (by omega))
      rw [this]; simp
     rw [this]; simp
   · have hji:j < i:=by
      rcases Nat.lt_trichotomy j i with h | h | h
      · exact h
      · exact (hj h).elim
      · have:=h3 i x h hx
        simp at this
     have:((n.Nodes.take i).any fun y=>y.toList==x.toList)=true:=List.any_eq_true.2 ⟨y,by
      have:(n.Nodes.take i)[j]?=some y:=by rw [List.getElem?_take,if_pos hji]; exact h1
      exact List.mem_of_getElem? this,h2⟩
     rw [this]
     simp; omega
theorem p_l2Fiber (f:TFiber) (m:Nat) (hm:m≤8) (hm2:2≤m):M_eh f (m:Int)=some (!fib1 m f):=by
 unfold M_eh fib1
 simp only [p_l1In,Option.bind_some]
 rw [w64_eq (n:=(m:Int) - 1) (by omega) (by omega)]
 rcases bt (wi f.A 0 ((m:Int) - 1)) with h1 | h1
 · have h2:=wi_iff.1 h1
   rw [w64_eq (n:=f.A+1) (by omega) (by omega)]
   rcases bt (wi f.B (f.A+1) ((m:Int) - 1)) with h3 | h3
   · have h4:=wi_iff.1 h3
     have a1:decide (f.A < 0)=false:=by simp; omega
     have a2:decide (f.B≤f.A)=false:=by simp; omega
     have a3:decide ((m:Int)≤f.B)=false:=by simp; omega
     simp only [h1,h3,a1,a2,a3,cond_true,Bool.false_or]
     cases wi f.Length 1 5000 <;> cases wi f.Risk 0 9 <;> rfl
   · have h4:=wi_false.1 h3
     simp only [h1,h3,cond_true,cond_false]
     by_cases a2:f.B≤f.A
     · simp [a2]
     · have a3:(m:Int)≤f.B:=by omega
       simp [a3]
 · have h2:=wi_false.1 h1
   simp only [h1,cond_false]
   by_cases a1:f.A < 0
   · simp [a1]
   · by_cases a2:f.B≤f.A
     · simp [a2]
     · have a3:(m:Int)≤f.B:=by omega
       simp [a3]
structure FibOk (m:Int) (f:TFiber):Prop where
 a0:0≤f.A
 ab:f.A < f.B
 bm:f.B < m
 l1:1≤f.Length
 l2:f.Length≤5000
 r0:0≤f.Risk
 r9:f.Risk≤9
theorem fib1_ok {m:Nat} {f:TFiber} (h:fib1 m f=false):FibOk m f:=by
 unfold fib1 at h
 simp only [Bool.or_eq_false_iff,decide_eq_false_iff_not,Bool.not_eq_false',wi_iff] at h
 obtain ⟨⟨⟨⟨h1,h2⟩,h3⟩,h4,h5⟩,h6,h7⟩:=h
 exact ⟨by omega,by omega,by omega,h4,h5,h6,h7⟩
theorem p_before (f g:TFiber) (m:Nat) (hm:m≤8) (hf:FibOk m f) (hg:FibOk m g):∃ r,M_ei f g=some r∧decide (0 < r)=decide (0 < cmpF f g):=by
 obtain ⟨a1,a2,a3,a4,a5,a6,a7⟩:=hf
 obtain ⟨b1,b2,b3,b4,b5,b6,b7⟩:=hg
 have sgn:∀ x y:Int,decide (0 < x - y)=decide (0 < cmpI x y):=by
  intro x y
  unfold cmpI
  by_cases h:x < y
  · rw [if_pos h]; exact decide_eq_decide.2 (by omega)
  · rw [if_neg h]
    by_cases h2:y < x
    · rw [if_pos h2]; exact decide_eq_decide.2 (by omega)
    · rw [if_neg h2]; exact decide_eq_decide.2 (by omega)
 unfold M_ei cmpF
 rw [w64_eq (n:=f.A - g.A) (by omega) (by omega),w64_eq (n:=f.B - g.B) (by omega) (by omega),w64_eq (n:=f.Length - g.Length) (by omega) (by omega),w64_eq (n:=f.Risk - g.Risk) (by omega) (by omega)]
 by_cases h1:f.A=g.A
 · have e1:(f.A != g.A)=false:=by rw [h1]; simp
   by_cases h2:f.B=g.B
   · have e2:(f.B != g.B)=false:=by rw [h2]; simp
     by_cases h3:f.Length=g.Length
     · have e3:(f.Length != g.Length)=false:=by rw [h3]; simp
       exact ⟨f.Risk - g.Risk,by simp only [e1,e2,e3,cond_false],by simp only [h1,h2,h3,ne_eq,not_true,if_false]; exact sgn _ _⟩
     · have e3:(f.Length != g.Length)=true:=bne_iff_ne.2 h3
       exact ⟨f.Length - g.Length,by simp only [e1,e2,e3,cond_false,cond_true],by simp only [h1,h2,h3,ne_eq,not_true,not_false_eq_true,if_false,if_true]; exact sgn _ _⟩
   · have e2:(f.B != g.B)=true:=bne_iff_ne.2 h2
     exact ⟨f.B - g.B,by simp only [e1,e2,cond_false,cond_true],by simp only [h1,h2,ne_eq,not_true,not_false_eq_true,if_false,if_true]; exact sgn _ _⟩
 · have e1:(f.A != g.A)=true:=bne_iff_ne.2 h1
   exact ⟨f.A - g.A,by simp only [e1,cond_true],by simp only [h1,ne_eq,not_false_eq_true,if_true]; exact sgn _ _⟩
theorem p_l2Good (n:TNetwork) (hz:z_Network n≤1048576):M_cj n=some (netOk n):=by
 obtain ⟨z1,z2,z3⟩:=z_net hz
 unfold M_cj netOk
 simp only [p_l1In,Option.bind_some]
 rcases bt (wi n.Nodes.length 2 8) with hw | hw
 · have hw2:=wi_iff.1 hw
   have e:decide (14 < (n.Fibers.length:Int))=!decide (n.Fibers.length≤14):=by
    rw [← decide_not]; exact decide_eq_decide.2 (by omega)
   simp only [hw,e,Bool.not_true,cond_false,Option.bind_some,Bool.and_true]
   rcases bt (decide (n.Fibers.length≤14)) with h14 | h14
   · simp only [h14,Bool.not_true,cond_false,Bool.and_true]
     rw [iter_anyI (f:=M_aa n) n.Nodes (nodeBad n) (.inr false) (.inl ()) (fun i x hx _=>by
      have hlt:=(List.getElem?_eq_some_iff.1 hx).1
      have e1:decide ((i:Int) < n.Nodes.length)=true:=by simp [hlt]
      simp only [M_aa,e1,cond_true,geti_nat,hx,Option.bind_some,p_l2Name x (z3 x (List.mem_of_getElem? hx)),p_l2Find n.Nodes x z1,find_dup n i x hx,nodeBad]
      rw [w64_eq (by omega) (by omega)]
      rcases bt (nameB x) with e | e <;> rcases bt ((n.Nodes.take i).any (fun y=>y.toList==x.toList)) with e' | e' <;> simp only [e,e'] <;> rfl) (by simp [M_aa]) (by omega)]
     rcases bt (anyI (nodeBad n) n.Nodes) with hN | hN
     · simp [hN]
     · simp only [hN,Bool.false_eq_true,if_false,Option.bind_some,Bool.not_false,Bool.true_and]
       rw [iter_anyI (f:=M_ab n) n.Fibers (fibBad n) (.inr false) (.inl ()) (fun i x hx hprev=>by
        have hlt:=(List.getElem?_eq_some_iff.1 hx).1
        have e1:decide ((i:Int) < n.Fibers.length)=true:=by simp [hlt]
        simp only [M_ab,e1,cond_true,geti_nat,hx,Option.bind_some,p_l2Fiber x n.Nodes.length (by omega) (by omega),Bool.not_not]
        rw [w64_eq (n:=(i:Int)+1) (by omega) (by omega)]
        unfold fibBad
        rcases bt (fib1 n.Nodes.length x) with h1 | h1
        · simp [h1]
        · simp only [h1,cond_false,Bool.false_or]
          by_cases hi:0 < i
          · have hi':decide ((0:Int) < (i:Int))=true:=by simp [hi]
            have hp:n.Fibers[i - 1]?=some n.Fibers[i - 1]:=List.getElem?_eq_getElem (by omega)
            have hw:IntKind.wrap .i64 ((i:Int) - 1)=((i - 1:Nat):Int):=by rw [w64_eq (by omega) (by omega)]; omega
            have hb:=hprev (i - 1) n.Fibers[i - 1] (by omega) hp
            unfold fibBad at hb
            simp only [Bool.or_eq_false_iff] at hb
            obtain ⟨r,r1,r2⟩:=p_before n.Fibers[i - 1] x n.Nodes.length (by omega) (fib1_ok hb.1) (fib1_ok h1)
            simp only [hi',cond_true,hw,geti_nat,hp,Option.bind_some,r1,r2,hi,decide_true,Bool.true_and]
            cases decide (0 < cmpF n.Fibers[i - 1] x) <;> rfl
          · have hi':decide ((0:Int) < (i:Int))=false:=by simp; omega
            simp [hi',hi]) (by simp [M_ab]) (by omega)]
       cases anyI (fibBad n) n.Fibers <;> rfl
   · simp [h14]
 · simp [hw]
end Vs

namespace Vs
open Go
theorem netOk_b {n:TNetwork} (h:netOk n=true):2≤n.Nodes.length∧n.Nodes.length≤8∧n.Fibers.length≤14:=by
 unfold netOk at h
 simp only [Bool.and_eq_true,decide_eq_true_eq,wi_iff] at h
 omega
theorem netOk_fib {n:TNetwork} (h:netOk n=true) {i:Nat} {f:TFiber} (hf:n.Fibers[i]?=some f):FibOk n.Nodes.length f:=by
 unfold netOk at h
 simp only [Bool.and_eq_true,Bool.not_eq_true'] at h
 have:=anyI_false.1 h.1.1.2 i f hf
 unfold fibBad at this
 simp only [Bool.or_eq_false_iff] at this
 exact fib1_ok this.1
end Vs

namespace Vs
open Go
theorem net_ends {n:TNetwork} (h:netOk n=true):∀ f∈n.Fibers,f.A < n.Nodes.length∧f.B < n.Nodes.length:=by
 intro f hf
 obtain ⟨i,hi⟩:=List.getElem?_of_mem hf
 obtain ⟨h1,h2,h3⟩:=netOk_fib h hi
 omega
def fibI (n:TNetwork) (e:Int):Prop:=0≤e∧e < (n.Fibers.length:Int)
end Vs

namespace Vs
open Go
def otherP (f:TFiber) (v:Int):Int:=if v=f.A then f.B else if v=f.B then f.A else -1
def othI (n:TNetwork) (e v:Int):Int:=match n.Fibers[e.toNat]? with | some f=>otherP f v | none=>-1
end Vs

namespace Vs
open Go
theorem p_l1Has (l:List Int) (x:Int) (hl:l.length≤1048576):M_ck l x=some (l.any fun y=>y==x):=by
 unfold M_ck
 rw [iter_any (f:=M_ac l x) l (fun y=>y==x) (.inr true) (.inl ()) (fun i y hy=>by
  have hlt:=(List.getElem?_eq_some_iff.1 hy).1
  have h1:decide ((i:Int) < l.length)=true:=by simp [hlt]
  simp only [M_ac,h1,cond_true,geti_nat,hy,Option.bind_some]
  rw [w64_eq (by omega) (by omega)]
  cases y==x <;> rfl) (by simp [M_ac]) (by omega)]
 cases l.any fun y=>y==x <;> rfl
theorem geti_fib {n:TNetwork} {e:Int} (h:wi e 0 ((n.Fibers.length:Int) - 1)=true):∃ f,geti n.Fibers e=some f∧n.Fibers[e.toNat]?=some f:=by
 rw [wi_iff] at h
 have hlt:e.toNat < n.Fibers.length:=by omega
 refine ⟨n.Fibers[e.toNat],?_,List.getElem?_eq_getElem hlt⟩
 have h3:=geti_nat n.Fibers e.toNat
 rw [Int.toNat_of_nonneg h.1] at h3
 rw [h3]
 exact List.getElem?_eq_getElem hlt
theorem p_l2Other (n:TNetwork) (e v:Int) (h:wi e 0 ((n.Fibers.length:Int) - 1)=true):M_ej n e v=some (othI n e v):=by
 obtain ⟨f,h1,h2⟩:=geti_fib h
 unfold M_ej othI otherP
 rw [h1,h2]
 simp only [Option.bind_some]
 by_cases a:v=f.A
 · rw [show (v==f.A)=true from by simpa using a,cond_true,if_pos a]
 · rw [show (v==f.A)=false from by simpa using a,cond_false,if_neg a]
   by_cases b:v=f.B
   · rw [show (v==f.B)=true from by simpa using b,cond_true,if_pos b]
   · rw [show (v==f.B)=false from by simpa using b,cond_false,if_neg b]
end Vs

namespace Vs
open Go
theorem p_ContI (xs:List Int) (v:Int) (hl:xs.length≤1048576):M_cq xs v=some (decide (v∈xs)):=by
 unfold M_cq M_fu
 rw [iter_findI (f:=M_ap xs v) xs (fun _ x=>v==x) (fun i _=>(i:Int)) () (fun i x hx _=>by
  have hlt:=(List.getElem?_eq_some_iff.1 hx).1
  have h1:decide ((i:Int) < xs.length)=true:=by simp [hlt]
  simp only [M_ap,h1,cond_true,geti_nat,hx,Option.bind_some]
  rw [w64_eq (by omega) (by omega)]
  cases v==x <;> rfl) (by simp [M_ap]) (by omega)]
 cases e:findI (fun _ x=>v==x) xs with
 | none =>
   have:=findI_none.1 e
   have h:¬ v∈xs:=fun hm=>by
    obtain ⟨i,hi⟩:=List.getElem?_of_mem hm
    have:=this i v hi
    simp at this
   rw [decide_eq_false h]; rfl
 | some q =>
   obtain ⟨i,x⟩:=q
   obtain ⟨h1,h2,_⟩:=findI_some.1 e
   have h:v∈xs:=by
    have:=eq_of_beq h2
    rw [this]; exact List.mem_of_getElem? h1
   rw [decide_eq_true h]; simp
theorem p_otherEnd (f:TFiber) (v:Int):M_ew f v=some (otherP f v):=by
 unfold M_ew otherP
 by_cases a:v=f.A
 · rw [show (v==f.A)=true from by simpa using a,cond_true,if_pos a]
 · rw [show (v==f.A)=false from by simpa using a,cond_false,if_neg a]
   by_cases b:v=f.B
   · rw [show (v==f.B)=true from by simpa using b,cond_true,if_pos b]
   · rw [show (v==f.B)=false from by simpa using b,cond_false,if_neg b]
theorem any_mem (l:List Int) (e:Int):decide (e∈l)=l.any fun x=>x==e:=by
 rw [Bool.eq_iff_iff,decide_eq_true_iff,List.any_eq_true]
 constructor
 · intro h; exact ⟨e,h,by simp⟩
 · rintro ⟨x,hx,he⟩; rw [← eq_of_beq he]; exact hx
end Vs

namespace Vs
open Go
theorem walkL_rel {α A B C:Type} (s1:Nat→α→A→A ⊕ B) (s2:Nat→α→A→A ⊕ C) (f1:A→B) (f2:A→C) (R:B→C→Prop) (h:∀ i x a,(∃ a',s1 i x a=.inl a'∧s2 i x a=.inl a')∨∃ b c,s1 i x a=.inr b∧s2 i x a=.inr c∧R b c) (hf:∀ a,R (f1 a) (f2 a)) :
 ∀ (xs:List α) (i:Nat) (a:A),R (walkL s1 f1 i xs a) (walkL s2 f2 i xs a)
 | [],_,a=>hf a
 | x :: xs, i, a => by
   simp only [walkL]
   rcases h i x a with ⟨a',h1,h2⟩ | ⟨b,c,h1,h2,h3⟩
   · rw [h1,h2]; exact walkL_rel s1 s2 f1 f2 R h hf xs (i+1) a'
   · rw [h1,h2]; exact h3
def visB (n:TNetwork) (e:Int) (a:Int×List Int):Bool:=!wi e 0 ((n.Fibers.length:Int) - 1)||decide (othI n e a.1 < 0)||decide (othI n e a.1∈a.2)
def visS (n:TNetwork) (_:Nat) (e:Int) (a:Int×List Int):(Int×List Int) ⊕ Option (List Int):=if visB n e a then .inr none else .inl (othI n e a.1,a.2++[othI n e a.1])
def visP (n:TNetwork) (r:TRoute):Option (List Int):=if !wi r.Start 0 ((n.Nodes.length:Int) - 1)||decide (r.Fibers.length=0) then none else walkL (visS n) (fun a=>some a.2) 0 r.Fibers (r.Start,[r.Start])
def visI (n:TNetwork) (_:Nat) (e:Int) (a:Int×List Int):(Int×List Int) ⊕ ((List Int) ⊕ (List Int×Bool)):=if visB n e a then .inr (.inr ([],false)) else .inl (othI n e a.1,a.2++[othI n e a.1])
def visK (n:TNetwork) (_:Nat) (e:Int) (a:Int×List Int):(Int×List Int) ⊕ ((List Int) ⊕ (List Int×Bool)):=if visB n e a then .inr (.inr (a.2,false)) else .inl (othI n e a.1,a.2++[othI n e a.1])
theorem len0 (l:List Int):((l.length:Int)==0)=decide (l.length=0):=by
 rw [Bool.eq_iff_iff]; simp
theorem p_visited (n:TNetwork) (r:TRoute) (hN:n.Nodes.length≤1048576) (hF:n.Fibers.length≤1048576) (hr:r.Fibers.length≤1048576):M_cr n r=some (match visP n r with | some l=>(l,true) | none=>([],false)):=by
 unfold M_cr visP
 simp only [p_within,Option.bind_some,len0]
 rw [w64_eq (n:=(n.Nodes.length:Int) - 1) (by omega) (by omega)]
 have hc:(cond (!wi r.Start 0 ((n.Nodes.length:Int) - 1)) (some true) (some (decide (r.Fibers.length=0))):Option Bool)=some (!wi r.Start 0 ((n.Nodes.length:Int) - 1)||decide (r.Fibers.length=0)):=by
  cases wi r.Start 0 ((n.Nodes.length:Int) - 1) <;> rfl
 rw [hc]
 simp only [Option.bind_some]
 rcases bt (!wi r.Start 0 ((n.Nodes.length:Int) - 1)||decide (r.Fibers.length=0)) with e | e
 · rw [e]; rfl
 rw [e]
 simp only [cond_false,bnd,Bool.false_eq_true,if_false]
 have key:=iter_list (f:=M_aq n r) r.Fibers (fun i (a:Int×List Int)=>(a.1,(i:Int),a.2)) (visI n) (fun a=>.inl a.2) (fun i a=>a.2.length=i+1) (fun i a x hx hI=>by
  have hlt:=(List.getElem?_eq_some_iff.1 hx).1
  have h1:decide ((i:Int) < r.Fibers.length)=true:=by simp [hlt]
  simp only [M_aq,h1,cond_true,geti_nat,hx,Option.bind_some,p_within]
  rw [w64_eq (n:=(n.Fibers.length:Int) - 1) (by omega) (by omega),w64_eq (n:=(i:Int)+1) (by omega) (by omega)]
  unfold visI visB
  rcases bt (wi x 0 ((n.Fibers.length:Int) - 1)) with e1 | e1
  · obtain ⟨f,f1,f2⟩:=geti_fib e1
    have ho:othI n x a.1=otherP f a.1:=by unfold othI; rw [f2]
    simp only [e1,Bool.not_true,cond_false,f1,Option.bind_some,p_otherEnd,← ho,p_ContI a.2 (othI n x a.1) (by omega),Bool.false_or]
    by_cases h3:othI n x a.1 < 0
    · exact .inr ⟨_,by simp [h3]; rfl,by simp [h3]⟩
    · by_cases h4:othI n x a.1∈a.2
      · exact .inr ⟨_,by simp [h4]; rfl,by simp [h3,h4]⟩
      · refine .inl ⟨(othI n x a.1,a.2++[othI n x a.1]),by simp [h3,h4],by simp [hI],?_⟩
        simp only [decide_eq_false h3,decide_eq_false h4,cond_false,Option.bind_some,bnd]
        rw [grd_t (by omega)]
        rfl
  · exact .inr ⟨_,by simp [e1]; rfl,by simp [e1]⟩) (fun a _=>by simp [M_aq]) (r.Start,[r.Start]) rfl (by omega)
 have e0:((0:Nat):Int)=0:=rfl
 simp only [e0] at key
 rw [key]
 have:=walkL_rel (visS n) (visI n) (fun a=>some a.2) (fun a=>(.inl a.2:(List Int) ⊕ (List Int×Bool))) (fun b c=>match b with | some l=>c=.inl l | none=>c=.inr ([],false)) (fun i x a=>by
  unfold visS visI
  cases visB n x a
  · exact .inl ⟨_,rfl,rfl⟩
  · exact .inr ⟨_,_,rfl,rfl,rfl⟩) (fun a=>rfl) r.Fibers 0 (r.Start,[r.Start])
 revert this
 generalize walkL (visI n) (fun a=>(.inl a.2:(List Int) ⊕ (List Int×Bool))) 0 r.Fibers (r.Start,[r.Start])=c
 cases walkL (visS n) (fun a=>some a.2) 0 r.Fibers (r.Start,[r.Start]) with
 | none=>intro h; rw [h]; rfl
 | some l=>intro h; rw [h]; rfl
theorem p_l4Walk (n:TNetwork) (r:TRoute) (hN:n.Nodes.length≤1048576) (hF:n.Fibers.length≤1048576) (hr:r.Fibers.length≤1048576):∃ o,M_cl n r=some (o,(visP n r).isSome)∧∀ l,visP n r=some l→o=l:=by
 unfold M_cl visP
 simp only [p_l1In,Option.bind_some,len0,bnd]
 rw [w64_eq (n:=(n.Nodes.length:Int) - 1) (by omega) (by omega)]
 have hc:(cond (!wi r.Start 0 ((n.Nodes.length:Int) - 1)) (some true) (some (decide (r.Fibers.length=0))):Option Bool)=some (!wi r.Start 0 ((n.Nodes.length:Int) - 1)||decide (r.Fibers.length=0)):=by
  cases wi r.Start 0 ((n.Nodes.length:Int) - 1) <;> rfl
 rw [hc]
 simp only [Option.bind_some]
 rcases bt (!wi r.Start 0 ((n.Nodes.length:Int) - 1)||decide (r.Fibers.length=0)) with e | e
 · rw [e]; exact ⟨[r.Start],rfl,fun l h=>by simp at h⟩
 rw [e]
 simp only [cond_false,Bool.false_eq_true,if_false]
 have key:=iter_list (f:=M_ad n r) r.Fibers (fun i (a:Int×List Int)=>((i:Int),a.2)) (visK n) (fun a=>.inl a.2) (fun i a=>a.2.length=i+1∧a.2[i]?=some a.1) (fun i a x hx hI=>by
  have hlt:=(List.getElem?_eq_some_iff.1 hx).1
  have h1:decide ((i:Int) < r.Fibers.length)=true:=by simp [hlt]
  simp only [M_ad,h1,cond_true,geti_nat,hx,Option.bind_some,p_l1In]
  have hl1:IntKind.wrap .i64 ((a.2.length:Int) - 1)=(i:Int):=by rw [w64_eq (by omega) (by omega)]; omega
  rw [w64_eq (n:=(n.Fibers.length:Int) - 1) (by omega) (by omega),w64_eq (n:=(i:Int)+1) (by omega) (by omega),hl1]
  unfold visK visB
  rcases bt (wi x 0 ((n.Fibers.length:Int) - 1)) with e1 | e1
  · simp only [e1,Bool.not_true,cond_false,Option.bind_some,Bool.false_or,Int.toNat_natCast,hI.2]
    rw [grd_t (by omega)]
    simp only [Option.bind_some,p_l2Other n x a.1 e1,p_l1Has a.2 (othI n x a.1) (by omega)]
    have hm:(a.2.any fun y=>y==othI n x a.1)=decide (othI n x a.1∈a.2):=by
     rw [Bool.eq_iff_iff]; simp
    rw [hm]
    by_cases h3:othI n x a.1 < 0
    · exact .inr ⟨_,by simp [h3]; rfl,by simp [h3]⟩
    · by_cases h4:othI n x a.1∈a.2
      · exact .inr ⟨_,by simp [h4]; rfl,by simp [h3,h4]⟩
      · refine .inl ⟨(othI n x a.1,a.2++[othI n x a.1]),by simp [h3,h4],⟨by simp [hI.1],by rw [← hI.1]; simp⟩,?_⟩
        simp only [decide_eq_false h3,decide_eq_false h4,cond_false,Option.bind_some]
        rw [grd_t (by omega)]
        rfl
  · exact .inr ⟨_,by simp [e1]; rfl,by simp [e1]⟩) (fun a _=>by simp [M_ad]) (r.Start,[r.Start]) ⟨rfl,rfl⟩ (by omega)
 have e0:((0:Nat):Int)=0:=rfl
 simp only [e0] at key
 rw [key]
 have:=walkL_rel (visS n) (visK n) (fun a=>some a.2) (fun a=>(.inl a.2:(List Int) ⊕ (List Int×Bool))) (fun b c=>match b with | some l=>c=.inl l | none=>∃ o,c=.inr (o,false)) (fun i x a=>by
  unfold visS visK
  cases visB n x a
  · exact .inl ⟨_,rfl,rfl⟩
  · exact .inr ⟨_,_,rfl,rfl,_,rfl⟩) (fun a=>rfl) r.Fibers 0 (r.Start,[r.Start])
 revert this
 generalize walkL (visK n) (fun a=>(.inl a.2:(List Int) ⊕ (List Int×Bool))) 0 r.Fibers (r.Start,[r.Start])=c
 cases walkL (visS n) (fun a=>some a.2) 0 r.Fibers (r.Start,[r.Start]) with
 | none=>rintro ⟨o,h⟩; rw [h]; exact ⟨o,rfl,fun l h=>by cases h⟩
 | some l=>intro h; rw [h]; exact ⟨l,rfl,fun l' h=>by cases h; rfl⟩
def rteOk (n:TNetwork) (r:TRoute):Bool:=netOk n&&(visP n r).isSome
theorem p_l4Good (n:TNetwork) (r:TRoute) (hz:z_Network n≤1048576) (hr:r.Fibers.length≤1048576):M_dd n r=some (rteOk n r):=by
 obtain ⟨h1,h2,_⟩:=z_net hz
 unfold M_dd rteOk
 rw [p_l2Good n hz]
 simp only [Option.bind_some]
 rcases bt (netOk n) with e | e
 · obtain ⟨o,o1,_⟩:=p_l4Walk n r (by omega) (by omega) hr
   rw [e]
   simp only [Bool.not_true,cond_false,o1,Option.bind_some,Bool.true_and]
 · rw [e]; rfl
theorem vis_facts {n:TNetwork} (hE:∀ f∈n.Fibers,f.A < n.Nodes.length∧f.B < n.Nodes.length):∀ (xs:List Int) (i:Nat) (a:Int×List Int) (l:List Int),walkL (visS n) (fun a=>some a.2) i xs a=some l→a.2.Nodup→(∀ v∈a.2,0≤v∧v < (n.Nodes.length:Int))→a.1∈a.2 →
 l.Nodup∧(∀ v∈l,0≤v∧v < (n.Nodes.length:Int))∧l.length=a.2.length+xs.length∧(∀ e∈xs,0≤e∧e < (n.Fibers.length:Int))∧xs.Nodup∧∀ e∈xs,∀ f,n.Fibers[e.toNat]?=some f→¬ (f.A∈a.2∧f.B∈a.2)
 | [],_,a,l,h,hd,hv,_=>by simp only [walkL,Option.some.injEq] at h; subst h; exact ⟨hd,hv,by simp,by simp,by simp,by simp⟩
 | x :: xs, i, a, l, h, hd, hv, ha => by
   simp only [walkL,visS] at h
   rcases bt (visB n x a) with e | e
   · rw [e] at h; cases h
   · rw [e] at h
     simp only [Bool.false_eq_true,if_false] at h
     simp only [visB,Bool.or_eq_false_iff,Bool.not_eq_false',decide_eq_false_iff_not,wi_iff] at e
     obtain ⟨⟨e1,e2⟩,e3⟩:=e
     have hi:x.toNat < n.Fibers.length:=by omega
     have hf:=hE _ (List.getElem_mem hi)
     have hg:=List.getElem?_eq_getElem hi
     generalize n.Fibers[x.toNat]=f at hf hg
     have ho:othI n x a.1=otherP f a.1:=by unfold othI; rw [hg]
     have hend:(f.A=a.1∧f.B=othI n x a.1)∨(f.B=a.1∧f.A=othI n x a.1):=by
      rw [ho] at e2 ⊢
      unfold otherP at e2 ⊢
      split
      · rename_i h1; exact .inl ⟨h1.symm,rfl⟩
      · split
        · rename_i h1; exact .inr ⟨h1.symm,rfl⟩
        · rename_i h1 h2; simp [h1,h2] at e2
     have hlt:othI n x a.1 < n.Nodes.length:=by omega
     obtain ⟨g1,g2,g3,g4,g5,g6⟩:=vis_facts hE xs (i+1) _ l h (by
      rw [List.nodup_append]
      exact ⟨hd,by simp,fun u hu v hv=>by simp at hv; subst hv; intro e; subst e; exact e3 hu⟩) (fun v hv2=>by
      simp only [List.mem_append,List.mem_singleton] at hv2
      rcases hv2 with h | h
      · exact hv v h
      · subst h; exact ⟨by omega,hlt⟩) (by simp)
     refine ⟨g1,g2,by rw [g3]; simp; omega,fun e he=>?_,List.nodup_cons.2 ⟨fun hm=>?_,g5⟩,fun e he f' hf'=>?_⟩
     · rcases List.mem_cons.1 he with rfl | he
       · omega
       · exact g4 e he
     · refine g6 x hm f hg ?_
       simp only [List.mem_append,List.mem_singleton]
       rcases hend with ⟨h1,h2⟩ | ⟨h1,h2⟩
       · exact ⟨.inl (h1 ▸ ha),.inr h2⟩
       · exact ⟨.inr h2,.inl (h1 ▸ ha)⟩
     · rcases List.mem_cons.1 he with rfl | he
       · rw [hg] at hf'; cases hf'
         rcases hend with ⟨h1,h2⟩ | ⟨h1,h2⟩
         · exact fun h=>e3 (h2 ▸ h.2)
         · exact fun h=>e3 (h2 ▸ h.1)
       · exact fun h=>g6 e he f' hf' ⟨List.mem_append_left _ h.1,List.mem_append_left _ h.2⟩
theorem rte_facts {n:TNetwork} {r:TRoute} (hE:∀ f∈n.Fibers,f.A < n.Nodes.length∧f.B < n.Nodes.length) {l:List Int} (h:visP n r=some l):l.Nodup∧(∀ v∈l,0≤v∧v < (n.Nodes.length:Int))∧l.length=r.Fibers.length+1∧(∀ e∈r.Fibers,0≤e∧e < (n.Fibers.length:Int))∧r.Fibers.Nodup:=by
 unfold visP at h
 split at h
 · cases h
 · rename_i hc
   simp only [Bool.or_eq_true,Bool.not_eq_true',decide_eq_true_eq,not_or,Bool.not_eq_false,wi_iff] at hc
   obtain ⟨g1,g2,g3,g4,g5,_⟩:=vis_facts hE _ _ _ _ h (by simp) (fun v hv=>by simp at hv; subst hv; omega) (by simp)
   exact ⟨g1,g2,by rw [g3]; simp; omega,g4,g5⟩
theorem nodup_le:∀ (m:Nat) (l:List Int),l.Nodup→(∀ x∈l,0≤x∧x < (m:Int))→l.length≤m
 | 0, l, _, h => by
   cases l with
   | nil=>simp
   | cons x l=>have:=h x (by simp); omega
 | m + 1, l, hn, h => by
   by_cases hm:(m:Int)∈l
   · have:=nodup_le m (l.erase (m:Int)) (hn.erase _) (fun x hx=>by
      have h1:=(hn.mem_erase_iff).1 hx
      have:=h x h1.2
      have h3:=h1.1
      omega)
     rw [List.length_erase_of_mem hm] at this
     omega
   · have:=nodup_le m l hn (fun x hx=>by
      have:=h x hx
      have:x ≠ (m:Int):=fun e=>hm (e ▸ hx)
      omega)
     omega
end Vs

namespace Vs
open Go
def gz (l:List Int) (p:Nat):Int:=(l[p]?).getD 0
theorem gz_at {l:List Int} {p:Nat} (h:p < l.length):l[p]?=some (gz l p):=by
 unfold gz; rw [List.getElem?_eq_getElem h]; rfl
theorem p_SortI (xs:List Int) (h:xs.length≤1048576):∃ l,sortI xs=some l∧l.Perm xs∧l.Pairwise (·≤·):=p_srtI xs (by omega)
theorem rise_eq:∀ (xs ys:List Int),xs.Pairwise (· < ·)→ys.Pairwise (· < ·)→(∀ x,x∈xs↔x∈ys)→xs=ys
 | [],[],_,_,_=>rfl
 | [],y::ys,_,_,h=>by have:=(h y).2 (by simp); cases this
 | x::xs,[],_,_,h=>by have:=(h x).1 (by simp); cases this
 | x :: xs, y :: ys, hx, hy, h => by
   rw [List.pairwise_cons] at hx hy
   have e:x=y:=by
    have h1:=(h x).1 (by simp)
    have h2:=(h y).2 (by simp)
    rcases List.mem_cons.1 h1 with h1 | h1
    · exact h1
    · rcases List.mem_cons.1 h2 with h2 | h2
      · exact h2.symm
      · have:=hx.1 y h2; have:=hy.1 x h1; omega
   subst e
   congr 1
   refine rise_eq xs ys hx.2 hy.2 fun z=>?_
   have:=h z
   constructor
   · intro hz
     rcases List.mem_cons.1 (this.1 (List.mem_cons_of_mem _ hz)) with e | e
     · subst e; have:=hx.1 z hz; omega
     · exact e
   · intro hz
     rcases List.mem_cons.1 (this.2 (List.mem_cons_of_mem _ hz)) with e | e
     · subst e; have:=hy.1 z hz; omega
     · exact e
end Vs

namespace Vs
open Go
def comP (a gone:List Int):List Int:=a.filter fun x=>decide (x∈gone)
theorem walkL_fil1 (p:Int→Bool):∀ (xs:List Int) (i:Nat) (l:List Int),walkL (fun (_:Nat) (x:Int) (l:List Int)=>(.inl (if p x then l++[x] else l):List Int ⊕ List Int)) (fun l=>l) i xs l=l++xs.filter p
 | [],_,l=>by simp [walkL]
 | x :: xs, i, l => by
   simp only [walkL]
   rw [walkL_fil1 p xs (i+1)]
   by_cases h:p x=true
   · simp [h]
   · simp [h]
theorem p_comL (a gone:List Int) (ha:a.length≤1048576) (hg:gone.length≤1048576):iter (M_f a gone) N0 (0,[])=some (comP a gone):=by
 have key:=iter_list (f:=M_f a gone) a (fun i (l:List Int)=>((i:Int),l)) (fun _ x l=>.inl (if decide (x∈gone) then l++[x] else l)) (fun l=>l) (fun i l=>l.length≤i) (fun i l x hx hI=>by
  have hlt:=(List.getElem?_eq_some_iff.1 hx).1
  have h1:decide ((i:Int) < a.length)=true:=by simp [hlt]
  refine .inl ⟨_,rfl,by split <;> (try simp only [List.length_append,List.length_cons,List.length_nil]) <;> omega,?_⟩
  simp only [M_f,h1,cond_true,geti_nat,hx,Option.bind_some,p_ContI gone x hg,bnd]
  rw [w64_eq (n:=(i:Int)+1) (by omega) (by omega)]
  by_cases h:x∈gone
  · rw [decide_eq_true h,cond_true,grd_t (by omega),if_pos rfl]; rfl
  · rw [decide_eq_false h,cond_false,if_neg (by simp)]; rfl) (fun l _=>by simp [M_f]) [] (Nat.le_refl 0) (by omega)
 have e0:((0:Nat):Int)=0:=rfl
 simp only [e0] at key
 rw [key,walkL_fil1]
 rfl
def ddp (ys:List Int):Nat→List Int
 | 0=>[]
 | j+1=>if 0 < j∧ys[j]?=ys[j - 1]? then ddp ys j else ddp ys j++(ys[j]?).toList
theorem ddp_take (ys:List Int):∀ k,(∀ i,1≤i→i < k→ys[i]? ≠ ys[i - 1]?)→ddp ys k=ys.take k
 | 0,_=>by simp [ddp]
 | k + 1, h => by
   unfold ddp
   rw [if_neg (fun e=>h k (by omega) (by omega) e.2),ddp_take ys k (fun i h1 h2=>h i h1 (by omega)),List.take_add_one]
theorem take_set1 {l:List Int} {k:Nat} (y:Int) (h:k < l.length):(l.set k y).take (k+1)=l.take k++[y]:=by
 rw [List.take_add_one,List.getElem?_set_self h,List.take_set_of_le (Nat.le_refl k)]; rfl
theorem ddp_sorted {ys:List Int} (hs:ys.Pairwise (·≤·)):∀ j,j≤ys.length→(ddp ys j).Pairwise (· < ·)∧(∀ x∈ddp ys j,∀ y,ys[j - 1]?=some y→x≤y)∧∀ x,x∈ddp ys j↔x∈ys.take j
 | 0,_=>by simp [ddp]
 | j + 1, h => by
   obtain ⟨h1,h2,h3⟩:=ddp_sorted hs j (by omega)
   have hy:ys[j]?=some (ys[j]'(by omega)):=List.getElem?_eq_getElem (by omega)
   generalize ys[j]'(by omega)=y at hy
   unfold ddp
   rw [List.take_add_one,hy]
   by_cases c:0 < j∧some y=ys[j - 1]?
   · rw [if_pos c]
     refine ⟨h1,fun x hx z hz=>?_,fun x=>?_⟩
     · simp only [Nat.add_sub_cancel,hy,Option.some.injEq] at hz
       subst hz
       exact h2 x hx y c.2.symm
     · have hm:y∈ys.take j:=by
        rw [List.mem_take_iff_getElem]
        obtain ⟨q1,q2⟩:=List.getElem?_eq_some_iff.1 c.2.symm
        exact ⟨j - 1,by omega,q2⟩
       simp only [Option.toList_some,List.mem_append,List.mem_singleton,h3]
       exact ⟨.inl,fun q=>q.elim id fun e=>e ▸ hm⟩
   · rw [if_neg c]
     have hlt:∀ x∈ddp ys j,x < y:=fun x hx=>by
      by_cases hj:0 < j
      · have hz:ys[j - 1]?=some (ys[j - 1]'(by omega)):=List.getElem?_eq_getElem (by omega)
        have:=h2 x hx _ hz
        have h5:ys[j - 1]'(by omega)≤ys[j]'(by omega):=List.pairwise_iff_getElem.1 hs (j - 1) j (by omega) (by omega) (by omega)
        have h6:ys[j]'(by omega)=y:=(List.getElem?_eq_some_iff.1 hy).2
        have h7:ys[j - 1]'(by omega) ≠ y:=fun e=>c ⟨hj,by rw [hz,e]⟩
        omega
      · have:j=0:=by omega
        subst this; simp [ddp] at hx
     refine ⟨?_,fun x hx z hz=>?_,fun x=>?_⟩
     · rw [List.pairwise_append]
       exact ⟨h1,by simp,fun a ha b hb=>by simp at hb; subst hb; exact hlt a ha⟩
     · simp only [Nat.add_sub_cancel,hy,Option.some.injEq] at hz
       subst hz
       simp only [Option.toList_some,List.mem_append,List.mem_singleton] at hx
       rcases hx with hx | hx
       · have:=hlt x hx; omega
       · omega
     · simp only [List.mem_append,h3]
theorem p_CompL2 (ys:List Int) (hl:ys.length≤1048576) (k0:Nat) (h0:1≤k0) (hk:k0 < ys.length) (hd:ddp ys (k0+1)=ys.take k0) :
 ∃ (k:Nat) (l:List Int),iter (M_e 0 ys.length (k0:Int)) N0 ((k0:Int),1,ys)=some ((k:Int),l)∧l.length=ys.length∧k≤ys.length∧l.take k=ddp ys ys.length:=by
 obtain ⟨o,o1,o2⟩:=iter_inv (f:=M_e 0 ys.length (k0:Int)) (fun s=>∃ (k k2:Nat) (l:List Int),s=((k:Int),(k2:Int),l)∧1≤k2∧k0+k2≤ys.length∧l.length=ys.length∧k+1≤k0+k2∧(∀ p,k0+k2≤p+1→l[p]?=ys[p]?)∧l.take k=ddp ys (k0+k2))
  (fun s=>ys.length - s.2.1.toNat) (fun o=>∃ (k:Nat) (l:List Int),o=((k:Int),l)∧l.length=ys.length∧k≤ys.length∧l.take k=ddp ys ys.length) (fun s hI=>by
  obtain ⟨k,k2,l,rfl,i1,i2,i3,i4,i5,i6⟩:=hI
  by_cases hc:k0+k2 < ys.length
  · left
    have e1:decide ((k2:Int) < ((ys.length - k0:Nat):Int))=true:=decide_eq_true (by omega)
    have ew:IntKind.wrap .i64 ((k2:Int) - 1)=((k2 - 1:Nat):Int):=by rw [w64_eq (by omega) (by omega)]; omega
    have g1:l[0+k0+k2]?=some (ys[k0+k2]'hc):=by rw [Nat.zero_add,i5 _ (by omega)]; exact List.getElem?_eq_getElem hc
    have g2:l[0+k0+(k2 - 1)]?=some (ys[k0+k2 - 1]'(by omega)):=by
     rw [show 0+k0+(k2 - 1)=k0+k2 - 1 by omega,i5 _ (by omega)]; exact List.getElem?_eq_getElem (by omega)
    have g3:l[0+k]?=some (l[k]'(by omega)):=by rw [Nat.zero_add]; exact List.getElem?_eq_getElem (by omega)
    have hddp:ddp ys (k0+k2+1)=if ys[k0+k2]'hc=ys[k0+k2 - 1]'(by omega) then ddp ys (k0+k2) else ddp ys (k0+k2)++[ys[k0+k2]'hc]:=by
     rw [ddp,List.getElem?_eq_getElem hc,List.getElem?_eq_getElem (show k0+k2 - 1 < ys.length by omega)]
     by_cases e:ys[k0+k2]'hc=ys[k0+k2 - 1]'(by omega)
     · rw [if_pos ⟨by omega,by rw [e]⟩,if_pos e]
     · rw [if_neg (fun q=>e (Option.some.inj q.2)),if_neg e]; rfl
    simp only [M_e,Int.toNat_natCast,e1,cond_true,ew,g1,g2,g3]
    rw [grd_t (by omega),grd_t (by omega),grd_t (by omega)]
    simp only [Option.bind_some,bnd]
    rw [w64_eq (n:=(k:Int)+1) (by omega) (by omega),w64_eq (n:=(k2:Int)+1) (by omega) (by omega)]
    by_cases e:ys[k0+k2]'hc=ys[k0+k2 - 1]'(by omega)
    · rw [if_pos e] at hddp
      rw [show (ys[k0+k2]'hc != ys[k0+k2 - 1]'(by omega))=false by simpa using e,cond_false]
      exact ⟨_,rfl,⟨k,k2+1,l,by simp,by omega,by omega,i3,by omega,fun p hp=>i5 p (by omega),by rw [show k0+(k2+1)=k0+k2+1 by omega,hddp]; exact i6⟩,by simp only []; omega⟩
    · rw [if_neg e] at hddp
      rw [show (ys[k0+k2]'hc != ys[k0+k2 - 1]'(by omega))=true by simpa using e,cond_true]
      refine ⟨_,rfl,⟨k+1,k2+1,l.set k (ys[k0+k2]'hc),by simp,by omega,by omega,by simpa using i3,by omega,fun p hp=>?_,?_⟩,by simp only []; omega⟩
      · rw [List.getElem?_set_ne (by omega)]; exact i5 p (by omega)
      · rw [show k0+(k2+1)=k0+k2+1 by omega,hddp,take_set1 _ (by omega),i6]
  · right
    have e1:decide ((k2:Int) < ((ys.length - k0:Nat):Int))=false:=decide_eq_false (by omega)
    refine ⟨_,by simp only [M_e,Int.toNat_natCast,e1,cond_false],k,l,rfl,i3,by omega,?_⟩
    rw [i6,show k0+k2=ys.length by omega]) N0 ((k0:Int),((1:Nat):Int),ys) ⟨k0,1,ys,rfl,by omega,by omega,rfl,by omega,fun p _=>rfl,hd.symm⟩ (N0_lt (by simp; omega))
 obtain ⟨k,l,rfl,q1,q2,q3⟩:=o2
 exact ⟨k,l,o1,q1,q2,q3⟩
theorem p_Compact (ys:List Int) (hl:ys.length≤1048576):∃ k l,M_ct 0 ys.length ys=some (0,k,l)∧subT l 0 k=ddp ys ys.length:=by
 unfold M_ct
 by_cases h:(ys.length:Int) < 2
 · rw [decide_eq_true h,cond_true]
   refine ⟨_,_,rfl,?_⟩
   rw [subT_all,ddp_take ys _ (fun i h1 h2=>by omega),List.take_length]
 rw [decide_eq_false h,cond_false]
 obtain ⟨o,o1,o2⟩:=iter_inv (f:=M_ar 0 ys.length ys) (fun s=>∃ i:Nat,s=i∧1≤i∧i≤ys.length∧ddp ys i=ys.take i) (fun s=>ys.length - s.toNat)
  (fun o=>(o=.inl ()∧ddp ys ys.length=ys)∨∃ k l,o=.inr (0,k,l)∧subT l 0 k=ddp ys ys.length) (fun s hI=>by
  obtain ⟨i,rfl,h1,h2,h3⟩:=hI
  by_cases hi:i < ys.length
  · have e1:decide ((i:Int) < (ys.length:Int))=true:=decide_eq_true (by omega)
    have ew:IntKind.wrap .i64 ((i:Int) - 1)=((i - 1:Nat):Int):=by rw [w64_eq (by omega) (by omega)]; omega
    have g1:ys[0+i]?=some (ys[i]'hi):=by rw [Nat.zero_add]; exact List.getElem?_eq_getElem hi
    have g2:ys[0+(i - 1)]?=some (ys[i - 1]'(by omega)):=by rw [Nat.zero_add]; exact List.getElem?_eq_getElem (by omega)
    simp only [M_ar,e1,cond_true,Int.toNat_natCast,g1,ew,g2]
    rw [grd_t (by omega),grd_t (by omega)]
    simp only [Option.bind_some]
    by_cases e:ys[i]'hi=ys[i - 1]'(by omega)
    · right
      have hd:ddp ys (i+1)=ys.take i:=by
       rw [ddp,if_pos ⟨by omega,by rw [List.getElem?_eq_getElem hi,List.getElem?_eq_getElem (show i - 1 < ys.length by omega),e]⟩,h3]
      obtain ⟨k,l,k1,k2,k3,k4⟩:=p_CompL2 ys hl i h1 hi hd
      rw [show (ys[i]'hi==ys[i - 1]'(by omega))=true by simpa using e,cond_true]
      simp only [Int.toNat_natCast,and_true,true_and]
      rw [grd_t (by omega)]
      simp only [Option.bind_some,k1,bnd,Int.toNat_natCast,and_true,true_and]
      rw [grd_t (by omega)]
      simp only [Option.bind_some]
      refine ⟨_,rfl,.inr ⟨k,_,rfl,?_⟩⟩
      rw [← k4,subT_drop,List.drop_zero]
      unfold over
      rw [if_pos (by simp; omega),Nat.zero_add]
      rw [List.append_assoc,List.take_append_of_le_length (by simp; omega),List.take_take,Nat.min_self]
    · left
      rw [show (ys[i]'hi==ys[i - 1]'(by omega))=false by simpa using e,cond_false,w64_eq (by omega) (by omega)]
      refine ⟨_,rfl,⟨i+1,rfl,by omega,by omega,?_⟩,by omega⟩
      rw [ddp,if_neg (fun q=>e (by
       have:=q.2
       rw [List.getElem?_eq_getElem hi,List.getElem?_eq_getElem (show i - 1 < ys.length by omega)] at this
       exact Option.some.inj this)),h3,List.take_add_one]
  · right
    have e1:decide ((i:Int) < (ys.length:Int))=false:=decide_eq_false (by omega)
    refine ⟨_,by simp only [M_ar,e1,cond_false],.inl ⟨rfl,?_⟩⟩
    rw [show ys.length=i by omega,h3,show i=ys.length by omega,List.take_length]) N0 ((1:Nat):Int) ⟨1,rfl,by omega,by omega,by
     rw [ddp_take ys 1 (fun i h1 h2=>by omega)]⟩ (N0_lt (by simp; omega))
 have e1:((1:Nat):Int)=1:=rfl
 rw [e1] at o1
 rw [o1]
 rcases o2 with ⟨rfl,q⟩ | ⟨k,l,rfl,q⟩
 · exact ⟨_,_,rfl,by rw [subT_all,q]⟩
 · exact ⟨k,l,rfl,q⟩
theorem p_common (a gone:List Int) (ha:a.length≤12) (hg:gone.length≤1048576):∃ l,M_bt a gone=some l∧l.Pairwise (· < ·)∧∀ x,x∈l↔x∈a∧x∈gone:=by
 unfold M_bt
 have hc:(comP a gone).length≤a.length:=List.length_filter_le ..
 rw [p_comL a gone (by omega) hg]
 simp only [Option.bind_some]
 obtain ⟨l,l1,l2,l3⟩:=p_SortI (comP a gone) (by omega)
 have hln:=l2.length_eq
 obtain ⟨k,l',k1,k2⟩:=p_Compact l (by omega)
 rw [l1]
 simp only [Option.bind_some]
 rw [← hln,k1]
 simp only [Option.bind_some,bnd,k2]
 obtain ⟨s1,_,s3⟩:=ddp_sorted l3 l.length (Nat.le_refl _)
 refine ⟨_,rfl,s1,fun x=>?_⟩
 rw [s3,List.take_length,l2.mem_iff]
 simp [comP]
def sepP (a gone:List Int):Bool:=!a.any fun x=>decide (x∈gone)
theorem sep_len {a gone l:List Int} (h:∀ x,x∈l↔x∈a∧x∈gone):((l.length:Int)==0)=sepP a gone:=by
 rw [Bool.eq_iff_iff]
 simp only [beq_iff_eq,sepP,Bool.not_eq_true',List.any_eq_false,decide_eq_true_eq]
 constructor
 · intro e x hx hg
   have:=(h x).2 ⟨hx,hg⟩
   have h0:l=[]:=List.length_eq_zero_iff.1 (by omega)
   rw [h0] at this; cases this
 · intro hn
   cases l with
   | nil=>rfl
   | cons x l=>exact (hn x ((h x).1 (by simp)).1 ((h x).1 (by simp)).2).elim
theorem sep_gt {a gone l:List Int} (h:∀ x,x∈l↔x∈a∧x∈gone):decide ((0:Int) < (l.length:Int))=!sepP a gone:=by
 rw [← sep_len h,Bool.eq_iff_iff]
 simp only [decide_eq_true_eq,Bool.not_eq_true',beq_eq_false_iff_ne]
 omega
end Vs

namespace Vs
open Go
def blkOk (b:TBlock):Bool:=wi b.First 0 23&&wi b.Count 1 (24 - b.First)
theorem p_l8Good (b:TBlock):M_ek b=some (blkOk b):=by
 unfold M_ek blkOk
 simp only [p_l1In,Option.bind_some]
 rcases bt (wi b.First 0 23) with e | e
 · have:=wi_iff.1 e
   rw [e,cond_true,w64_eq (by omega) (by omega),Bool.true_and]
 · rw [e]; rfl
theorem p_IsValidBlock (b:TBlock):M_ex b=some (blkOk b):=by
 unfold M_ex blkOk
 simp only [p_within,Option.bind_some]
 by_cases h1:0≤b.First
 · rw [decide_eq_true h1,cond_true]
   rcases bt (wi b.Count 1 24) with e | e
   · have:=wi_iff.1 e
     rw [e,cond_true,w64_eq (by omega) (by omega)]
     congr 1
     rw [Bool.eq_iff_iff]
     simp only [decide_eq_true_eq,Bool.and_eq_true,wi_iff]
     omega
   · rw [e,cond_false]
     congr 1
     symm
     rw [Bool.eq_false_iff]
     intro h
     simp only [Bool.and_eq_true,wi_iff] at h
     have:=wi_false.1 e
     omega
 · rw [decide_eq_false h1,cond_false]
   congr 1
   symm
   rw [Bool.eq_false_iff]
   intro h
   simp only [Bool.and_eq_true,wi_iff] at h
   omega
def blkIn (b:TBlock):Prop:=(0≤b.First∧b.First≤24)∧0≤b.Count∧b.Count≤24
theorem blk_in {b:TBlock} (h:blkOk b=true):blkIn b:=by
 unfold blkOk at h
 simp only [Bool.and_eq_true,wi_iff] at h
 unfold blkIn; omega
def maskB (b:TBlock):Int:=IntKind.wrap .i64 ((IntKind.wrap .i64 ((IntKind.wrap .i64 (1 * 2 ^ (min (Int.toNat b.Count) (IntKind.bits .i64)))) - 1)) * 2 ^ (min (Int.toNat b.First) (IntKind.bits .i64)))
theorem p_maskOf {b:TBlock} (h:blkIn b):M_cs b=some (maskB b):=by
 unfold M_cs
 rw [grd_t h.2.1]
 simp only [Option.bind_some]
 rw [grd_t h.1.1]; rfl
theorem p_l8Bits {b:TBlock} (h:blkIn b):M_cm b=some (maskB b):=by
 unfold M_cm
 have h1:=h.1
 have h2:=h.2
 rw [w64u_eq (n:=b.Count) (by omega) (by omega),w64u_eq (n:=b.First) (by omega) (by omega),grd_t h2.1]
 simp only [Option.bind_some]
 rw [grd_t h1.1]; rfl
theorem p_l4Uses (r:TRoute) (g:List Int) (hr:r.Fibers.length≤1048576) (hg:g.length≤1048576):M_bs r g=some (!sepP r.Fibers g):=by
 unfold M_bs
 rw [iter_any (f:=M_ae r g) r.Fibers (fun x=>decide (x∈g)) (.inr true) (.inl ()) (fun i y hy=>by
  have hlt:=(List.getElem?_eq_some_iff.1 hy).1
  have h1:decide ((i:Int) < r.Fibers.length)=true:=by simp [hlt]
  simp only [M_ae,h1,cond_true,geti_nat,hy,Option.bind_some,p_l1Has g y hg,← any_mem]
  rw [w64_eq (by omega) (by omega)]
  cases decide (y∈g) <;> rfl) (by simp [M_ae]) (by omega)]
 unfold sepP
 rw [Bool.not_not]
 cases (r.Fibers.any fun x=>decide (x∈g)) <;> rfl
def clashP (a:TRoute) (x:TBlock) (b:TRoute) (y:TBlock):Bool:=(bits .and .i64 (maskB x) (maskB y) != 0)&&!sepP a.Fibers b.Fibers
end Vs

namespace Vs
open Go
def endI (n:TNetwork) (r:TRoute):Int:=match visP n r with | some l=>gz l (l.length - 1) | none=>0
structure RteIn (n:TNetwork) (r:TRoute):Prop where
 len:r.Fibers.length≤12
 fib:∀ x∈r.Fibers,fibI n x
 nod:r.Fibers.Nodup
theorem vis_in {n:TNetwork} (h:netOk n=true) {r:TRoute} {l:List Int} (hl:visP n r=some l):RteIn n r∧l.length=r.Fibers.length+1:=by
 obtain ⟨g1,g2,g3,g4,g5⟩:=rte_facts (net_ends h) hl
 have:=nodup_le n.Nodes.length l g1 g2
 have:=netOk_b h
 exact ⟨⟨by omega,g4,g5⟩,g3⟩
theorem p_l4End {n:TNetwork} {r:TRoute} {l:List Int} (h:netOk n=true) (hr:r.Fibers.length≤1048576) (hl:visP n r=some l):M_co n r=some (endI n r):=by
 have hb:=netOk_b h
 obtain ⟨o,o1,o2⟩:=p_l4Walk n r (by omega) (by omega) hr
 obtain rfl:=o2 l hl
 obtain ⟨hi,hlen⟩:=vis_in h hl
 have:=hi.len
 unfold M_co M_fp endI
 rw [o1,hl]
 simp only [Option.bind_some]
 have e:IntKind.wrap .i64 ((o.length:Int) - 1)=((o.length - 1:Nat):Int):=by rw [w64_eq (by omega) (by omega)]; omega
 rw [e,grd_t (by omega)]
 simp only [Option.bind_some,Int.toNat_natCast]
 rw [gz_at (by omega)]; rfl
end Vs

namespace Vs
open Go
def setBad (l:List Int) (N:Int) (i:Nat) (k:Int):Bool:=!wi k 0 (N - 1)||(decide (0 < i)&&match l[i - 1]? with | some p=>decide (k≤p) | none=>false)
def setP (l:List Int) (N:Int):Bool:=!anyI (setBad l N) l
theorem p_isSet (l:List Int) (N:Nat) (hN:N≤1048576) (hl:l.length≤1048576):M_cv l (N:Int)=some (setP l N):=by
 unfold M_cv setP
 rw [iter_anyI (f:=M_n l (N:Int)) l (setBad l N) (.inr false) (.inl ()) (fun i x hx hprev=>by
  have hlt:=(List.getElem?_eq_some_iff.1 hx).1
  have h1:decide ((i:Int) < l.length)=true:=by simp [hlt]
  simp only [M_n,h1,cond_true,geti_nat,hx,Option.bind_some,p_within]
  rw [w64_eq (n:=(N:Int) - 1) (by omega) (by omega),w64_eq (n:=(i:Int)+1) (by omega) (by omega)]
  unfold setBad
  by_cases h0:0 < i
  · have e0:decide ((0:Int) < (i:Int))=true:=decide_eq_true (by omega)
    have ew:IntKind.wrap .i64 ((i:Int) - 1)=((i - 1:Nat):Int):=by rw [w64_eq (by omega) (by omega)]; omega
    have hg:l[i - 1]?=some (l[i - 1]'(by omega)):=List.getElem?_eq_getElem (by omega)
    rw [e0,ew,geti_nat,hg,decide_eq_true h0]
    simp only [cond_true,Option.bind_some,Bool.true_and]
    cases wi x 0 ((N:Int) - 1) <;> cases decide (x≤l[i - 1]'(by omega)) <;> rfl
  · have e0:decide ((0:Int) < (i:Int))=false:=decide_eq_false (by omega)
    rw [e0,decide_eq_false h0]
    cases wi x 0 ((N:Int) - 1) <;> rfl) (by simp [M_n]) (by omega)]
 cases anyI (setBad l N) l <;> rfl
theorem p_l1Rising (l:List Int) (N:Int) (hl:l.length≤1048576):M_cn l 0 (N - 1)=some (setP l N):=by
 unfold M_cn setP
 rw [iter_anyI (f:=M_ag l 0 (N - 1)) l (setBad l N) (.inr false) (.inl ()) (fun i x hx hprev=>by
  have hlt:=(List.getElem?_eq_some_iff.1 hx).1
  have h1:decide ((i:Int) < l.length)=true:=by simp [hlt]
  simp only [M_ag,h1,cond_true,geti_nat,hx,Option.bind_some,p_l1In]
  rw [w64_eq (n:=(i:Int)+1) (by omega) (by omega)]
  unfold setBad
  by_cases h0:0 < i
  · have e0:decide ((0:Int) < (i:Int))=true:=decide_eq_true (by omega)
    have ew:IntKind.wrap .i64 ((i:Int) - 1)=((i - 1:Nat):Int):=by rw [w64_eq (by omega) (by omega)]; omega
    have hg:l[i - 1]?=some (l[i - 1]'(by omega)):=List.getElem?_eq_getElem (by omega)
    rw [e0,ew,geti_nat,hg,decide_eq_true h0]
    simp only [cond_true,Option.bind_some,Bool.true_and]
    cases wi x 0 (N - 1) <;> cases decide (x≤l[i - 1]'(by omega)) <;> rfl
  · have e0:decide ((0:Int) < (i:Int))=false:=decide_eq_false (by omega)
    rw [e0,decide_eq_false h0]
    cases wi x 0 (N - 1) <;> rfl) (by simp [M_ag]) (by omega)]
 cases anyI (setBad l N) l <;> rfl
theorem rise_pw {l:List Int} (h:∀ (i:Nat) (a b:Int),l[i]?=some a→l[i+1]?=some b→a < b):l.Pairwise (· < ·):=by
 rw [List.pairwise_iff_getElem]
 intro i j hi hj hij
 obtain ⟨d,rfl⟩:∃ d,j=i+1+d:=⟨j - i - 1,by omega⟩
 induction d with
 | zero=>exact h i _ _ (List.getElem?_eq_getElem hi) (List.getElem?_eq_getElem hj)
 | succ d ih =>
   have h1:=ih (by omega) (by omega)
   have h2:=h (i+1+d) _ _ (List.getElem?_eq_getElem (by omega)) (List.getElem?_eq_getElem (by omega))
   have h3:l[i+1+(d+1)]'hj=l[i+1+d+1]'(by omega):=rfl
   omega
theorem set_in {l:List Int} {N:Int} (h:setP l N=true):l.Pairwise (· < ·)∧∀ x∈l,0≤x∧x < N:=by
 unfold setP at h
 have h2:=anyI_false.1 (by simpa using h)
 refine ⟨rise_pw fun i a b ha hb=>?_,fun x hx=>?_⟩
 · have:=h2 (i+1) b hb
   unfold setBad at this
   simp only [Nat.add_sub_cancel,ha,Bool.or_eq_false_iff,Bool.and_eq_false_iff,decide_eq_false_iff_not] at this
   omega
 · obtain ⟨i,hi⟩:=List.getElem?_of_mem hx
   have:=h2 i x hi
   unfold setBad at this
   simp only [Bool.or_eq_false_iff,Bool.not_eq_false',wi_iff] at this
   omega
theorem rise_nodup {l:List Int} (h:l.Pairwise (· < ·)):l.Nodup:=h.imp fun h=>by omega
theorem set_len {l:List Int} {N:Nat} (h:setP l N=true):l.length≤N:=by
 obtain ⟨h1,h2⟩:=set_in h
 exact nodup_le N l (rise_nodup h1) h2
theorem p_l1Put (x:Int) (l:List Int) (hl:l.length≤1048576):∃ o,M_eq x l=some o∧(∀ y,y∈o↔y=x∨y∈l)∧o.length≤l.length+1∧(l.Pairwise (· < ·)→o.Pairwise (· < ·)):=by
 obtain ⟨k',k1,k,rfl,k2,k3,k4⟩:=iter_inv (f:=M_i x l) (fun s=>∃ k:Nat,s=(k:Int)∧k≤l.length∧∀ j y,j < k→l[j]?=some y→y < x) (fun s=>l.length - s.toNat)
  (fun o=>∃ k:Nat,o=(k:Int)∧k≤l.length∧(∀ j y,j < k→l[j]?=some y→y < x)∧∀ y,l[k]?=some y→x≤y) (fun s hI=>by
  obtain ⟨k,rfl,h1,h2⟩:=hI
  by_cases hk:k < l.length
  · have e1:decide ((k:Int) < (l.length:Int))=true:=decide_eq_true (by omega)
    have hg:l[k]?=some (l[k]'hk):=List.getElem?_eq_getElem hk
    simp only [M_i,e1,cond_true,Int.toNat_natCast,hg]
    rw [grd_t (by omega)]
    simp only [Option.bind_some]
    by_cases hlt:l[k]'hk < x
    · left
      rw [decide_eq_true hlt,cond_true,w64_eq (by omega) (by omega)]
      refine ⟨_,rfl,⟨k+1,by simp,by omega,fun j y hj hy=>?_⟩,by omega⟩
      by_cases c:j=k
      · subst c; rw [hg] at hy; cases hy; exact hlt
      · exact h2 j y (by omega) hy
    · right
      rw [decide_eq_false hlt,cond_false]
      exact ⟨_,rfl,k,rfl,h1,h2,fun y hy=>by rw [hg] at hy; cases hy; omega⟩
  · right
    have e1:decide ((k:Int) < (l.length:Int))=false:=decide_eq_false (by omega)
    exact ⟨_,by simp only [M_i,e1,cond_false],k,rfl,h1,h2,fun y hy=>by have:=(List.getElem?_eq_some_iff.1 hy).1; omega⟩) N0 ((0:Nat):Int) ⟨0,rfl,by omega,fun j y hj=>by omega⟩ (N0_lt (by simp; omega))
 unfold M_eq
 have e0:((0:Nat):Int)=0:=rfl
 rw [e0] at k1
 rw [k1]
 simp only [Option.bind_some,Int.toNat_natCast]
 by_cases hc:k < l.length∧l[k]?=some x
 · have e1:decide ((k:Int) < (l.length:Int))=true:=decide_eq_true (by omega)
   rw [e1,cond_true,grd_t (by omega),hc.2]
   simp only [Option.bind_some,beq_self_eq_true,cond_true]
   exact ⟨l,rfl,fun y=>⟨.inr,fun h=>h.elim (fun e=>e ▸ List.mem_of_getElem? hc.2) id⟩,by omega,id⟩
 · have hcond:(cond (decide ((k:Int) < (l.length:Int))) ((grd (0≤(k:Int)∧(k:Int) < (l.length:Int))).bind fun _=>(l[k]?).bind fun yZ9=>some (yZ9==x)) (some false):Option Bool)=some false:=by
    by_cases hk:k < l.length
    · have hg:l[k]?=some (l[k]'hk):=List.getElem?_eq_getElem hk
      rw [decide_eq_true (by omega),cond_true,grd_t (by omega),hg]
      simp only [Option.bind_some]
      congr 1
      rw [beq_eq_false_iff_ne]
      intro e; exact hc ⟨hk,by rw [hg,e]⟩
    · rw [decide_eq_false (by omega)]; rfl
   rw [hcond]
   have ht:subT l 0 k=l.take k:=by rw [subT_drop,List.drop_zero]
   have hd:subT l k (l.length - k)=l.drop k:=by
    rw [subT_drop,List.take_of_length_le (by simp)]
   simp only [Option.bind_some,cond_false,and_true,true_and,ht,hd,bnd]
   rw [grd_t (by omega)]
   simp only [Option.bind_some]
   rw [grd_t (by simp; omega)]
   simp only [Option.bind_some]
   rw [grd_t (by simp; omega)]
   simp only [Option.bind_some]
   rw [grd_t (by simp; omega)]
   refine ⟨l.take k++[x]++l.drop k,rfl,fun y=>?_,by simp; omega,fun hs=>?_⟩
   · have:y∈l↔y∈l.take k∨y∈l.drop k:=by rw [← List.mem_append,List.take_append_drop]
     rw [this]
     simp only [List.mem_append,List.mem_singleton]
     constructor
     · rintro ((h | h) | h)
       · exact .inr (.inl h)
       · exact .inl h
       · exact .inr (.inr h)
     · rintro (h | h | h)
       · exact .inl (.inr h)
       · exact .inl (.inl h)
       · exact .inr h
   · have hlow:∀ y∈l.take k,y < x:=fun y hy=>by
      obtain ⟨j,hj⟩:=List.getElem?_of_mem hy
      rw [List.getElem?_take] at hj
      split at hj
      · rename_i hjk; exact k3 j y hjk hj
      · cases hj
     have hhigh:∀ y∈l.drop k,x < y:=fun y hy=>by
      obtain ⟨j,hj⟩:=List.getElem?_of_mem hy
      rw [List.getElem?_drop] at hj
      obtain ⟨q1,q2⟩:=List.getElem?_eq_some_iff.1 hj
      have hkl:k < l.length:=by omega
      have hx2:=k4 _ (List.getElem?_eq_getElem hkl)
      have hne:l[k]'hkl ≠ x:=fun e=>hc ⟨hkl,by rw [List.getElem?_eq_getElem hkl,e]⟩
      by_cases c:j=0
      · subst c
        have:l[k+0]'q1=l[k]'hkl:=rfl
        omega
      · have:=List.pairwise_iff_getElem.1 hs k (k+j) hkl q1 (by omega)
        omega
     rw [List.pairwise_append,List.pairwise_append]
     refine ⟨⟨hs.sublist (List.take_sublist k l),by simp,fun a ha b hb=>?_⟩,hs.sublist (List.drop_sublist k l),fun a ha b hb=>?_⟩
     · rw [List.mem_singleton.1 hb]; exact hlow a ha
     · rcases List.mem_append.1 ha with h | h
       · have:=hlow a h; have:=hhigh b hb; omega
       · rw [List.mem_singleton.1 h]; exact hhigh b hb
end Vs

namespace Vs
open Go
def lgtOk (n:TNetwork) (x:TLight):Bool:=wi x.Id 1 999&&(visP n x.Route).isSome&&blkOk x.Block
structure LgtIn (n:TNetwork) (x:TLight):Prop where
 r:RteIn n x.Route
 b:blkIn x.Block
theorem lgt_in {n:TNetwork} {x:TLight} (h:netOk n=true) (hx:lgtOk n x=true):LgtIn n x:=by
 unfold lgtOk at hx
 simp only [Bool.and_eq_true] at hx
 obtain ⟨⟨_,h2⟩,h3⟩:=hx
 obtain ⟨l,hl⟩:=Option.isSome_iff_exists.1 h2
 exact ⟨(vis_in h hl).1,blk_in h3⟩
theorem p_isLight (n:TNetwork) (x:TLight) (h:netOk n=true) (hr:x.Route.Fibers.length≤1048576):M_ey n x=some (lgtOk n x):=by
 have hb:=netOk_b h
 unfold M_ey lgtOk
 simp only [p_within,p_IsValidBlock,p_visited n x.Route (by omega) (by omega) hr,Option.bind_some]
 cases visP n x.Route with
 | none=>simp
 | some l=>cases wi x.Id 1 999 <;> cases blkOk x.Block <;> rfl
theorem p_l9Light (n:TNetwork) (x:TLight) (h:netOk n=true) (hz:z_Network n≤1048576) (hr:x.Route.Fibers.length≤1048576):M_el n x=some (lgtOk n x):=by
 unfold M_el lgtOk
 have hg:M_dd n x.Route=some (visP n x.Route).isSome:=by
  rw [p_l4Good n x.Route hz hr]; unfold rteOk; rw [h,Bool.true_and]
 simp only [p_l1In,p_l8Good,hg,Option.bind_some]
 cases wi x.Id 1 999 <;> cases (visP n x.Route).isSome <;> rfl
theorem p_collide (n:TNetwork) (a b:TLight) (ha:LgtIn n a) (hb:LgtIn n b):M_ez a b=some (clashP a.Route a.Block b.Route b.Block):=by
 have h1:=ha.r.len
 have h2:=hb.r.len
 unfold M_ez clashP
 obtain ⟨l,l1,_,l3⟩:=p_common a.Route.Fibers b.Route.Fibers h1 (by omega)
 simp only [p_maskOf ha.b,p_maskOf hb.b,Option.bind_some,l1,sep_gt l3]
 cases bits .and .i64 (maskB a.Block) (maskB b.Block) != 0 <;> rfl
theorem p_l9Collide (n:TNetwork) (a b:TLight) (ha:LgtIn n a) (hb:LgtIn n b):M_em a b=some (clashP a.Route a.Block b.Route b.Block):=by
 have h1:=ha.r.len
 have h2:=hb.r.len
 unfold M_em clashP
 simp only [p_l4Uses a.Route b.Route.Fibers (by omega) (by omega),p_l8Bits ha.b,p_l8Bits hb.b,Option.bind_some]
 cases sepP a.Route.Fibers b.Route.Fibers <;> simp
theorem z_lgt {list:List TLight} (h:z_LightS list≤1048576) {s:TLight} (hs:s∈list):s.Route.Fibers.length≤1048576:=by
 obtain ⟨i,hi⟩:=List.getElem?_of_mem hs
 have h2:s.Route.Fibers.length≤(list.map fun x=>z_Light x).sum:=sum_ge (fun x=>z_Light x) hi
 unfold z_LightS at h
 omega
theorem z_lgl {list:List TLight} (h:z_LightS list≤1048576):list.length≤1048576:=by unfold z_LightS at h; omega
def plnBad (n:TNetwork) (list:List TLight) (i:Nat) (s:TLight):Bool :=
 !lgtOk n s||(decide (0 < i)&&match list[i - 1]? with | some g=>decide (s.Id≤g.Id) | none=>false)||(list.take i).any fun o=>clashP o.Route o.Block s.Route s.Block
def plnOk (p:TPlan):Bool:=netOk p.Network&&decide (p.Lights.length≤12)&&!anyI (plnBad p.Network p.Lights) p.Lights
theorem p_CFL (xs:List TLight) (f:TLight→Option Bool) (p:TLight→Bool) (hf:∀ x∈xs,f x=some (p x)) (hl:xs.length≤1048576):M_br xs f=some (xs.any p):=by
 unfold M_br M_cb
 rw [iter_findI (f:=M_g xs f) xs (fun _ x=>p x) (fun i _=>(i:Int)) () (fun i x hx _=>by
  have hlt:=(List.getElem?_eq_some_iff.1 hx).1
  have h1:decide ((i:Int) < xs.length)=true:=by simp [hlt]
  simp only [M_g,h1,cond_true,geti_nat,hx,hf x (List.mem_of_getElem? hx),Option.bind_some]
  rw [w64_eq (by omega) (by omega)]
  cases p x <;> rfl) (by simp [M_g]) (by omega)]
 rw [← anyI_any]
 cases e:findI (fun _ x=>p x) xs with
 | none =>
   have h:anyI (fun _ x=>p x) xs=false:=anyI_false.2 (findI_none.1 e)
   rw [h]; rfl
 | some q =>
   obtain ⟨i,x⟩:=q
   obtain ⟨h1,h2,_⟩:=findI_some.1 e
   have h:anyI (fun _ x=>p x) xs=true:=anyI_iff.2 ⟨i,x,h1,h2⟩
   rw [h]; simp
def fidL (xs:List TLight) (id:Int):Option (Nat×TLight):=findI (fun _ x=>x.Id==id) xs
def fidI (xs:List TLight) (id:Int):Int:=match fidL xs id with | some q=>(q.1:Int) | none=>-1
theorem p_IFL (xs:List TLight) (f:TLight→Option Bool) (p:TLight→Bool) (hf:∀ x∈xs,f x=some (p x)) (hl:xs.length≤1048576):M_cb xs f=some (match findI (fun _ x=>p x) xs with | some q=>(q.1:Int) | none=>-1):=by
 unfold M_cb
 rw [iter_findI (f:=M_g xs f) xs (fun _ x=>p x) (fun i _=>(i:Int)) () (fun i x hx _=>by
  have hlt:=(List.getElem?_eq_some_iff.1 hx).1
  have h1:decide ((i:Int) < xs.length)=true:=by simp [hlt]
  simp only [M_g,h1,cond_true,geti_nat,hx,hf x (List.mem_of_getElem? hx),Option.bind_some]
  rw [w64_eq (by omega) (by omega)]
  cases p x <;> rfl) (by simp [M_g]) (by omega)]
 cases findI (fun _ x=>p x) xs <;> rfl
theorem takeL_good {n:TNetwork} (h:netOk n=true) {list:List TLight} {i:Nat} (hprev:∀ j y,j < i→list[j]?=some y→plnBad n list j y=false):∀ o∈list.take i,LgtIn n o:=by
 intro o ho
 obtain ⟨j,hj⟩:=List.getElem?_of_mem ho
 rw [List.getElem?_take] at hj
 split at hj
 · rename_i hji
   have:=hprev j o hji hj
   unfold plnBad at this
   simp only [Bool.or_eq_false_iff,Bool.not_eq_false'] at this
   exact lgt_in h this.1.1
 · cases hj
theorem p_IsValidPlan (p:TPlan) (hz:z_Network p.Network≤1048576) (hl:z_LightS p.Lights≤1048576):M_cc p=some (plnOk p):=by
 have hll:=z_lgl hl
 unfold M_cc plnOk
 rw [p_IsValidNetwork p.Network hz]
 simp only [Option.bind_some]
 rcases bt (netOk p.Network) with hn | hn
 · rw [hn]
   simp only [Bool.not_true,cond_false,Option.bind_some,Bool.true_and]
   by_cases h8:p.Lights.length≤12
   · have e8:decide ((12:Int) < (p.Lights.length:Int))=false:=decide_eq_false (by omega)
     rw [e8,cond_false,decide_eq_true h8,Bool.true_and]
     rw [iter_anyI (f:=M_m p) p.Lights (plnBad p.Network p.Lights) (.inr false) (.inl ()) (fun i x hx hprev=>by
      have hlt:=(List.getElem?_eq_some_iff.1 hx).1
      have h1:decide ((i:Int) < p.Lights.length)=true:=by simp [hlt]
      have w1:=z_lgt hl (List.mem_of_getElem? hx)
      simp only [M_m,h1,cond_true,geti_nat,hx,Option.bind_some,p_isLight p.Network x hn w1,slT_nat p.Lights i (by omega)]
      unfold plnBad
      rcases bt (lgtOk p.Network x) with e | e
      · have hin:=lgt_in hn e
        have hcf:M_br (p.Lights.take i) (fun x0=>M_cu x0 x)=some ((p.Lights.take i).any fun o=>clashP o.Route o.Block x.Route x.Block):=p_CFL _ _ _ (fun o ho=>by
         unfold M_cu
         rw [p_collide p.Network o x (takeL_good hn hprev o ho) hin]; rfl) (by simp; omega)
        rw [e]
        simp only [Bool.not_true,cond_false,Bool.false_or,hcf,Option.bind_some]
        rw [w64_eq (n:=(i:Int)+1) (by omega) (by omega)]
        by_cases h0:0 < i
        · have e0:decide ((0:Int) < (i:Int))=true:=decide_eq_true (by omega)
          have ew:IntKind.wrap .i64 ((i:Int) - 1)=((i - 1:Nat):Int):=by rw [w64_eq (by omega) (by omega)]; omega
          have hg:p.Lights[i - 1]?=some (p.Lights[i - 1]'(by omega)):=List.getElem?_eq_getElem (by omega)
          rw [e0,cond_true,ew,geti_nat,hg,decide_eq_true h0]
          simp only [Option.bind_some,Bool.true_and]
          cases decide (x.Id≤(p.Lights[i - 1]'(by omega)).Id) <;> cases ((p.Lights.take i).any fun o=>clashP o.Route o.Block x.Route x.Block) <;> rfl
        · have e0:decide ((0:Int) < (i:Int))=false:=decide_eq_false (by omega)
          rw [e0,cond_false,decide_eq_false h0]
          simp only [Bool.false_and,Bool.false_or]
          cases ((p.Lights.take i).any fun o=>clashP o.Route o.Block x.Route x.Block) <;> rfl
      · rw [e]; rfl) (by simp [M_m]) (by omega)]
     cases anyI (plnBad p.Network p.Lights) p.Lights <;> rfl
   · have e8:decide ((12:Int) < (p.Lights.length:Int))=true:=decide_eq_true (by omega)
     rw [e8,cond_true,decide_eq_false h8]; rfl
 · rw [hn]; rfl
theorem p_l9Good (p:TPlan) (hz:z_Network p.Network≤1048576) (hl:z_LightS p.Lights≤1048576):M_ca p=some (plnOk p):=by
 have hll:=z_lgl hl
 unfold M_ca plnOk
 rw [p_l2Good p.Network hz]
 simp only [Option.bind_some]
 rcases bt (netOk p.Network) with hn | hn
 · rw [hn]
   simp only [Bool.not_true,cond_false,Option.bind_some,Bool.true_and]
   by_cases h8:p.Lights.length≤12
   · have e8:decide ((12:Int) < (p.Lights.length:Int))=false:=decide_eq_false (by omega)
     rw [e8,cond_false,decide_eq_true h8,Bool.true_and]
     rw [iter_anyI (f:=M_af p) p.Lights (plnBad p.Network p.Lights) (.inr false) (.inl ()) (fun i x hx hprev=>by
      have hlt:=(List.getElem?_eq_some_iff.1 hx).1
      have h1:decide ((i:Int) < p.Lights.length)=true:=by simp [hlt]
      have w1:=z_lgt hl (List.mem_of_getElem? hx)
      simp only [M_af,h1,cond_true,geti_nat,hx,Option.bind_some,p_l9Light p.Network x hn hz w1]
      rw [w64_eq (n:=(i:Int)+1) (by omega) (by omega)]
      unfold plnBad
      rcases bt (lgtOk p.Network x) with e | e
      · have hin:=lgt_in hn e
        have hcf:iter (M_h p (i:Int)) N0 0=some (if (p.Lights.take i).any (fun o=>clashP o.Route o.Block x.Route x.Block) then .inr false else .inl ()):=by
         refine iter_any (f:=M_h p (i:Int)) (p.Lights.take i) (fun o=>clashP o.Route o.Block x.Route x.Block) (.inr false) (.inl ()) (fun k o ho=>?_) ?_ (by simp; omega)
         · have hin2:=takeL_good hn hprev o (List.mem_of_getElem? ho)
           rw [List.getElem?_take] at ho
           split at ho
           · rename_i hki
             have h1:decide ((k:Int) < (i:Int))=true:=decide_eq_true (by omega)
             simp only [M_h,h1,cond_true,geti_nat,ho,hx,Option.bind_some,p_l9Collide p.Network o x hin2 hin]
             rw [w64_eq (by omega) (by omega)]
             cases clashP o.Route o.Block x.Route x.Block <;> rfl
           · cases ho
         · have h1:decide ((((p.Lights.take i).length:Nat):Int) < (i:Int))=false:=decide_eq_false (by simp; omega)
           simp only [M_h,h1,cond_false]
        rw [e]
        simp only [Bool.not_true,cond_false,Bool.false_or,hcf,Option.bind_some]
        by_cases h0:0 < i
        · have e0:decide ((0:Int) < (i:Int))=true:=decide_eq_true (by omega)
          have ew:IntKind.wrap .i64 ((i:Int) - 1)=((i - 1:Nat):Int):=by rw [w64_eq (by omega) (by omega)]; omega
          have hg:p.Lights[i - 1]?=some (p.Lights[i - 1]'(by omega)):=List.getElem?_eq_getElem (by omega)
          rw [e0,cond_true,ew,geti_nat,hg,decide_eq_true h0]
          simp only [Option.bind_some,Bool.true_and]
          cases decide (x.Id≤(p.Lights[i - 1]'(by omega)).Id) <;> cases ((p.Lights.take i).any fun o=>clashP o.Route o.Block x.Route x.Block) <;> rfl
        · have e0:decide ((0:Int) < (i:Int))=false:=decide_eq_false (by omega)
          rw [e0,cond_false,decide_eq_false h0]
          simp only [Option.bind_some,cond_false,Bool.false_and,Bool.false_or]
          cases ((p.Lights.take i).any fun o=>clashP o.Route o.Block x.Route x.Block) <;> rfl
      · rw [e]; rfl) (by simp [M_af]) (by omega)]
     cases anyI (plnBad p.Network p.Lights) p.Lights <;> rfl
   · have e8:decide ((12:Int) < (p.Lights.length:Int))=true:=decide_eq_true (by omega)
     rw [e8,cond_true,decide_eq_false h8]; rfl
 · rw [hn]; rfl
structure PlnIn (p:TPlan):Prop where
 net:netOk p.Network=true
 len:p.Lights.length≤12
 lgt:∀ s∈p.Lights,LgtIn p.Network s
 ok:∀ s∈p.Lights,lgtOk p.Network s=true
 asc:∀ (i:Nat) (a b:TLight),p.Lights[i]?=some a→p.Lights[i+1]?=some b→a.Id < b.Id
theorem pln_in {p:TPlan} (h:plnOk p=true):PlnIn p:=by
 unfold plnOk at h
 simp only [Bool.and_eq_true,decide_eq_true_eq,Bool.not_eq_true'] at h
 obtain ⟨⟨h1,h2⟩,h3⟩:=h
 have key:∀ s∈p.Lights,lgtOk p.Network s=true:=fun s hs=>by
  obtain ⟨i,hi⟩:=List.getElem?_of_mem hs
  have:=anyI_false.1 h3 i s hi
  unfold plnBad at this
  simp only [Bool.or_eq_false_iff,Bool.not_eq_false'] at this
  exact this.1.1
 refine ⟨h1,h2,fun s hs=>lgt_in h1 (key s hs),key,fun i a b ha hb=>?_⟩
 have:=anyI_false.1 h3 (i+1) b hb
 unfold plnBad at this
 simp only [Nat.add_sub_cancel,ha,Bool.or_eq_false_iff,Bool.and_eq_false_iff,decide_eq_false_iff_not] at this
 omega
theorem vis_some {n:TNetwork} {x:TLight} (h:lgtOk n x=true):∃ l,visP n x.Route=some l:=by
 unfold lgtOk at h
 simp only [Bool.and_eq_true] at h
 exact Option.isSome_iff_exists.1 h.1.2
end Vs

namespace Vs
open Go
theorem p_endOf {n:TNetwork} {r:TRoute} {l:List Int} (h:netOk n=true) (hr:r.Fibers.length≤1048576) (hl:visP n r=some l):M_cw n r=some (endI n r):=by
 have hb:=netOk_b h
 obtain ⟨hi,hlen⟩:=vis_in h hl
 have:=hi.len
 unfold M_cw endI
 rw [p_visited n r (by omega) (by omega) hr,hl]
 simp only [Option.bind_some]
 have e:IntKind.wrap .i64 ((l.length:Int) - 1)=((l.length - 1:Nat):Int):=by rw [w64_eq (by omega) (by omega)]; omega
 rw [e,grd_t (by omega)]
 simp only [Option.bind_some,Int.toNat_natCast]
 rw [gz_at (by omega)]; rfl
def rstBad (r:TRestoration) (x:TLight):Bool:=match fidL r.Home x.Id with
 | none=>true
 | some q=>!sepP x.Route.Fibers r.Down||(q.2.Route.Start != x.Route.Start||(endI r.Plan.Network q.2.Route != endI r.Plan.Network x.Route||q.2.Block.Count != x.Block.Count))
def rstOk (r:TRestoration):Bool:=(plnOk r.Plan&&plnOk ⟨r.Plan.Network,r.Home⟩&&setP r.Down r.Plan.Network.Fibers.length)&&!r.Plan.Lights.any fun x=>rstBad r x
theorem z_rst {r:TRestoration} (h:z_Restoration r≤1048576):z_Network r.Plan.Network≤1048576∧z_LightS r.Plan.Lights≤1048576∧z_LightS r.Home≤1048576∧r.Down.length≤1048576:=by
 have e:z_Restoration r=z_Network r.Plan.Network+z_LightS r.Plan.Lights+z_LightS r.Home+r.Down.length:=by
  unfold z_Restoration z_Plan z_IntS; omega
 omega
theorem p_homeOf (r:TRestoration) (id:Int) (hl:r.Home.length≤1048576):M_fa r id=some (fidI r.Home id):=by
 unfold M_fa fidI fidL
 rw [p_IFL r.Home (fun x0=>M_fv x0 id) (fun x=>x.Id==id) (fun x _=>rfl) hl]; rfl
theorem p_l15Find (xs:List TLight) (id:Int) (hl:xs.length≤1048576):M_en xs id=some (fidI xs id):=by
 unfold M_en fidI fidL
 rw [iter_findI (f:=M_ah xs id) xs (fun _ x=>x.Id==id) (fun i _=>(i:Int)) () (fun i x hx _=>by
  have hlt:=(List.getElem?_eq_some_iff.1 hx).1
  have h1:decide ((i:Int) < xs.length)=true:=by simp [hlt]
  simp only [M_ah,h1,cond_true,geti_nat,hx,Option.bind_some]
  rw [w64_eq (by omega) (by omega)]
  cases x.Id==id <;> rfl) (by simp [M_ah]) (by omega)]
 cases findI (fun _ (x:TLight)=>x.Id==id) xs <;> rfl
theorem bneI (a b:Int):(a != b)=(b != a):=by
 rw [Bool.eq_iff_iff]; simp only [bne_iff_ne]; exact ⟨Ne.symm,Ne.symm⟩
theorem fid_mem {xs:List TLight} {id:Int} {i:Nat} {y:TLight} (h:fidL xs id=some (i,y)):xs[i]?=some y∧y.Id=id:=by
 obtain ⟨h1,h2,_⟩:=findI_some.1 h
 exact ⟨h1,by simpa using h2⟩
theorem p_rstC (r:TRestoration) (x:TLight) (hP:PlnIn r.Plan) (hH:PlnIn ⟨r.Plan.Network,r.Home⟩) (hD:r.Down.length≤1048576) (hx:lgtOk r.Plan.Network x=true):M_fb x r r.Plan.Network=some (rstBad r x):=by
 have h12:r.Home.length≤12:=hH.len
 have hin:=lgt_in hP.net hx
 have w1:=hin.r.len
 unfold M_fb rstBad
 obtain ⟨a,a1,_,a3⟩:=p_common x.Route.Fibers r.Down w1 hD
 simp only [p_homeOf r x.Id (by omega),Option.bind_some,a1,sep_gt a3]
 unfold fidI
 cases hf:fidL r.Home x.Id with
 | none=>rfl
 | some q =>
   obtain ⟨i,y⟩:=q
   obtain ⟨f1,f2⟩:=fid_mem hf
   have hy:lgtOk r.Plan.Network y=true:=hH.ok y (List.mem_of_getElem? f1)
   obtain ⟨lx,hlx⟩:=vis_some hx
   obtain ⟨ly,hly⟩:=vis_some hy
   have w2:=(lgt_in hP.net hy).r.len
   have e0:decide ((i:Int) < 0)=false:=decide_eq_false (by omega)
   simp only [e0,cond_false,Option.bind_some,geti_nat,f1,p_endOf hP.net (by omega) hlx,p_endOf hP.net (by omega) hly]
   cases sepP x.Route.Fibers r.Down <;> cases y.Route.Start != x.Route.Start <;> cases endI r.Plan.Network y.Route != endI r.Plan.Network x.Route <;> rfl
theorem c3n (a b c:Bool):(cond (!a) (some true) (cond (!b) (some true) (some (!c))):Option Bool)=some (!(a&&b&&c)):=by
 cases a <;> cases b <;> cases c <;> rfl
theorem p_IsValidRestoration (r:TRestoration) (hz:z_Restoration r≤1048576):M_fc r=some (rstOk r):=by
 obtain ⟨z1,z2,z3,z4⟩:=z_rst hz
 unfold M_fc rstOk
 rw [p_IsValidPlan r.Plan z1 z2]
 have e:M_cc (⟨(⟨r.Plan.Network.Nodes,r.Plan.Network.Fibers⟩:TNetwork),r.Home⟩:TPlan)=some (plnOk ⟨r.Plan.Network,r.Home⟩):=p_IsValidPlan ⟨r.Plan.Network,r.Home⟩ z1 z3
 obtain ⟨_,hF,_⟩:=z_net z1
 rw [e,p_isSet r.Down r.Plan.Network.Fibers.length hF z4]
 simp only [Option.bind_some,c3n]
 rcases bt (plnOk r.Plan&&plnOk ⟨r.Plan.Network,r.Home⟩&&setP r.Down r.Plan.Network.Fibers.length) with e2 | e2
 · rw [e2]
   simp only [Bool.and_eq_true] at e2
   have hP:=pln_in e2.1.1
   have hH:=pln_in e2.1.2
   have h12:=hP.len
   rw [p_CFL r.Plan.Lights _ (fun x=>rstBad r x) (fun x hx=>p_rstC r x hP hH z4 (hP.ok x hx)) (by omega)]
   rfl
 · rw [e2]; rfl
theorem p_l15Good (r:TRestoration) (hz:z_Restoration r≤1048576):M_eo r=some (rstOk r):=by
 obtain ⟨z1,z2,z3,z4⟩:=z_rst hz
 unfold M_eo rstOk
 rw [p_l9Good r.Plan z1 z2]
 have e:M_ca (⟨(⟨r.Plan.Network.Nodes,r.Plan.Network.Fibers⟩:TNetwork),r.Home⟩:TPlan)=some (plnOk ⟨r.Plan.Network,r.Home⟩):=p_l9Good ⟨r.Plan.Network,r.Home⟩ z1 z3
 obtain ⟨_,hF,_⟩:=z_net z1
 rw [e,w64_eq (by omega) (by omega),p_l1Rising r.Down _ z4]
 simp only [Option.bind_some,c3n]
 rcases bt (plnOk r.Plan&&plnOk ⟨r.Plan.Network,r.Home⟩&&setP r.Down r.Plan.Network.Fibers.length) with e2 | e2
 · rw [e2]
   simp only [Bool.and_eq_true] at e2
   have hP:=pln_in e2.1.1
   have hH:=pln_in e2.1.2
   have h12:=hP.len
   have h12':r.Home.length≤12:=hH.len
   simp only [Bool.not_true,cond_false]
   rw [iter_any (f:=M_ai r) r.Plan.Lights (fun x=>rstBad r x) (.inr false) (.inl ()) (fun i x hx=>by
    have hlt:=(List.getElem?_eq_some_iff.1 hx).1
    have h1:decide ((i:Int) < r.Plan.Lights.length)=true:=by simp [hlt]
    have hxo:=hP.ok x (List.mem_of_getElem? hx)
    have hin:=lgt_in hP.net hxo
    have w1:=hin.r.len
    simp only [M_ai,h1,cond_true,geti_nat,hx,Option.bind_some,p_l15Find r.Home x.Id (by omega),p_l4Uses x.Route r.Down (by omega) z4]
    rw [w64_eq (n:=(i:Int)+1) (by omega) (by omega)]
    unfold fidI rstBad
    cases hf:fidL r.Home x.Id with
    | none=>rfl
    | some q =>
      obtain ⟨k,y⟩:=q
      obtain ⟨f1,f2⟩:=fid_mem hf
      have hy:lgtOk r.Plan.Network y=true:=hH.ok y (List.mem_of_getElem? f1)
      obtain ⟨lx,hlx⟩:=vis_some hxo
      obtain ⟨ly,hly⟩:=vis_some hy
      have w2:=(lgt_in hP.net hy).r.len
      have e0:decide ((k:Int) < 0)=false:=decide_eq_false (by omega)
      simp only [e0,cond_false,Option.bind_some,geti_nat,f1,p_l4End hP.net (by omega) hlx,p_l4End hP.net (by omega) hly,bneI x.Route.Start,bneI (endI r.Plan.Network x.Route),bneI x.Block.Count]
      rcases bt (sepP x.Route.Fibers r.Down) with q1 | q1 <;> rcases bt (y.Route.Start != x.Route.Start) with q2 | q2 <;> rcases bt (endI r.Plan.Network y.Route != endI r.Plan.Network x.Route) with q3 | q3 <;> rcases bt (y.Block.Count != x.Block.Count) with q4 | q4 <;> simp only [q1,q2,q3,q4] <;> rfl) (by simp [M_ai]) (by omega)]
   cases (r.Plan.Lights.any fun x=>rstBad r x) <;> rfl
 · rw [e2]; rfl
structure RstIn (r:TRestoration):Prop where
 pl:PlnIn r.Plan
 hm:PlnIn ⟨r.Plan.Network,r.Home⟩
 dn:setP r.Down r.Plan.Network.Fibers.length=true
theorem rst_in {r:TRestoration} (h:rstOk r=true):RstIn r:=by
 unfold rstOk at h
 simp only [Bool.and_eq_true] at h
 exact ⟨pln_in h.1.1.1,pln_in h.1.1.2,h.1.2⟩
theorem p_l9Find (p:TPlan) (id:Int) (hl:p.Lights.length≤1048576):M_er p id=some (fidI p.Lights id):=by
 unfold M_er fidI fidL
 rw [iter_findI (f:=M_al p id) p.Lights (fun _ x=>x.Id==id) (fun i _=>(i:Int)) () (fun i x hx _=>by
  have hlt:=(List.getElem?_eq_some_iff.1 hx).1
  have h1:decide ((i:Int) < p.Lights.length)=true:=by simp [hlt]
  simp only [M_al,h1,cond_true,geti_nat,hx,Option.bind_some]
  rw [w64_eq (by omega) (by omega)]
  cases x.Id==id <;> rfl) (by simp [M_al]) (by omega)]
 cases findI (fun _ (x:TLight)=>x.Id==id) p.Lights <;> rfl
theorem cp_loop {f:Int×List TLight→Option ((Int×List TLight) ⊕ List TLight)} (xs:List TLight) (hl:xs.length≤1048576)
 (h1:∀ (i:Nat) x (a:List TLight),xs[i]?=some x→a.length=i→f ((i:Int),a)=some (.inl (((i+1:Nat):Int),a++[x]))) (h2:∀ a,f ((xs.length:Int),a)=some (.inr a)):iter f N0 (0,[])=some xs:=by
 have:=iter_list (f:=f) xs (fun i (a:List TLight)=>((i:Int),a)) (fun _ x a=>.inl (a++[x])) (fun a=>a) (fun i a=>a.length=i) (fun i a x hx hI=>.inl ⟨_,rfl,by simp [hI],h1 i x a hx hI⟩) (fun a _=>h2 a) [] rfl (by omega)
 have e0:((0:Nat):Int)=0:=rfl
 simp only [e0] at this
 rw [this]
 have gen:∀ (ys:List TLight) (i:Nat) (a:List TLight),walkL (fun (_:Nat) (x:TLight) (a:List TLight)=>(.inl (a++[x]):List TLight ⊕ List TLight)) (fun a=>a) i ys a=a++ys:=by
  intro ys
  induction ys with
  | nil=>intro i a; simp [walkL]
  | cons y ys ih=>intro i a; simp only [walkL]; rw [ih]; simp
 rw [gen]; rfl
theorem p_copyPlan (p:TPlan) (h1:z_Network p.Network≤1048576) (h2:z_LightS p.Lights≤1048576):M_cx p=some p:=by
 obtain ⟨a1,a2,_⟩:=z_net h1
 have hl:=z_lgl h2
 unfold M_cx M_fw
 rw [grd_t (by omega),grd_t (by omega)]
 simp only [Option.bind_some]
 rw [cp_loop (f:=M_as p) p.Lights hl (fun i x a hx ha=>by
  have hlt:=(List.getElem?_eq_some_iff.1 hx).1
  have e1:decide ((i:Int) < p.Lights.length)=true:=by simp [hlt]
  have hr:=z_lgt h2 (List.mem_of_getElem? hx)
  simp only [M_as,e1,cond_true,geti_nat,hx,Option.bind_some,M_fx,bnd]
  rw [grd_t (by omega)]
  simp only [Option.bind_some]
  rw [grd_t (by omega),w64_eq (by omega) (by omega)]; rfl) (fun a=>by simp [M_as])]
 rfl
theorem p_l9Copy (x:TLight) (h:x.Route.Fibers.length≤1048576):M_cp x=some x:=by
 unfold M_cp M_fr M_cf
 rw [grd_t (by omega)]; rfl
theorem p_l9Own (p:TPlan) (h1:z_Network p.Network≤1048576) (h2:z_LightS p.Lights≤1048576):M_bz p=some p:=by
 obtain ⟨a1,a2,_⟩:=z_net h1
 have hl:=z_lgl h2
 unfold M_bz M_fq
 rw [grd_t (by omega),grd_t (by omega)]
 simp only [Option.bind_some]
 rw [cp_loop (f:=M_aj p) p.Lights hl (fun i x a hx ha=>by
  have hlt:=(List.getElem?_eq_some_iff.1 hx).1
  have e1:decide ((i:Int) < p.Lights.length)=true:=by simp [hlt]
  have hr:=z_lgt h2 (List.mem_of_getElem? hx)
  simp only [M_aj,e1,cond_true,geti_nat,hx,Option.bind_some,p_l9Copy x hr,bnd]
  rw [grd_t (by omega),w64_eq (by omega) (by omega)]; rfl) (fun a=>by simp [M_aj])]
 rfl
theorem p_l15Copy (xs:List TLight) (h2:z_LightS xs≤1048576):M_ep xs=some xs:=by
 have hl:=z_lgl h2
 unfold M_ep
 rw [cp_loop (f:=M_ak xs) xs hl (fun i x a hx ha=>by
  have hlt:=(List.getElem?_eq_some_iff.1 hx).1
  have e1:decide ((i:Int) < xs.length)=true:=by simp [hlt]
  have hr:=z_lgt h2 (List.mem_of_getElem? hx)
  simp only [M_ak,e1,cond_true,geti_nat,hx,Option.bind_some,p_l9Copy x hr,bnd]
  rw [grd_t (by omega),w64_eq (by omega) (by omega)]; rfl) (fun a=>by simp [M_ak])]
 rfl
theorem p_copyRestoration (r:TRestoration) (h1:z_Network r.Plan.Network≤1048576) (h2:z_LightS r.Plan.Lights≤1048576) (h3:z_LightS r.Home≤1048576) (h4:r.Down.length≤1048576):M_fe r=some r:=by
 unfold M_fe M_fy
 rw [p_copyPlan r.Plan h1 h2,p_copyPlan ⟨⟨[],[]⟩,r.Home⟩ (by show z_Network ⟨[],[]⟩≤1048576; decide) h3,grd_t (by omega)]
 rfl
def rst0:TRestoration:=⟨⟨⟨[],[]⟩,[]⟩,[],[]⟩
theorem sum_bd {α:Type} (g:α→Nat) (c:Nat):∀ (xs:List α),(∀ x∈xs,g x≤c)→(xs.map g).sum≤xs.length * c
 | [],_=>by simp
 | x :: xs, h => by
   have h1:=h x (by simp)
   have h2:=sum_bd g c xs fun y hy=>h y (List.mem_cons_of_mem _ hy)
   simp only [List.map_cons,List.sum_cons,List.length_cons,Nat.succ_mul]
   omega
theorem z_netOk {n:TNetwork} (h:netOk n=true):z_Network n≤200:=by
 have hb:=netOk_b h
 unfold netOk at h
 simp only [Bool.and_eq_true,Bool.not_eq_true'] at h
 have hn:=anyI_false.1 h.1.1.1
 have:(n.Nodes.map fun x=>x.size).sum≤n.Nodes.length * 8:=sum_bd _ 8 _ fun x hx=>by
  obtain ⟨i,hi⟩:=List.getElem?_of_mem hx
  have:=hn i x hi
  unfold nodeBad at this
  simp only [Bool.or_eq_false_iff,Bool.not_eq_false'] at this
  have h2:=this.1
  unfold nameB at h2
  simp only [Bool.and_eq_true,wi_iff] at h2
  omega
 unfold z_Network z_StringS z_FiberS
 omega
theorem z_lgtOk {n:TNetwork} {xs:List TLight} (hl:xs.length≤12) (h:∀ x∈xs,LgtIn n x):z_LightS xs≤200:=by
 have:(xs.map fun x=>z_Light x).sum≤xs.length * 12:=sum_bd _ 12 _ fun x hx=>(h x hx).r.len
 unfold z_LightS
 omega
theorem p_isChange (r:TRestoration) (fs:List Int) (hz:z_Restoration r≤1048576) (hf:fs.length≤1048576):M_fd r fs=some (rstOk r&&setP fs r.Plan.Network.Fibers.length):=by
 obtain ⟨z1,_⟩:=z_rst hz
 obtain ⟨_,hF,_⟩:=z_net z1
 unfold M_fd
 rw [p_IsValidRestoration r hz,p_isSet fs r.Plan.Network.Fibers.length hF hf]
 simp only [Option.bind_some]
 cases rstOk r <;> rfl
theorem p_l15Fibers (r:TRestoration) (fs:List Int) (hz:z_Restoration r≤1048576) (hf:fs.length≤1048576):M_da r fs=some (rstOk r&&setP fs r.Plan.Network.Fibers.length):=by
 obtain ⟨z1,_⟩:=z_rst hz
 obtain ⟨_,hF,_⟩:=z_net z1
 unfold M_da
 rw [p_l15Good r hz,w64_eq (by omega) (by omega),p_l1Rising fs _ hf]
 simp only [Option.bind_some]
 cases rstOk r <;> rfl
end Vs

namespace Vs
open Go
theorem p_Concat2 (xs ys:List Int) (hx:xs.length≤1048576) (hy:ys.length≤1048576):M_dm [xs,ys]=some (xs++ys):=by
 unfold M_dm
 have h1:iter (M_o [xs,ys]) N0 (0,0)=some ((xs.length+ys.length:Nat):Int):=by
  have:=iter_foldI (f:=M_o [xs,ys]) [xs,ys] (fun i (a:Int)=>(a,(i:Int))) (fun _ (x:List Int) a=>a+x.length) id (fun i a=>0≤a∧a≤i * 1048576) (fun i a x hx' hI=>by
   have hlt:=(List.getElem?_eq_some_iff.1 hx').1
   have hxl:x.length≤1048576:=by
    have:=List.mem_of_getElem? hx'
    simp at this
    rcases this with e | e <;> rw [e] <;> assumption
   simp only [List.length_cons,List.length_nil] at hlt
   have e1:decide ((i:Int) < (([xs,ys]:List (List Int)).length:Int))=true:=by simp only [decide_eq_true_eq,List.length_cons,List.length_nil]; omega
   refine ⟨by constructor <;> omega,?_⟩
   simp only [M_o,e1,cond_true,geti_nat,hx',Option.bind_some]
   rw [w64_eq (n:=a+(x.length:Int)) (by omega) (by omega)]
   have e2:decide (a+(x.length:Int) < 0)=false:=by simp; omega
   rw [e2,cond_false,w64_eq (by omega) (by omega)]; rfl) (fun a _=>by simp [M_o]) 0 ⟨by omega,by omega⟩ (by simp)
  refine Eq.trans this ?_
  simp [foldI]
 rw [h1,Option.bind_some]
 have h2:∃ L,M_dn ((xs.length+ys.length:Nat):Int)=some (0,0,L):=by
  unfold M_dn
  have e1:decide (((xs.length+ys.length:Nat):Int) < 0)=false:=by simp; omega
  have e2:IntKind.wrap .i64 (0 - ((0:Nat):Int))=0:=by decide
  rw [e1,cond_false,e2,Int.sub_zero,w64_eq (by omega) (by omega)]
  by_cases h0:xs.length+ys.length=0
  · rw [h0]; exact ⟨[],rfl⟩
  · have e3:decide (0 < ((xs.length+ys.length:Nat):Int))=true:=by simp only [decide_eq_true_eq]; omega
    rw [e3,cond_true,grd_t ⟨by omega,by omega⟩,Option.bind_some]
    simp only [bnd]
    rw [grd_t ⟨trivial,by omega,trivial,by simp⟩,Option.bind_some]
    exact ⟨_,rfl⟩
 obtain ⟨L,hL⟩:=h2
 rw [hL,Option.bind_some]
 have h0:subT L 0 0=[]:=by
  unfold subT
  split
  · rename_i e; exact List.length_eq_zero_iff.1 e.2.symm
  · simp
 obtain ⟨b,hb,hq⟩:=iter_inv (f:=M_bg [xs,ys]) (fun t=>∃ (i:Nat) (M:List Int),t=(0,([xs,ys].take i).flatten.length,(i:Int),M)∧i≤2∧subT M 0 ([xs,ys].take i).flatten.length=([xs,ys].take i).flatten) (fun t=>2 - t.2.2.1.toNat)
  (fun b=>b.1=0∧b.2.1=(xs++ys).length∧subT b.2.2 0 b.2.1=xs++ys)
  (fun t ⟨i,M,e,hi,hM⟩=>by
   subst e
   unfold M_bg
   by_cases hi2:i < 2
   · left
     have e1:decide ((i:Int) < (([xs,ys]:List (List Int)).length:Int))=true:=by simp only [decide_eq_true_eq,List.length_cons,List.length_nil]; omega
     obtain ⟨x,hx'⟩:∃ x,([xs,ys]:List (List Int))[i]?=some x:=⟨_,List.getElem?_eq_getElem (by simpa using hi2)⟩
     have hxl:x.length≤1048576:=by
      have:=List.mem_of_getElem? hx'
      simp at this
      rcases this with e | e <;> rw [e] <;> assumption
     have hfl:([xs,ys].take i).flatten.length≤2097152:=by
      match i,hi2 with
      | 0,_=>simp
      | 1,_=>simp; omega
     have ht:([xs,ys].take (i+1)).flatten=([xs,ys].take i).flatten++x:=by
      rw [List.take_add_one,hx']; simp
     simp only [e1,cond_true,geti_nat,hx',Option.bind_some,bnd,hM]
     rw [grd_t (by omega),Option.bind_some,w64_eq (by omega) (by omega)]
     refine ⟨_,rfl,⟨i+1,_,by rw [ht,List.length_append]; rfl,by omega,?_⟩,by simp; omega⟩
     rw [ht]; exact subT_all _
   · right
     have hi3:i=2:=by omega
     subst hi3
     refine ⟨_,rfl,rfl,by simp,?_⟩
     simpa using hM) N0 (0,0,0,L) ⟨0,L,rfl,by omega,h0⟩ (N0_lt (by simp))
 rw [hb,Option.bind_some]
 simp only [bnd,hq.1,hq.2.2]
def dnP (d fs:List Int):List Int:=ddp ((d++fs).mergeSort fun x y=>decide (x≤y)) (d++fs).length
theorem dn_spec (d fs:List Int):(dnP d fs).Pairwise (· < ·)∧∀ x,x∈dnP d fs↔x∈d∨x∈fs:=by
 have hs:((d++fs).mergeSort fun x y=>decide (x≤y)).Pairwise (·≤·):=by
  have:=List.pairwise_mergeSort (le:=fun x y:Int=>decide (x≤y)) (by intro a b c; simp; omega) (by intro a b; simp; omega) (d++fs)
  exact this.imp (by simp)
 have hl:((d++fs).mergeSort fun x y=>decide (x≤y)).length=(d++fs).length:=List.length_mergeSort _
 obtain ⟨s1,_,s3⟩:=ddp_sorted hs (d++fs).length (by rw [hl]; exact Nat.le_refl _)
 refine ⟨s1,fun x=>?_⟩
 show x∈ddp _ _↔_
 rw [s3,← hl,List.take_length,(List.mergeSort_perm _ _).mem_iff,List.mem_append]
def faK (fs:List Int) (x:TLight):Bool:=sepP x.Route.Fibers fs
def faP (r:TRestoration) (fs:List Int):TRestoration×List Int×Bool :=
 if rstOk r&&setP fs r.Plan.Network.Fibers.length then (⟨⟨r.Plan.Network,r.Plan.Lights.filter (faK fs)⟩,r.Home,dnP r.Down fs⟩,(r.Plan.Lights.filter fun x=>!faK fs x).map (·.Id),true) else (rst0,[],false)
theorem p_faC (x:TLight) (fs ids:List Int) (hx:x.Route.Fibers.length≤12) (hf:fs.length≤1048576) (hi:ids.length≤1048576) :
 M_bh x fs ids=some (!faK fs x,fs,if faK fs x then ids else ids++[x.Id]):=by
 unfold M_bh faK
 obtain ⟨a,a1,_,a3⟩:=p_common x.Route.Fibers fs hx hf
 simp only [a1,Option.bind_some,sep_gt a3]
 cases sepP x.Route.Fibers fs with
 | true=>rfl
 | false =>
   simp only [Bool.not_false,cond_true,bnd]
   rw [grd_t (by omega)]; rfl
theorem fa_filt (fs:List Int) (hf:fs.length≤1048576):∀ (xs:List TLight) (ids:List Int),(∀ x∈xs,x.Route.Fibers.length≤12)→ids.length+xs.length≤1048576 →
 filtS (fun t s=>M_bh t s.1 s.2) xs (fs,ids)=some (xs.filter (faK fs),(fs,ids++(xs.filter fun x=>!faK fs x).map (·.Id)))
 | [],ids,_,_=>by simp [filtS]
 | x :: xs, ids, hx, hl => by
   simp only [List.length_cons] at hl
   simp only [filtS,p_faC x fs ids (hx x (by simp)) hf (by omega),Option.bind_some]
   rw [fa_filt fs hf xs _ (fun y hy=>hx y (by simp [hy])) (by split <;> (try simp only [List.length_append,List.length_cons,List.length_nil]) <;> omega)]
   cases h:faK fs x with
   | true=>simp [h]
   | false=>simp [h]
theorem d_faDel (X:List TLight) (a b:List Int):M_bm id (⟨0,(⟨0,[]⟩:TRoute),(⟨0,0⟩:TBlock)⟩:TLight) X a b=delF (fun t s=>M_bh t s.1 s.2) (⟨0,(⟨0,[]⟩:TRoute),(⟨0,0⟩:TBlock)⟩:TLight) X (a,b):=by
 have h1:M_bi id (⟨0,(⟨0,[]⟩:TRoute),(⟨0,0⟩:TBlock)⟩:TLight) X=idxL (fun t s=>M_bh t s.1 s.2) X:=rfl
 have h2:M_p id (⟨0,(⟨0,[]⟩:TRoute),(⟨0,0⟩:TBlock)⟩:TLight) X=delL (fun t s=>M_bh t s.1 s.2) X:=rfl
 have h3:M_cd id (⟨0,(⟨0,[]⟩:TRoute),(⟨0,0⟩:TBlock)⟩:TLight) X a b=idxF (fun t s=>M_bh t s.1 s.2) X (a,b):=by
  unfold M_cd idxF
  rw [h1]
  congr 1
  funext o; cases o <;> rfl
 unfold M_bm delF
 rw [h2,h3]
theorem p_failImp (r:TRestoration) (fs:List Int) (hR:RstIn r) (z4:r.Down.length≤1048576) (hf:fs.length≤1048576) :
 ∃ k l,M_bm id (⟨0,(⟨0,[]⟩:TRoute),(⟨0,0⟩:TBlock)⟩:TLight) r.Plan.Lights fs []=some (0,k,l,fs,(r.Plan.Lights.filter fun x=>!faK fs x).map (·.Id))∧subT l 0 k=r.Plan.Lights.filter (faK fs):=by
 have h12:=hR.pl.len
 have h:=fa_filt fs hf r.Plan.Lights [] (fun x hx=>(hR.pl.lgt x hx).r.len) (by simp; omega)
 have hd:=delF_m (fun t s=>M_bh t s.1 s.2) (⟨0,(⟨0,[]⟩:TRoute),(⟨0,0⟩:TBlock)⟩:TLight) (by omega) h
 rw [d_faDel,hd]
 refine ⟨_,_,rfl,?_⟩
 rw [subT_drop,List.drop_zero,List.take_left]
theorem p_impl_FailFibers (r:TRestoration) (fs:List Int) (hz:z_Restoration r≤1048576) (hf:z_IntS fs≤1048576):M_ce r fs=some (faP r fs):=by
 obtain ⟨z1,z2,z3,z4⟩:=z_rst hz
 unfold M_ce faP
 rw [p_isChange r fs hz hf]
 simp only [Option.bind_some]
 rcases bt (rstOk r&&setP fs r.Plan.Network.Fibers.length) with e | e
 · have e':=e
   simp only [Bool.and_eq_true] at e'
   have hR:=rst_in e'.1
   have hfl:fs.length≤1048576:=hf
   obtain ⟨k,l,d1,d2⟩:=p_failImp r fs hR z4 hf
   rw [e,if_pos rfl]
   have hs:sortI (r.Down++fs)=some ((r.Down++fs).mergeSort fun x y=>decide (x≤y)):=if_pos (by simp; omega)
   have hl:((r.Down++fs).mergeSort fun x y=>decide (x≤y)).length=(r.Down++fs).length:=List.length_mergeSort _
   have hN:=set_len hR.dn
   have hN2:=set_len e'.2
   have hNb:=(netOk_b hR.pl.net).2.2
   obtain ⟨k',l',c1,c2⟩:=p_Compact ((r.Down++fs).mergeSort fun x y=>decide (x≤y)) (by rw [hl]; simp; omega)
   rw [hl] at c1 c2
   simp only [Bool.not_true,cond_false,p_copyRestoration r z1 z2 z3 z4,Option.bind_some,bnd,p_Concat2 r.Down fs z4 hf,hs,c1,d1,d2,c2]
   rfl
 · rw [e]; rfl
theorem p_faPut (fs d:List Int) (hp:d.Pairwise (· < ·)) (hl:d.length+fs.length≤1048576):∃ o,iter (M_q fs) N0 (0,d)=some o∧o.Pairwise (· < ·)∧∀ x,x∈o↔x∈d∨x∈fs:=by
 obtain ⟨o,h1,h2⟩:=iter_inv (f:=M_q fs) (fun s=>∃ (i:Nat) (l:List Int),s=((i:Int),l)∧i≤fs.length∧l.Pairwise (· < ·)∧l.length≤d.length+i∧∀ x,x∈l↔x∈d∨x∈fs.take i)
  (fun s=>fs.length - s.1.toNat) (fun o=>o.Pairwise (· < ·)∧∀ x,x∈o↔x∈d∨x∈fs) (fun s hI=>by
   obtain ⟨i,l,rfl,h1,h2,h3,h4⟩:=hI
   by_cases hi:i < fs.length
   · left
     have e1:decide ((i:Int) < (fs.length:Int))=true:=decide_eq_true (by omega)
     have hx:fs[i]?=some fs[i]:=List.getElem?_eq_getElem hi
     obtain ⟨o,o1,o2,o3,o4⟩:=p_l1Put fs[i] l (by omega)
     simp only [M_q,e1,cond_true,Int.toNat_natCast,hx]
     rw [grd_t (by omega)]
     simp only [Option.bind_some,o1]
     rw [w64_eq (n:=(i:Int)+1) (by omega) (by omega)]
     refine ⟨_,rfl,⟨i+1,o,by simp,by omega,o4 h2,by omega,fun x=>?_⟩,by simp only []; omega⟩
     rw [o2,h4,List.take_add_one,hx]
     simp only [Option.toList_some,List.mem_append,List.mem_singleton]
     exact ⟨fun h=>h.elim (fun e=>.inr (.inr e)) fun h=>h.elim .inl fun h=>.inr (.inl h),fun h=>h.elim (fun h=>.inr (.inl h)) fun h=>h.elim (fun h=>.inr (.inr h)) .inl⟩
   · right
     have e1:decide ((i:Int) < (fs.length:Int))=false:=decide_eq_false (by omega)
     refine ⟨l,by simp only [M_q,e1,cond_false],h2,fun x=>?_⟩
     rw [h4,List.take_of_length_le (by omega)]) N0 (((0:Nat):Int),d) ⟨0,d,rfl,Nat.zero_le _,hp,by omega,fun x=>by simp⟩ (N0_lt (by simp; omega))
 exact ⟨o,h1,h2⟩
theorem p_l15Own (r:TRestoration) (z1:z_Network r.Plan.Network≤1048576) (z2:z_LightS r.Plan.Lights≤1048576) (z3:z_LightS r.Home≤1048576) (z4:r.Down.length≤1048576):M_cz r=some r:=by
 unfold M_cz M_cf
 rw [p_l9Own r.Plan z1 z2,p_l15Copy r.Home z3,grd_t (by omega)]; rfl
theorem fa_at {L:List TLight} (hn:(L.map (·.Id)).Nodup) {i:Nat} {x:TLight} (h:L[i]?=some x):fidL L x.Id=some (i,x):=by
 unfold fidL
 refine findI_some.2 ⟨h,by simp,fun j y hj hy=>?_⟩
 have hne:y.Id ≠ x.Id:=by
  intro e
  have h1:(L.map (·.Id))[j]?=some x.Id:=by rw [List.getElem?_map,hy]; simp [e]
  have h2:(L.map (·.Id))[i]?=some x.Id:=by rw [List.getElem?_map,h]; rfl
  obtain ⟨p1,p2⟩:=List.getElem?_eq_some_iff.1 h1
  obtain ⟨q1,q2⟩:=List.getElem?_eq_some_iff.1 h2
  have:=(List.getElem_inj hn).1 (p2.trans q2.symm)
  omega
 simpa using hne
theorem pln_nodup {p:TPlan} (h:PlnIn p):(p.Lights.map (·.Id)).Nodup:=by
 refine rise_nodup (rise_pw fun i a b ha hb=>?_)
 rw [List.getElem?_map,Option.map_eq_some_iff] at ha hb
 obtain ⟨x,hx,rfl⟩:=ha
 obtain ⟨y,hy,rfl⟩:=hb
 exact h.asc i x y hx hy
theorem p_l9Without (n:TNetwork) (L:List TLight) (i:Nat) (hi:i < L.length) (z1:z_Network n≤1048576) (z2:z_LightS L≤1048576):M_do (i:Int) n.Nodes n.Fibers L=some (n.Nodes,L.eraseIdx i,n.Fibers,n.Nodes,n.Fibers,L):=by
 have hl:=z_lgl z2
 unfold M_do
 rw [show M_bz (⟨(⟨n.Nodes,n.Fibers⟩:TNetwork),L⟩:TPlan)=some ⟨n,L⟩ from p_l9Own ⟨n,L⟩ z1 z2]
 simp only [Option.bind_some,Int.toNat_natCast,bnd]
 have ew:IntKind.wrap .i64 ((i:Int)+1)=((i+1:Nat):Int):=by rw [w64_eq (by omega) (by omega)]; rfl
 rw [grd_t ⟨trivial,by omega,trivial,by omega⟩,ew]
 simp only [Option.bind_some,Int.toNat_natCast]
 have l1:(subT L 0 i).length=i:=by rw [subT_drop]; simp; omega
 have l2:(subT L (i+1) (L.length - (i+1))).length=L.length - (i+1):=by rw [subT_drop]; simp
 rw [grd_t (by omega),Option.bind_some,grd_t ⟨by omega,trivial,by omega,trivial⟩,Option.bind_some,grd_t (by omega),Option.bind_some]
 rw [subT_drop,subT_drop,List.drop_zero,List.take_of_length_le (l:=L.drop (i+1)) (by simp),List.eraseIdx_eq_take_drop_succ]
theorem z_lgt_sub {M L:List TLight} (h:M.Sublist L):z_LightS M≤z_LightS L:=by
 unfold z_LightS
 have h1:=h.length_le
 have h2:(M.map fun x=>z_Light x).sum≤(L.map fun x=>z_Light x).sum:=by
  clear h1
  induction h with
  | slnil=>exact Nat.le_refl _
  | cons a _ ih=>simp; omega
  | cons_cons a _ ih=>simp; omega
 omega
theorem p_faLights (r:TRestoration) (fs:List Int) (hR:RstIn r) (hf:fs.length≤1048576) (z1:z_Network r.Plan.Network≤1048576) (z2:z_LightS r.Plan.Lights≤1048576) :
 iter (M_d r.Plan.Lights fs) N0 (0,[],r.Plan.Network.Nodes,r.Plan.Network.Fibers,r.Plan.Lights)=some ((r.Plan.Lights.filter fun x=>!faK fs x).map (·.Id),r.Plan.Network.Nodes,r.Plan.Network.Fibers,r.Plan.Lights.filter (faK fs)):=by
 have h12:=hR.pl.len
 have hnd:=pln_nodup hR.pl
 generalize hL:r.Plan.Lights=L at *
 obtain ⟨o,h1,h2⟩:=iter_inv (f:=M_d L fs) (fun s=>∃ (i:Nat),s=((i:Int),((L.take i).filter fun x=>!faK fs x).map (·.Id),r.Plan.Network.Nodes,r.Plan.Network.Fibers,(L.take i).filter (faK fs)++L.drop i)∧i≤L.length)
  (fun s=>L.length - s.1.toNat) (fun o=>o=((L.filter fun x=>!faK fs x).map (·.Id),r.Plan.Network.Nodes,r.Plan.Network.Fibers,L.filter (faK fs))) (fun s hI=>by
   obtain ⟨i,rfl,hi0⟩:=hI
   by_cases hi:i < L.length
   · left
     have e1:decide ((i:Int) < (L.length:Int))=true:=decide_eq_true (by omega)
     have hx:L[i]?=some L[i]:=List.getElem?_eq_getElem hi
     have hin:L[i].Route.Fibers.length≤12:=(hR.pl.lgt L[i] (by rw [hL]; exact List.getElem_mem hi)).r.len
     have hdrop:L.drop i=L[i]::L.drop (i+1):=List.drop_eq_getElem_cons hi
     have htake:L.take (i+1)=L.take i++[L[i]]:=by rw [List.take_add_one,hx]; rfl
     have hF:∀ p:TLight→Bool,(L.take (i+1)).filter p=(L.take i).filter p++(if p L[i]=true then [L[i]] else []):=fun p=>by
      rw [htake,List.filter_append]; congr 1
      cases h:p L[i] <;> simp [h]
     have hsub:((L.take i).filter (faK fs)++L.drop i).Sublist L:=by
      have:=(List.filter_sublist (l:=L.take i) (p:=faK fs)).append (List.Sublist.refl (L.drop i))
      rwa [List.take_append_drop] at this
     simp only [M_d,e1,cond_true,Int.toNat_natCast,hx]
     rw [grd_t (by omega)]
     simp only [Option.bind_some,p_l4Uses L[i].Route fs (by omega) hf]
     rw [w64_eq (n:=(i:Int)+1) (by omega) (by omega)]
     have hk:sepP L[i].Route.Fibers fs=faK fs L[i]:=rfl
     rw [hk]
     cases h:faK fs L[i] with
     | true =>
       simp only [Bool.not_true,cond_false]
       refine ⟨_,rfl,⟨i+1,?_,by omega⟩,by simp only []; omega⟩
       rw [hF,hF]
       simp [h]
     | false =>
       have hm:((L.take i).filter (faK fs)++L.drop i)[((L.take i).filter (faK fs)).length]?=some L[i]:=by
        rw [List.getElem?_append_right (Nat.le_refl _),Nat.sub_self,hdrop]; rfl
       have hfl:((L.take i).filter (faK fs)).length≤L.length:=Nat.le_trans (List.length_filter_le _ _) (by simp; omega)
       have hml:((L.take i).filter (faK fs)++L.drop i).length≤L.length:=hsub.length_le
       have hid:fidI ((L.take i).filter (faK fs)++L.drop i) L[i].Id=((((L.take i).filter (faK fs)).length:Nat):Int):=by
        unfold fidI
        rw [fa_at ((hsub.map _).nodup hnd) hm]
       have hids:(((L.take i).filter fun x=>!faK fs x).map (·.Id)).length≤L.length:=by
        rw [List.length_map]; exact Nat.le_trans (List.length_filter_le _ _) (by simp; omega)
       simp only [Bool.not_false,cond_true,bnd]
       rw [grd_t (by omega)]
       simp only [Option.bind_some]
       rw [p_l9Find (⟨(⟨r.Plan.Network.Nodes,r.Plan.Network.Fibers⟩:TNetwork),(L.take i).filter (faK fs)++L.drop i⟩:TPlan) L[i].Id (by show ((L.take i).filter (faK fs)++L.drop i).length≤_; omega)]
       simp only [Option.bind_some,hid]
       rw [p_l9Without r.Plan.Network _ _ (List.getElem?_eq_some_iff.1 hm).1 z1 (Nat.le_trans (z_lgt_sub hsub) z2)]
       simp only [Option.bind_some]
       refine ⟨_,rfl,⟨i+1,?_,by omega⟩,by simp only []; omega⟩
       rw [List.eraseIdx_append_of_length_le (Nat.le_refl _),Nat.sub_self,hF,hF,hdrop]
       simp [h]
   · right
     have hi':i=L.length:=by omega
     have e1:decide ((i:Int) < (L.length:Int))=false:=decide_eq_false (by omega)
     refine ⟨(((L.take i).filter fun x=>!faK fs x).map (·.Id),r.Plan.Network.Nodes,r.Plan.Network.Fibers,(L.take i).filter (faK fs)++L.drop i),by simp only [M_d,e1,cond_false],?_⟩
     rw [hi',List.take_length,List.drop_length,List.append_nil]) N0 (((0:Nat):Int),[],r.Plan.Network.Nodes,r.Plan.Network.Fibers,L) ⟨0,by simp,Nat.zero_le _⟩ (N0_lt (by simp; omega))
 have e0:((0:Nat):Int)=0:=rfl
 rw [e0] at h1
 rw [h1,h2]
theorem p_l15Fail (r:TRestoration) (fs:List Int) (hR:RstIn r) (hz:z_Restoration r≤1048576) (hs:setP fs r.Plan.Network.Fibers.length=true) (hf:fs.length≤1048576) :
 M_dp r.Plan.Network.Nodes r.Plan.Network.Fibers r.Plan.Lights r.Home r.Down fs=some ((r.Plan.Lights.filter fun x=>!faK fs x).map (·.Id),r.Plan.Network.Nodes,r.Plan.Network.Fibers,r.Plan.Lights.filter (faK fs),r.Home,dnP r.Down fs,r.Plan.Network.Nodes,r.Plan.Network.Fibers,r.Plan.Lights,r.Home,r.Down,fs):=by
 obtain ⟨z1,z2,z3,z4⟩:=z_rst hz
 have hN:=set_len hR.dn
 have hN2:=set_len hs
 have hNb:=(netOk_b hR.pl.net).2.2
 obtain ⟨o,o1,o2,o3⟩:=p_faPut fs r.Down (set_in hR.dn).1 (by omega)
 have ho:o=dnP r.Down fs:=rise_eq _ _ o2 (dn_spec r.Down fs).1 fun x=>by rw [o3,(dn_spec r.Down fs).2]
 unfold M_dp
 rw [show M_cz (⟨(⟨(⟨r.Plan.Network.Nodes,r.Plan.Network.Fibers⟩:TNetwork),r.Plan.Lights⟩:TPlan),r.Home,r.Down⟩:TRestoration)=some r from p_l15Own r z1 z2 z3 z4]
 simp only [Option.bind_some,o1,p_faLights r fs hR hf z1 z2,ho]
theorem p_spec_FailFibers (r:TRestoration) (fs:List Int) (hz:z_Restoration r≤1048576) (hf:z_IntS fs≤1048576) :
 M_dq r.Plan.Network.Nodes r.Plan.Network.Fibers r.Plan.Lights r.Home r.Down fs=some ((faP r fs).2.2,(faP r fs).2.1,(faP r fs).1.Plan.Network.Nodes,(faP r fs).1.Plan.Network.Fibers,(faP r fs).1.Plan.Lights,(faP r fs).1.Home,(faP r fs).1.Down,r.Plan.Network.Nodes,r.Plan.Network.Fibers,r.Plan.Lights,r.Home,r.Down,fs):=by
 unfold M_dq faP
 rw [show M_da (⟨(⟨(⟨r.Plan.Network.Nodes,r.Plan.Network.Fibers⟩:TNetwork),r.Plan.Lights⟩:TPlan),r.Home,r.Down⟩:TRestoration) fs=some (rstOk r&&setP fs r.Plan.Network.Fibers.length) from p_l15Fibers r fs hz hf]
 simp only [Option.bind_some]
 rcases bt (rstOk r&&setP fs r.Plan.Network.Fibers.length) with e | e
 · have e':=e
   simp only [Bool.and_eq_true] at e'
   rw [e]
   simp only [Bool.not_true,cond_false,if_true,p_l15Fail r fs (rst_in e'.1) hz e'.2 hf,Option.bind_some]
 · rw [e]; rfl
theorem dn_len {d fs:List Int} {N:Nat} (hd:setP d N=true) (hf:setP fs N=true):(dnP d fs).length≤N:=by
 obtain ⟨h1,h2⟩:=dn_spec d fs
 exact nodup_le N _ (rise_nodup h1) fun x hx=>((h2 x).1 hx).elim (fun h=>(set_in hd).2 x h) fun h=>(set_in hf).2 x h
theorem zr_FailFibers (r:TRestoration) (fs:List Int) (hz:z_Restoration r≤1048576) (hf:z_IntS fs≤1048576):z_Restoration (faP r fs).1≤1048576∧z_IntS (faP r fs).2.1≤1048576:=by
 unfold faP
 split
 · rename_i e
   simp only [Bool.and_eq_true] at e
   have hR:=rst_in e.1
   have h12:=hR.pl.len
   have h1:=z_netOk hR.pl.net
   have h2:=z_lgtOk hR.pl.len hR.pl.lgt
   have h2':=z_lgt_sub (List.filter_sublist (l:=r.Plan.Lights) (p:=faK fs))
   have h3:=z_lgtOk (n:=r.Plan.Network) (xs:=r.Home) hR.hm.len hR.hm.lgt
   have h4:=dn_len hR.dn e.2
   have h5:=(netOk_b hR.pl.net).2.2
   have h6:=List.length_filter_le (fun x=>!faK fs x) r.Plan.Lights
   refine ⟨?_,?_⟩
   · show z_Network r.Plan.Network+z_LightS (r.Plan.Lights.filter (faK fs))+z_LightS r.Home+(dnP r.Down fs).length≤1048576
     omega
   · show ((r.Plan.Lights.filter fun x=>!faK fs x).map (·.Id)).length≤1048576
     rw [List.length_map]; omega
 · exact ⟨by decide,Nat.zero_le _⟩
end Vs

namespace Vs
open Go
theorem subT_len {α:Type} {xs:List α} {n:Nat} (h:xs.length=n):subT xs 0 n=xs:=by subst h; exact subT_all xs
theorem p_FnExactFailFibers (x1:TRestoration) (x2:List Int) (o1:ok_Restoration x1) (o2:ok_IntS x2):M_fo x1 x2=some true:=by
 unfold M_fo
 by_cases hc1:(1048576:Int) < (x2.length:Int)
 · simp [hc1]
 simp only [hc1,decide_false,cond_false]
 rw [p_szRestoration x1 _ (by omega) (by omega) o1]
 simp only [Option.bind_some]
 by_cases hc2:(1048576:Int) - z_Restoration x1 < 0
 · simp [hc2]
 simp only [hc2,if_false,decide_false,cond_false]
 have z2:z_IntS x2≤1048576:=by unfold z_IntS; omega
 have z1:z_Restoration x1≤1048576:=by omega
 have zr:=zr_FailFibers x1 x2 z1 z2
 obtain ⟨zr1,zr2⟩:=zr
 have w1:=w_ga x1
 have f1:=mkr_fst_Restoration 1 x1
 have m1:=p_markRestoration x1 1 (by omega) (by omega) z1
 have n1:decide ((mkr_Restoration 1 x1).1 < 0)=false:=decide_eq_false (by omega)
 have w2:=w_fz x2
 have f2:=markL_fst mk_IntS w_IntS hw_IntS x2 ((mkr_Restoration 1 x1).1)
 have m2:=p_markIntS x2 ((mkr_Restoration 1 x1).1) (by omega) (by omega) z2
 have n2:decide ((markL mk_IntS ((mkr_Restoration 1 x1).1) x2).1 < 0)=false:=decide_eq_false (by omega)
 have w3:=w_ga (faP x1 x2).1
 have f3:=mkr_fst_Restoration 1 (faP x1 x2).1
 have m3:=p_markRestoration (faP x1 x2).1 1 (by omega) (by omega) zr1
 have n3:decide ((mkr_Restoration 1 (faP x1 x2).1).1 < 0)=false:=decide_eq_false (by omega)
 have w4:=w_fz (faP x1 x2).2.1
 have f4:=markL_fst mk_IntS w_IntS hw_IntS (faP x1 x2).2.1 ((mkr_Restoration 1 (faP x1 x2).1).1)
 have m4:=p_markIntS (faP x1 x2).2.1 ((mkr_Restoration 1 (faP x1 x2).1).1) (by omega) (by omega) zr2
 have n4:decide ((markL mk_IntS ((mkr_Restoration 1 (faP x1 x2).1).1) (faP x1 x2).2.1).1 < 0)=false:=decide_eq_false (by omega)
 have grZ43:M_by (⟨(⟨(⟨(mkr_Restoration 1 (faP x1 x2).1).2.1,(mkr_Restoration 1 (faP x1 x2).1).2.2.1⟩:TNetwork),(mkr_Restoration 1 (faP x1 x2).1).2.2.2.1⟩:TPlan),(mkr_Restoration 1 (faP x1 x2).1).2.2.2.2.1,(mkr_Restoration 1 (faP x1 x2).1).2.2.2.2.2⟩:TRestoration) 1=some (mkr_Restoration 1 (faP x1 x2).1).1:=p_heldRestoration (faP x1 x2).1 1 (by omega) (by omega) zr1
 have grZ47:=p_heldIntS (faP x1 x2).2.1 ((mkr_Restoration 1 (faP x1 x2).1).1) (by omega) (by omega) zr2
 have grZ59:M_by (⟨(⟨(⟨(mkr_Restoration 1 (faP x1 x2).1).2.1,(mkr_Restoration 1 (faP x1 x2).1).2.2.1⟩:TNetwork),(mkr_Restoration 1 (faP x1 x2).1).2.2.2.1⟩:TPlan),(mkr_Restoration 1 (faP x1 x2).1).2.2.2.2.1,(mkr_Restoration 1 (faP x1 x2).1).2.2.2.2.2⟩:TRestoration) 1=some (mkr_Restoration 1 (faP x1 x2).1).1:=p_heldRestoration (faP x1 x2).1 1 (by omega) (by omega) zr1
 have grZ61:=p_heldIntS (faP x1 x2).2.1 ((mkr_Restoration 1 (faP x1 x2).1).1) (by omega) (by omega) zr2
 simp only [p_spec_FailFibers x1 x2 z1 z2,p_impl_FailFibers x1 x2 z1 z2,p_toRestoration x1 z1,p_toIntS x2 z2,p_eqRestoration ((faP x1 x2).1) zr1,p_eqIntS ((faP x1 x2).2.1) zr2,p_eqRestoration x1 z1,p_eqIntS x2 z2,m1,n1,m2,n2,m3,n3,m4,n4,subT_len (mkr_len0_Restoration 1 (faP x1 x2).1),subT_len (mkr_len1_Restoration 1 (faP x1 x2).1),subT_len (mkr_len2_Restoration 1 (faP x1 x2).1),subT_len (mkr_len3_Restoration 1 (faP x1 x2).1),subT_len (mkr_len4_Restoration 1 (faP x1 x2).1),grZ43,subT_len (markL_len mk_IntS (faP x1 x2).2.1 ((mkr_Restoration 1 (faP x1 x2).1).1)),grZ47,grZ59,grZ61,subT_all,Option.bind_some,Bool.not_true,beq_self_eq_true,bnd,bne_self_eq_false,cond_false,cond_true]
end Vs

