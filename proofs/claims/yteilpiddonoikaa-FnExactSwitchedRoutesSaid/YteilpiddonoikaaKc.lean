/-
  Part of the proof that the law FnExactSwitchedRoutes returns true at every input; no condition beside the row's own.
-/
import Derived.Test.YteilpiddonoikaaXe
import Derived.Test.YteilpiddonoikaaKa
set_option linter.defProp false
set_option linter.unusedSimpArgs false
set_option linter.unusedVariables false
namespace Vs
open Go
theorem b2s_len:∀ (ns:List Int) (r:ByteArray),(ns.foldl (fun r n=>r.push (UInt8.ofNat n.toNat)) r).size=r.size+ns.length
 | [],r=>by simp
 | n :: ns, r => by
   simp only [List.foldl_cons,b2s_len ns,List.length_cons,ByteArray.size_push]; omega
theorem b2s_size (ns:List Int):(b2s ns).size=ns.length:=by
 unfold b2s; rw [b2s_len]; simp
def txt (k:Int):ByteArray:=(M_br k).getD ⟨#[]⟩
theorem p_markText (k:Int) (h0:0≤k) (h1:k≤1000000000000):M_br k=some (txt k):=by
 have:∃ r,M_br k=some r:=by
  unfold M_br
  by_cases h:k≤0
  · exact ⟨_,by rw [decide_eq_true h,cond_true]⟩
  · rw [decide_eq_false h,cond_false]
    obtain ⟨b,hb,hq⟩:=iter_inv (f:=M_ab) (fun s=>0≤s.1∧s.2.size≤13∧s.1 * 10 ^ s.2.size≤1000000000000) (fun s=>s.1.toNat) (fun b=>b.size≤13) (fun s hI=>by
     obtain ⟨a,z⟩:=s
     obtain ⟨i1,i2,i3⟩:=hI
     simp only at i1 i2 i3
     by_cases hp:0 < a
     · left
       have hz:z.size≤12:=by
        apply Decidable.byContradiction
        intro hc
        have e:z.size=13:=by omega
        rw [e] at i3
        omega
       have hd:10 * (a.tdiv 10)≤a:=by rw [Int.tdiv_eq_ediv_of_nonneg i1]; omega
       have hd2:a.tdiv 10 < a:=by rw [Int.tdiv_eq_ediv_of_nonneg i1]; omega
       have hd3:0≤a.tdiv 10:=by rw [Int.tdiv_eq_ediv_of_nonneg i1]; omega
       have hpow:(0:Int)≤10 ^ z.size:=Int.le_of_lt (Int.pow_pos (by omega))
       have ha:a≤1000000000000:=by
        have h1:(1:Int)≤10 ^ z.size:=Int.pow_pos (by omega)
        have:=Int.mul_le_mul_of_nonneg_left h1 i1
        omega
       refine ⟨(a.tdiv 10,b2s [IntKind.wrap .u8 (IntKind.wrap .i64 (48+(Int.tmod a 10)))]++z),?_,⟨hd3,?_,?_⟩,by simp only; omega⟩
       · simp only [M_ab,decide_eq_true hp,cond_true,bnd]
         rw [grd_t (by omega),grd_t (by rw [b2s_size]; simp; omega)]
         simp only [Option.bind_some]
         rw [w64_eq (n:=Int.tdiv a 10) (by omega) (by omega)]
       · simp only [ByteArray.size_append,b2s_size,List.length_cons,List.length_nil]; omega
       · simp only [ByteArray.size_append,b2s_size,List.length_cons,List.length_nil]
         rw [show 0+1+z.size=z.size+1 by omega,Int.pow_succ,Int.mul_comm (10 ^ z.size) 10,← Int.mul_assoc,Int.mul_comm (a.tdiv 10) 10]
         exact Int.le_trans (Int.mul_le_mul_of_nonneg_right hd hpow) i3
     · right
       exact ⟨z,by simp only [M_ab,decide_eq_false hp,cond_false],i2⟩) N0 (k,⟨#[]⟩) ⟨h0,by show (0:Nat)≤13; omega,by show k * 10 ^ 0≤1000000000000; simpa using h1⟩ (N0_lt (by simp; omega))
    rw [hb]
    simp only [Option.bind_some]
    rw [grd_t (by have:(⟨#[109]⟩:ByteArray).size=1:=rfl; omega)]
    exact ⟨_,rfl⟩
 obtain ⟨r,hr⟩:=this
 unfold txt; rw [hr]; rfl
def z_StringS (xs:(List ByteArray)):Nat:=xs.length+(xs.map fun x=>x.size).sum
def ok_StringS (xs:(List ByteArray)):Prop:=xs.length≤9223372036854775807∧∀ x∈xs,x.size≤9223372036854775807
theorem p_szStringS (xs:(List ByteArray)) (l:Int) (h1:0≤l) (h2:l≤1048576) (hs:ok_StringS xs):M_ct xs l=some (if l - z_StringS xs < 0 then (-1:Int) else l - z_StringS xs):=by
 unfold M_ct
 have hs1:=hs.1
 rw [w64_eq (by omega) (by omega)]
 simp only [cond_ite,decide_eq_true_eq]
 by_cases h:l - (xs.length:Int) < 0
 · rw [if_pos h,if_pos (by unfold z_StringS; omega)]
 · rw [if_neg h,sz_loop (f:=M_ac xs) xs (fun x=>x.size) (fun i x l' hx h3 h4=>by
    have hlt:=(List.getElem?_eq_some_iff.1 hx).1
    have h1:decide ((i:Int) < xs.length)=true:=by simp [hlt]
    have hx2:=hs.2 x (List.mem_of_getElem? hx)
    simp only [M_ac,h1,cond_true,geti_nat,hx,Option.bind_some,cond_ite,decide_eq_true_eq]
    rw [w64_eq (by omega) (by omega),w64_eq (by omega) (by omega)]
    by_cases h5:l' - (x.size:Int) < 0
    · simp only [if_pos h5,if_true]
    · simp only [if_neg h5,if_true]; rfl) (fun l=>by simp [M_ac]) _ (by omega) (by omega) (by omega)]
   have e:l - (xs.length:Int) - ((xs.map fun x=>x.size).sum:Nat)=l - (z_StringS xs:Int):=by unfold z_StringS; omega
   rw [e]
   by_cases h5:l - (z_StringS xs:Int) < 0
   · simp only [if_pos h5,Option.bind_some]
   · simp only [if_neg h5,Option.bind_some]
theorem p_toStringS (xs:(List ByteArray)) (hl:z_StringS xs≤1048576):M_cu xs=some xs:=by
 unfold M_cu
 have hlen:xs.length≤1048576:=by unfold z_StringS at hl; omega
 have key:=fun l0 (h0:l0.length=xs.length)=>iter_copy (f:=M_ad xs) xs id l0 h0 (fun i l x y hx hy hll=>by
  have hlt:=(List.getElem?_eq_some_iff.1 hx).1
  have h1:decide ((i:Int) < xs.length)=true:=by simp [hlt]
  have h2:(0≤(i:Int)∧(i:Int) < (l.length:Int)):=by omega
  simp only [M_ad,h1,cond_true,geti_nat,hx,Option.bind_some,grd_t h2,Int.toNat_natCast,hy,bnd,id]
  rw [w64_eq (by omega) (by omega)]; rfl) (fun l=>by simp [M_ad]) (by omega)
 rw [grd_t (by omega)]
 simp only [Option.bind_some,bnd]
 rw [key _ (by simp)]; simp
theorem p_eqStringS (xs:(List ByteArray)) (hl:z_StringS xs≤1048576):M_cv xs xs=some true:=by
 unfold M_cv
 have hlen:xs.length≤1048576:=by unfold z_StringS at hl; omega
 rw [eq_loop (f:=M_ae xs xs) xs (fun i x hx=>by
  have hlt:=(List.getElem?_eq_some_iff.1 hx).1
  have h1:decide ((i:Int) < xs.length)=true:=by simp [hlt]
  simp only [M_ae,h1,cond_true,geti_nat,hx,Option.bind_some,beq_self_eq_true,Bool.not_true,cond_false]
  rw [w64_eq (by omega) (by omega)]; rfl) (by simp [M_ae]) (by omega)]
 simp
theorem p_toFiber (x:TFiber):M_cf x=some x:=by unfold M_cf; rfl
theorem p_eqFiber (x:TFiber):M_cg x x=some true:=by unfold M_cg; simp
def z_FiberS (xs:(List TFiber)):Nat:=xs.length
def ok_FiberS (xs:(List TFiber)):Prop:=xs.length≤9223372036854775807
theorem p_szFiberS (xs:(List TFiber)) (l:Int) (h1:0≤l) (h2:l≤1048576) (hs:ok_FiberS xs):M_cw xs l=some (if l - z_FiberS xs < 0 then (-1:Int) else l - z_FiberS xs):=by
 unfold M_cw
 unfold ok_FiberS at hs
 rw [w64_eq (by omega) (by omega)]
 simp only [cond_ite,decide_eq_true_eq]
 by_cases h:l - (xs.length:Int) < 0
 · rw [if_pos h,if_pos (show l - (z_FiberS xs:Int) < 0 from h)]
 · rw [if_neg h,if_neg (show ¬ l - (z_FiberS xs:Int) < 0 from h)]; rfl
theorem p_toFiberS (xs:(List TFiber)) (hl:z_FiberS xs≤1048576):M_cx xs=some xs:=by
 unfold M_cx
 have hlen:xs.length≤1048576:=by unfold z_FiberS at hl; omega
 have key:=fun l0 (h0:l0.length=xs.length)=>iter_copy (f:=M_af xs) xs id l0 h0 (fun i l x y hx hy hll=>by
  have hlt:=(List.getElem?_eq_some_iff.1 hx).1
  have h1:decide ((i:Int) < xs.length)=true:=by simp [hlt]
  have h2:(0≤(i:Int)∧(i:Int) < (l.length:Int)):=by omega
  have hto:M_cf x=some x:=p_toFiber x
  simp only [M_af,h1,cond_true,geti_nat,hx,Option.bind_some,grd_t h2,Int.toNat_natCast,hy,hto,bnd,id]
  rw [w64_eq (by omega) (by omega)]; rfl) (fun l=>by simp [M_af]) (by omega)
 rw [grd_t (by omega)]
 simp only [Option.bind_some,bnd]
 rw [key _ (by simp)]; simp
theorem p_eqFiberS (xs:(List TFiber)) (hl:z_FiberS xs≤1048576):M_cy xs xs=some true:=by
 unfold M_cy
 have hlen:xs.length≤1048576:=by unfold z_FiberS at hl; omega
 rw [eq_loop (f:=M_ag xs xs) xs (fun i x hx=>by
  have hlt:=(List.getElem?_eq_some_iff.1 hx).1
  have h1:decide ((i:Int) < xs.length)=true:=by simp [hlt]
  have he:M_cg x x=some true:=p_eqFiber x
  simp only [M_ag,h1,cond_true,geti_nat,hx,Option.bind_some,he,Bool.not_true,cond_false]
  rw [w64_eq (by omega) (by omega)]; rfl) (by simp [M_ag]) (by omega)]
 simp
def z_Network (x:TNetwork):Nat:=z_StringS x.Nodes+z_FiberS x.Fibers
def ok_Network (x:TNetwork):Prop:=ok_StringS x.Nodes∧ok_FiberS x.Fibers
theorem p_szNetwork (x:TNetwork) (l:Int) (h1:0≤l) (h2:l≤1048576) (hs:ok_Network x):M_cz x l=some (if l - z_Network x < 0 then (-1:Int) else l - z_Network x):=by
 unfold M_cz
 obtain ⟨hs0,hs1⟩:=hs
 rw [p_szStringS _ _ (by omega) (by omega) hs0]
 simp only [Option.bind_some]
 by_cases h10:l - (z_StringS x.Nodes:Int) < 0
 · rw [if_pos h10,if_pos (show l - (z_Network x:Int) < 0 by unfold z_Network; omega)]; simp
 · simp only [if_neg h10]
   simp only [h10,decide_false,cond_false]
   rw [p_szFiberS _ _ (by omega) (by omega) hs1]
   simp only [Option.bind_some]
   by_cases h11:l - (z_StringS x.Nodes:Int) - (z_FiberS x.Fibers:Int) < 0
   · rw [if_pos h11,if_pos (show l - (z_Network x:Int) < 0 by unfold z_Network; omega)]; simp
   · simp only [if_neg h11]
     simp only [h11,decide_false,cond_false]
     have e:l - (z_StringS x.Nodes:Int) - (z_FiberS x.Fibers:Int)=l - (z_Network x:Int):=by unfold z_Network; omega
     rw [e,if_neg (by omega)]
theorem p_toNetwork (x:TNetwork) (hl:z_Network x≤1048576):M_bf x=some x:=by
 unfold M_bf
 simp only [p_toStringS x.Nodes (by unfold z_Network at hl; omega),p_toFiberS x.Fibers (by unfold z_Network at hl; omega),Option.bind_some]
theorem p_eqNetwork (x:TNetwork) (hl:z_Network x≤1048576):M_da x x=some true:=by
 unfold M_da
 simp [p_eqStringS x.Nodes (by unfold z_Network at hl; omega),p_eqFiberS x.Fibers (by unfold z_Network at hl; omega)]
def z_IntS (xs:(List Int)):Nat:=xs.length
def ok_IntS (xs:(List Int)):Prop:=xs.length≤9223372036854775807
theorem p_toIntS (xs:(List Int)) (hl:z_IntS xs≤1048576):M_bg xs=some xs:=by
 unfold M_bg
 have hlen:xs.length≤1048576:=by unfold z_IntS at hl; omega
 have key:=fun l0 (h0:l0.length=xs.length)=>iter_copy (f:=M_ah xs) xs id l0 h0 (fun i l x y hx hy hll=>by
  have hlt:=(List.getElem?_eq_some_iff.1 hx).1
  have h1:decide ((i:Int) < xs.length)=true:=by simp [hlt]
  have h2:(0≤(i:Int)∧(i:Int) < (l.length:Int)):=by omega
  simp only [M_ah,h1,cond_true,geti_nat,hx,Option.bind_some,grd_t h2,Int.toNat_natCast,hy,bnd,id]
  rw [w64_eq (by omega) (by omega)]; rfl) (fun l=>by simp [M_ah]) (by omega)
 rw [grd_t (by omega)]
 simp only [Option.bind_some,bnd]
 rw [key _ (by simp)]; simp
theorem p_eqIntS (xs:(List Int)) (hl:z_IntS xs≤1048576):M_bs xs xs=some true:=by
 unfold M_bs
 have hlen:xs.length≤1048576:=by unfold z_IntS at hl; omega
 rw [eq_loop (f:=M_ai xs xs) xs (fun i x hx=>by
  have hlt:=(List.getElem?_eq_some_iff.1 hx).1
  have h1:decide ((i:Int) < xs.length)=true:=by simp [hlt]
  simp only [M_ai,h1,cond_true,geti_nat,hx,Option.bind_some,bne_self_eq_false,cond_false]
  rw [w64_eq (by omega) (by omega)]; rfl) (by simp [M_ai]) (by omega)]
 simp
def z_Route (x:TRoute):Nat:=z_IntS x.Fibers
theorem p_eqRoute (x:TRoute) (hl:z_Route x≤1048576):M_ch x x=some true:=by
 unfold M_ch
 simp [p_eqIntS x.Fibers (by unfold z_Route at hl; omega)]
def z_RouteS (xs:(List TRoute)):Nat:=xs.length+(xs.map fun x=>z_Route x).sum
theorem p_eqRouteS (xs:(List TRoute)) (hl:z_RouteS xs≤1048576):M_bm xs xs=some true:=by
 unfold M_bm
 have hlen:xs.length≤1048576:=by unfold z_RouteS at hl; omega
 rw [eq_loop (f:=M_aj xs xs) xs (fun i x hx=>by
  have hlt:=(List.getElem?_eq_some_iff.1 hx).1
  have h1:decide ((i:Int) < xs.length)=true:=by simp [hlt]
  have he:M_ch x x=some true:=p_eqRoute x (by have:=sum_ge (fun x=>z_Route x) hx; unfold z_RouteS at hl; omega)
  simp only [M_aj,h1,cond_true,geti_nat,hx,Option.bind_some,he,Bool.not_true,cond_false]
  rw [w64_eq (by omega) (by omega)]; rfl) (by simp [M_aj]) (by omega)]
 simp
def mk_StringS (k:Int) (_:ByteArray):Int×ByteArray:=(k+1,txt k)
def w_bd (_:ByteArray):Nat:=1
theorem hw_StringS (k:Int) (x:ByteArray):(mk_StringS k x).1=k+(w_bd x:Int):=rfl
theorem w_ec (xs:(List ByteArray)):(xs.map w_bd).sum≤16 * z_StringS xs:=by
 unfold z_StringS
 induction xs with
 | nil=>simp
 | cons x xs ih=>simp only [List.map_cons,List.sum_cons,List.length_cons,w_bd] at ih ⊢; omega
theorem p_markStringS (xs:(List ByteArray)) (k0:Int) (hk:0≤k0) (hK:k0+((xs.map w_bd).sum:Nat)≤1000000000000) (hl:z_StringS xs≤1048576):M_db k0 xs=some (markL mk_StringS k0 xs):=by
 unfold M_db
 have hlen:xs.length≤1048576:=by unfold z_StringS at hl; omega
 rw [mark_loop (f:=M_ak) xs mk_StringS w_bd hw_StringS 1000000000000 (fun i x k l hll hi hx hli h0 hK2=>by
  have hw1:w_bd x=w_bd x:=rfl
  have h1:decide ((i:Int) < (l.length:Int))=true:=decide_eq_true (by omega)
  have h2:0≤(i:Int)∧(i:Int) < (l.length:Int):=by omega
  simp only [M_ak,h1,cond_true,grd_t h2,Option.bind_some,Int.toNat_natCast,hli,bnd,p_markText k h0 (by omega)]
  rw [w64_eq (n:=k+1) (by unfold w_bd at hK2; omega) (by unfold w_bd at hK2; omega),w64_eq (n:=(i:Int)+1) (by unfold w_bd at hK2; omega) (by unfold w_bd at hK2; omega)]
  rfl) (fun k l hll=>by simp [M_ak,hll]) k0 hk hK (by omega)]
 rfl
def mk_FiberS (k:Int) (_:TFiber):Int×TFiber:=(k+4,⟨k,k+1,k+2,k+3⟩)
def w_ax (_:TFiber):Nat:=4
theorem hw_FiberS (k:Int) (x:TFiber):(mk_FiberS k x).1=k+(w_ax x:Int):=rfl
theorem w_ed (xs:(List TFiber)):(xs.map w_ax).sum≤16 * z_FiberS xs:=by
 unfold z_FiberS
 induction xs with
 | nil=>simp
 | cons x xs ih=>simp only [List.map_cons,List.sum_cons,List.length_cons,w_ax] at ih ⊢; omega
theorem p_markFiberS (xs:(List TFiber)) (k0:Int) (hk:0≤k0) (hK:k0+((xs.map w_ax).sum:Nat)≤1000000000000) (hl:z_FiberS xs≤1048576):M_dc k0 xs=some (markL mk_FiberS k0 xs):=by
 unfold M_dc
 have hlen:xs.length≤1048576:=by unfold z_FiberS at hl; omega
 rw [mark_loop (f:=M_al) xs mk_FiberS w_ax hw_FiberS 1000000000000 (fun i x k l hll hi hx hli h0 hK2=>by
  have hw1:w_ax x=w_ax x:=rfl
  have h1:decide ((i:Int) < (l.length:Int))=true:=decide_eq_true (by omega)
  have h2:0≤(i:Int)∧(i:Int) < (l.length:Int):=by omega
  simp only [M_al,h1,cond_true,grd_t h2,Option.bind_some,Int.toNat_natCast,hli,bnd,List.getElem?_set_self (show i < l.length by omega),List.set_set]
  rw [w64_eq (n:=k+1) (by unfold w_ax at hK2; omega) (by unfold w_ax at hK2; omega),w64_eq (n:=k+1+1) (by unfold w_ax at hK2; omega) (by unfold w_ax at hK2; omega),w64_eq (n:=k+1+1+1) (by unfold w_ax at hK2; omega) (by unfold w_ax at hK2; omega),w64_eq (n:=k+1+1+1+1) (by unfold w_ax at hK2; omega) (by unfold w_ax at hK2; omega),w64_eq (n:=(i:Int)+1) (by unfold w_ax at hK2; omega) (by unfold w_ax at hK2; omega)]
  simp only [Int.add_assoc,Int.reduceAdd,mk_FiberS]
  rfl) (fun k l hll=>by simp [M_al,hll]) k0 hk hK (by omega)]
 rfl
def mkr_Network (k:Int) (x:TNetwork):Int×List ByteArray×List TFiber:=((markL mk_FiberS (markL mk_StringS k x.Nodes).1 x.Fibers).1,(markL mk_StringS k x.Nodes).2,(markL mk_FiberS (markL mk_StringS k x.Nodes).1 x.Fibers).2)
def wr_Network (x:TNetwork):Nat:=(x.Nodes.map w_bd).sum+(x.Fibers.map w_ax).sum
theorem mkr_fst_Network (k:Int) (x:TNetwork):(mkr_Network k x).1=k+(wr_Network x:Int):=by
 unfold mkr_Network wr_Network
 simp only [markL_fst mk_StringS w_bd hw_StringS,markL_fst mk_FiberS w_ax hw_FiberS]
 try omega
theorem w_ea (x:TNetwork):wr_Network x≤16 * z_Network x:=by
 unfold wr_Network
 have hz:z_Network x=z_StringS x.Nodes+z_FiberS x.Fibers:=by unfold z_Network; omega
 have:=w_ec x.Nodes
 have:=w_ed x.Fibers
 omega
theorem p_markNetwork (x:TNetwork) (k0:Int) (hk:0≤k0) (hK:k0+(wr_Network x:Int)≤1000000000000) (hl:z_Network x≤1048576):M_dd k0 x.Nodes x.Fibers=some (mkr_Network k0 x):=by
 unfold M_dd
 unfold wr_Network at hK
 have hz:z_Network x=z_StringS x.Nodes+z_FiberS x.Fibers:=by unfold z_Network; omega
 have f0:=markL_fst mk_StringS w_bd hw_StringS x.Nodes k0
 have f1:=markL_fst mk_FiberS w_ax hw_FiberS x.Fibers ((markL mk_StringS k0 x.Nodes).1)
 rw [p_markStringS x.Nodes k0 (by omega) (by omega) (by omega)]
 simp only [Option.bind_some]
 rw [p_markFiberS x.Fibers ((markL mk_StringS k0 x.Nodes).1) (by omega) (by omega) (by omega)]
 simp only [Option.bind_some]
 rfl
def mk_IntS (k:Int) (_:Int):Int×Int:=(k+1,k)
def w_IntS (_:Int):Nat:=1
theorem hw_IntS (k:Int) (x:Int):(mk_IntS k x).1=k+(w_IntS x:Int):=rfl
theorem w_dz (xs:(List Int)):(xs.map w_IntS).sum≤16 * z_IntS xs:=by
 unfold z_IntS
 induction xs with
 | nil=>simp
 | cons x xs ih=>simp only [List.map_cons,List.sum_cons,List.length_cons,w_IntS] at ih ⊢; omega
theorem p_markIntS (xs:(List Int)) (k0:Int) (hk:0≤k0) (hK:k0+((xs.map w_IntS).sum:Nat)≤1000000000000) (hl:z_IntS xs≤1048576):M_bt k0 xs=some (markL mk_IntS k0 xs):=by
 unfold M_bt
 have hlen:xs.length≤1048576:=by unfold z_IntS at hl; omega
 rw [mark_loop (f:=M_am) xs mk_IntS w_IntS hw_IntS 1000000000000 (fun i x k l hll hi hx hli h0 hK2=>by
  have hw1:w_IntS x=w_IntS x:=rfl
  have h1:decide ((i:Int) < (l.length:Int))=true:=decide_eq_true (by omega)
  have h2:0≤(i:Int)∧(i:Int) < (l.length:Int):=by omega
  simp only [M_am,h1,cond_true,grd_t h2,Option.bind_some,Int.toNat_natCast,hli,bnd]
  rw [w64_eq (n:=k+1) (by unfold w_IntS at hK2; omega) (by unfold w_IntS at hK2; omega),w64_eq (n:=(i:Int)+1) (by unfold w_IntS at hK2; omega) (by unfold w_IntS at hK2; omega)]
  rfl) (fun k l hll=>by simp [M_am,hll]) k0 hk hK (by omega)]
 rfl
theorem p_heldIntS (xs:(List Int)) (k0:Int) (hk:0≤k0) (hK:k0+((xs.map w_IntS).sum:Nat)≤1000000000000) (hl:z_IntS xs≤1048576):M_ci (markL mk_IntS k0 xs).2 k0=some (markL mk_IntS k0 xs).1:=by
 unfold M_ci
 have hlen:xs.length≤1048576:=by unfold z_IntS at hl; omega
 rw [held_loop (f:=M_an (markL mk_IntS k0 xs).2) xs mk_IntS w_IntS hw_IntS 1000000000000 k0 (fun i x k hx hm h0 hK2=>by
  have hi:=(List.getElem?_eq_some_iff.1 hx).1
  have h1:decide ((i:Int) < ((markL mk_IntS k0 xs).2.length:Int))=true:=decide_eq_true (by rw [markL_len]; omega)
  simp only [M_an,h1,cond_true,geti_nat,hm,Option.bind_some,mk_IntS,bne_self_eq_false,cond_false]
  rw [w64_eq (n:=k+1) (by unfold w_IntS at hK2; omega) (by unfold w_IntS at hK2; omega),w64_eq (n:=(i:Int)+1) (by unfold w_IntS at hK2; omega) (by unfold w_IntS at hK2; omega)]
  rfl) (fun k=>by simp [M_an,markL_len]) hk hK (by omega)]
 rfl
def mk_RouteS (k:Int) (x:TRoute):Int×TRoute:=((markL mk_IntS (k+1) x.Fibers).1,⟨k,(markL mk_IntS (k+1) x.Fibers).2⟩)
def w_be (x:TRoute):Nat:=1+(x.Fibers.map w_IntS).sum
theorem hw_RouteS (k:Int) (x:TRoute):(mk_RouteS k x).1=k+(w_be x:Int):=by
 unfold mk_RouteS w_be
 simp only [markL_fst mk_IntS w_IntS hw_IntS]
 omega
theorem w_eb (xs:(List TRoute)):(xs.map w_be).sum≤16 * z_RouteS xs:=by
 unfold z_RouteS
 induction xs with
 | nil=>simp
 | cons x xs ih =>
   have t0:=w_dz x.Fibers
   simp only [z_IntS] at t0
   simp only [List.map_cons,List.sum_cons,List.length_cons,w_be,z_Route,z_IntS] at ih ⊢
   omega
theorem p_markRouteS (xs:(List TRoute)) (k0:Int) (hk:0≤k0) (hK:k0+((xs.map w_be).sum:Nat)≤1000000000000) (hl:z_RouteS xs≤1048576):M_cj k0 xs=some (markL mk_RouteS k0 xs):=by
 unfold M_cj
 have hlen:xs.length≤1048576:=by unfold z_RouteS at hl; omega
 rw [mark_loop (f:=M_ao) xs mk_RouteS w_be hw_RouteS 1000000000000 (fun i x k l hll hi hx hli h0 hK2=>by
  have hw1:w_be x=w_be x:=rfl
  have h1:decide ((i:Int) < (l.length:Int))=true:=decide_eq_true (by omega)
  have h2:0≤(i:Int)∧(i:Int) < (l.length:Int):=by omega
  have hb:z_Route x≤1048576:=by have:=sum_ge (fun x=>z_Route x) hx; unfold z_RouteS at hl; omega
  unfold z_Route z_IntS at hb
  unfold w_be at hK2
  simp only [M_ao,h1,cond_true,grd_t h2,Option.bind_some,Int.toNat_natCast,hli,bnd,List.getElem?_set_self (show i < l.length by omega),List.set_set]
  rw [w64_eq (n:=k+1) (by omega) (by omega)]
  have f0:=markL_fst mk_IntS w_IntS hw_IntS x.Fibers (k+1)
  have g0:=w_dz x.Fibers
  unfold z_IntS at g0
  rw [p_markIntS x.Fibers (k+1) (by omega) (by omega) (by unfold z_IntS; omega)]
  simp only [Option.bind_some,List.getElem?_set_self (show i < l.length by omega),List.set_set]
  rw [w64_eq (n:=(i:Int)+1) (by omega) (by omega)]
  rfl) (fun k l hll=>by simp [M_ao,hll]) k0 hk hK (by omega)]
 rfl
theorem p_heldRouteS (xs:(List TRoute)) (k0:Int) (hk:0≤k0) (hK:k0+((xs.map w_be).sum:Nat)≤1000000000000) (hl:z_RouteS xs≤1048576):M_bu (markL mk_RouteS k0 xs).2 k0=some (markL mk_RouteS k0 xs).1:=by
 unfold M_bu
 have hlen:xs.length≤1048576:=by unfold z_RouteS at hl; omega
 rw [held_loop (f:=M_ap (markL mk_RouteS k0 xs).2) xs mk_RouteS w_be hw_RouteS 1000000000000 k0 (fun i x k hx hm h0 hK2=>by
  have hi:=(List.getElem?_eq_some_iff.1 hx).1
  have h1:decide ((i:Int) < ((markL mk_RouteS k0 xs).2.length:Int))=true:=decide_eq_true (by rw [markL_len]; omega)
  have hb:z_Route x≤1048576:=by have:=sum_ge (fun x=>z_Route x) hx; unfold z_RouteS at hl; omega
  unfold z_Route z_IntS at hb
  unfold w_be at hK2
  simp only [M_ap,h1,cond_true,geti_nat,hm,Option.bind_some,mk_RouteS]
  rw [w64_eq (n:=k+1) (by omega) (by omega)]
  have f0:=markL_fst mk_IntS w_IntS hw_IntS x.Fibers (k+1)
  have g0:=w_dz x.Fibers
  unfold z_IntS at g0
  have hh0:M_ci (markL mk_IntS (k+1) x.Fibers).2 (k+1)=some (markL mk_IntS (k+1) x.Fibers).1:=p_heldIntS x.Fibers (k+1) (by omega) (by omega) (by unfold z_IntS; omega)
  have hn0:decide ((markL mk_IntS (k+1) x.Fibers).1 < 0)=false:=decide_eq_false (by omega)
  simp only [bne_self_eq_false,cond_false,hh0,Option.bind_some,hn0]
  rw [w64_eq (n:=(i:Int)+1) (by omega) (by omega)]
  try simp only [bne_self_eq_false,cond_false]
  rfl) (fun k=>by simp [M_ap,markL_len]) hk hK (by omega)]
 rfl
end Vs

namespace Vs
open Go
def wi (x a b:Int):Bool:=decide (a≤x)&&decide (x≤b)
theorem wi_iff {x a b:Int}:wi x a b=true↔a≤x∧x≤b:=by simp [wi]
theorem wi_false {x a b:Int}:wi x a b=false↔¬ (a≤x∧x≤b):=by rw [← wi_iff]; simp
theorem p_within (x a b:Int):M_ba x a b=some (wi x a b):=by
 unfold M_ba wi; by_cases h:a≤x <;> simp [h]
theorem p_l1In (x a b:Int):M_b x a b=some (wi x a b):=by
 unfold M_b wi; by_cases h:a≤x <;> simp [h]
def letB (c:UInt8):Bool:=decide (97≤c.toNat)&&decide (c.toNat≤122)
def digB (c:UInt8):Bool:=decide (48≤c.toNat)&&decide (c.toNat≤57)
def nameBad (i:Nat) (c:UInt8):Bool:=!letB c&&(!digB c||i==0)
def nameB (s:ByteArray):Bool:=!anyI nameBad s.data.toList&&wi s.size 1 8
theorem getz_nat (s:ByteArray) (i:Nat):getz s (i:Int)=s.data.toList[i]?:=by
 unfold getz
 rw [if_pos (by omega),Int.toNat_natCast]
 by_cases h:i < s.size
 · have h2:i < s.data.toList.length:=by simpa using h
   rw [getElem?_pos s i h,List.getElem?_eq_getElem h2]
   rfl
 · have h2:¬ i < s.data.toList.length:=by simpa using h
   rw [getElem?_neg s i h,List.getElem?_eq_none (Nat.le_of_not_lt h2)]
theorem size_list (s:ByteArray):s.size=s.data.toList.length:=by show s.data.size=s.data.toList.length; rw [Array.length_toList]
theorem letB_c (c:UInt8):letB c=(decide (97≤(c.toNat:Int))&&decide ((c.toNat:Int)≤122)):=by
 unfold letB
 congr 1 <;> exact decide_eq_decide.2 (by omega)
theorem digB_c (c:UInt8):digB c=(decide (48≤(c.toNat:Int))&&decide ((c.toNat:Int)≤57)):=by
 unfold digB
 congr 1 <;> exact decide_eq_decide.2 (by omega)
theorem p_isName (s:ByteArray) (hl:s.size≤1048576):M_cn s=some (nameB s):=by
 unfold M_cn nameB
 rw [size_list] at *
 rw [iter_anyI (f:=M_h s) s.data.toList nameBad (.inr false) (.inl ()) (fun i c hc _=>by
  have hlt:=(List.getElem?_eq_some_iff.1 hc).1
  have h1:decide ((i:Int) < s.size)=true:=decide_eq_true (by rw [size_list]; omega)
  simp only [M_h,h1,cond_true,getz_nat,hc,Option.bind_some,nameBad,letB_c,digB_c]
  rw [w64_eq (by omega) (by omega)]
  have hi:((i:Int)==0)=(i==0):=by rw [Bool.eq_iff_iff]; simp
  rw [hi]
  cases decide (97≤(c.toNat:Int)) <;> cases decide ((c.toNat:Int)≤122) <;> cases decide (48≤(c.toNat:Int)) <;> cases decide ((c.toNat:Int)≤57) <;> cases (i==0) <;> rfl) (by simp [M_h]) (by omega)]
 rw [← size_list]
 cases anyI nameBad s.data.toList <;> simp [p_within]
theorem p_l2Sign (c:UInt8):M_co (c.toNat:Int)=some (letB c||digB c):=by
 unfold M_co
 simp only [letB_c,digB_c]
 cases decide (97≤(c.toNat:Int)) <;> cases decide ((c.toNat:Int)≤122) <;> cases decide (48≤(c.toNat:Int)) <;> rfl
theorem fstc (c:UInt8):(cond (decide ((c.toNat:Int) < 97)) (some true) (some (decide (122 < (c.toNat:Int)))):Option Bool)=some (!letB c):=by
 rw [letB_c]
 by_cases h1:(c.toNat:Int) < 97
 · have h2:¬ 97≤(c.toNat:Int):=by omega
   simp [h1,h2]
 · have h2:97≤(c.toNat:Int):=by omega
   simp only [h1,decide_false,cond_false,h2,decide_true,Bool.true_and]
   by_cases h3:122 < (c.toNat:Int)
   · have h4:¬ (c.toNat:Int)≤122:=by omega
     simp [h3,h4]
   · have h4:(c.toNat:Int)≤122:=by omega
     simp [h3,h4]
theorem p_l2Name (s:ByteArray) (hl:s.size≤1048576):M_cp s=some (nameB s):=by
 unfold M_cp nameB
 simp only [p_l1In,Option.bind_some]
 rcases bt (wi s.size 1 8) with hw | hw
 · simp only [hw,Bool.not_true,cond_false,Bool.and_true]
   have hs:0 < s.data.toList.length:=by rw [← size_list]; have:=(wi_iff.1 hw).1; omega
   have h0:s.data.toList[0]?=some s.data.toList[0]:=List.getElem?_eq_getElem hs
   have g0:getz s 0=some s.data.toList[0]:=by rw [← h0]; exact getz_nat s 0
   simp only [g0,Option.bind_some]
   have key:=iter_anyI (f:=M_w s) s.data.toList (fun _ c=>!(letB c||digB c)) (.inr false) (.inl ()) (fun i c hc _=>by
    have hlt:=(List.getElem?_eq_some_iff.1 hc).1
    have h1:decide ((i:Int) < s.size)=true:=decide_eq_true (by rw [size_list]; omega)
    rw [size_list] at hl
    simp only [M_w,h1,cond_true,getz_nat,hc,Option.bind_some,p_l2Sign]
    rw [w64_eq (by omega) (by omega)]
    cases letB c <;> cases digB c <;> rfl) (by simp [M_w]) (by rw [size_list] at hl; omega)
   rw [fstc]
   simp only [Option.bind_some,key]
   rcases bt (letB s.data.toList[0]) with hL | hL
   · simp only [hL,Bool.not_true,cond_false]
     have e:anyI (fun _ c=>!(letB c||digB c)) s.data.toList=anyI nameBad s.data.toList:=by
      refine anyI_congr fun i c hc _=>?_
      unfold nameBad
      by_cases hi:i=0
      · subst hi; rw [h0] at hc; cases hc; rw [hL]; rfl
      · have:(i==0)=false:=by simpa using hi
        rw [this]
        cases letB c <;> cases digB c <;> rfl
     rw [e]
     cases anyI nameBad s.data.toList <;> rfl
   · have:anyI nameBad s.data.toList=true:=anyI_iff.2 ⟨0,_,h0,by unfold nameBad; rw [hL]; simp⟩
     simp only [hL,this,Bool.not_false,cond_true,Bool.not_true]
 · simp [hw]
def idxZ (v:ByteArray) (xs:List ByteArray):Option (Nat×ByteArray):=findI (fun _ x=>x.toList==v.toList) xs
def fidx (v:ByteArray) (xs:List ByteArray):Int:=match idxZ v xs with | some q=>(q.1:Int) | none=>-1
theorem p_l2Find (xs:List ByteArray) (v:ByteArray) (hl:xs.length≤1048576):M_cq xs v=some (fidx v xs):=by
 unfold M_cq fidx
 rw [iter_findI (f:=M_x xs v) xs (fun _ x=>x.toList==v.toList) (fun i _=>(i:Int)) () (fun i x hx _=>by
  have hlt:=(List.getElem?_eq_some_iff.1 hx).1
  have h1:decide ((i:Int) < xs.length)=true:=by simp [hlt]
  simp only [M_x,h1,cond_true,geti_nat,hx,Option.bind_some]
  rw [w64_eq (by omega) (by omega)]
  cases x.toList==v.toList <;> rfl) (by simp [M_x]) (by omega)]
 unfold idxZ
 cases findI (fun _ x=>x.toList==v.toList) xs <;> rfl
theorem p_Contains_z (xs:List ByteArray) (v:ByteArray) (hl:xs.length≤1048576):M_cr xs v=some (xs.any fun x=>x.toList==v.toList):=by
 unfold M_cr M_dv
 rw [iter_findI (f:=M_y xs v) xs (fun _ x=>x.toList==v.toList) (fun i _=>(i:Int)) () (fun i x hx _=>by
  have hlt:=(List.getElem?_eq_some_iff.1 hx).1
  have h1:decide ((i:Int) < xs.length)=true:=by simp [hlt]
  simp only [M_y,h1,cond_true,geti_nat,hx,Option.bind_some]
  rw [w64_eq (by omega) (by omega),show (v.toList==x.toList)=(x.toList==v.toList) from Bool.beq_comm ..]
  cases x.toList==v.toList <;> rfl) (by simp [M_y]) (by omega)]
 cases e:findI (fun _ x=>x.toList==v.toList) xs with
 | none =>
   have:=findI_none.1 e
   have h:(xs.any fun x=>x.toList==v.toList)=false:=by
    rw [← anyI_any (fun x:ByteArray=>x.toList==v.toList),anyI_false]; exact this
   rw [h]; rfl
 | some q =>
   obtain ⟨i,x⟩:=q
   obtain ⟨h1,h2,_⟩:=findI_some.1 e
   have h:(xs.any fun x=>x.toList==v.toList)=true:=List.any_eq_true.2 ⟨x,List.mem_of_getElem? h1,h2⟩
   rw [h]; simp
def cmpI (x y:Int):Int:=if x < y then -1 else if y < x then 1 else 0
theorem p_cmp (x y:Int):M_z x y=some (cmpI x y):=by
 unfold M_z M_ce cmpI
 by_cases h:x < y
 · simp [h]
 · by_cases h2:y < x <;> simp [h,h2]
def cmpF (f g:TFiber):Int:=if f.A ≠ g.A then cmpI f.A g.A else if f.B ≠ g.B then cmpI f.B g.B else if f.Length ≠ g.Length then cmpI f.Length g.Length else cmpI f.Risk g.Risk
theorem cmpI_zero {x y:Int}:cmpI x y=0↔x=y:=by
 unfold cmpI
 split
 · simp; omega
 · split
   · simp; omega
   · simp; omega
theorem p_compareFibers (f g:TFiber):M_cs f g=some (cmpF f g):=by
 unfold M_cs
 simp only [p_cmp,Option.bind_some,bnd]
 unfold M_bo
 have key:=iter_findI (f:=M_f [cmpI f.A g.A,cmpI f.B g.B,cmpI f.Length g.Length,cmpI f.Risk g.Risk]) [cmpI f.A g.A,cmpI f.B g.B,cmpI f.Length g.Length,cmpI f.Risk g.Risk] (fun _ x=>x != 0) (fun _ x=>x) () (fun i x hx _=>by
  have hlt:=(List.getElem?_eq_some_iff.1 hx).1
  have h1:decide ((i:Int) < ([cmpI f.A g.A,cmpI f.B g.B,cmpI f.Length g.Length,cmpI f.Risk g.Risk].length:Nat))=true:=decide_eq_true (by omega)
  simp only [List.length_cons,List.length_nil] at hlt
  simp only [M_f,h1,cond_true,geti_nat,hx,Option.bind_some]
  rw [w64_eq (by omega) (by omega)]
  cases x != 0 <;> rfl) (by simp [M_f]) (by simp)
 rw [key]
 unfold cmpF findI
 simp only [List.zipIdx_cons,List.zipIdx_nil,List.find?_cons,List.find?_nil]
 by_cases h1:f.A=g.A
 · rw [cmpI_zero.2 h1]
   by_cases h2:f.B=g.B
   · rw [cmpI_zero.2 h2]
     by_cases h3:f.Length=g.Length
     · rw [cmpI_zero.2 h3]
       by_cases h4:f.Risk=g.Risk
       · simp [h1,h2,h3,h4,cmpI_zero.2]
       · have:(cmpI f.Risk g.Risk != 0)=true:=bne_iff_ne.2 fun e=>h4 (cmpI_zero.1 e)
         simp [h1,h2,h3,this]
     · have:(cmpI f.Length g.Length != 0)=true:=bne_iff_ne.2 fun e=>h3 (cmpI_zero.1 e)
       simp [h1,h2,h3,this]
   · have:(cmpI f.B g.B != 0)=true:=bne_iff_ne.2 fun e=>h2 (cmpI_zero.1 e)
     simp [h1,h2,this]
 · have:(cmpI f.A g.A != 0)=true:=bne_iff_ne.2 fun e=>h1 (cmpI_zero.1 e)
   simp [h1,this]
end Vs

namespace Vs
open Go
theorem slT_nat {α:Type} (xs:List α) (i:Nat) (h:i≤xs.length):slT xs (i:Int)=some (xs.take i):=by
 unfold slT
 rw [if_pos ⟨by omega,by simpa using h⟩]; simp
theorem z_net {n:TNetwork} (h:z_Network n≤1048576):n.Nodes.length≤1048576∧n.Fibers.length≤1048576∧∀ x∈n.Nodes,x.size≤1048576:=by
 unfold z_Network z_StringS z_FiberS at h
 refine ⟨by omega,by omega,fun x hx=>?_⟩
 obtain ⟨i,hi,rfl⟩:=List.getElem_of_mem hx
 have:n.Nodes[i].size≤(n.Nodes.map fun x:ByteArray=>x.size).sum:=sum_ge (fun x:ByteArray=>x.size) (xs:=n.Nodes) (i:=i) (x:=n.Nodes[i]) (by simp [hi])
 omega
def nodeBad (n:TNetwork) (i:Nat) (x:ByteArray):Bool:=!nameB x||(n.Nodes.take i).any fun y=>y.toList==x.toList
def fib1 (m:Nat) (f:TFiber):Bool:=decide (f.A < 0)||decide (f.B≤f.A)||decide ((m:Int)≤f.B)||!wi f.Length 1 5000||!wi f.Risk 0 9
def fibBad (n:TNetwork) (i:Nat) (f:TFiber):Bool:=fib1 n.Nodes.length f||(decide (0 < i)&&match n.Fibers[i - 1]? with | some g=>decide (0 < cmpF g f) | none=>false)
def netOk (n:TNetwork):Bool:=!anyI (nodeBad n) n.Nodes&&!anyI (fibBad n) n.Fibers&&wi n.Nodes.length 2 8&&decide (n.Fibers.length≤14)
theorem p_IsValidNetwork (n:TNetwork) (hz:z_Network n≤1048576):M_ds n=some (netOk n):=by
 obtain ⟨h1,h2,h3⟩:=z_net hz
 unfold M_ds netOk
 rw [iter_anyI (f:=M_aw n) n.Nodes (nodeBad n) (.inr false) (.inl ()) (fun i x hx _=>by
  have hlt:=(List.getElem?_eq_some_iff.1 hx).1
  have e1:decide ((i:Int) < n.Nodes.length)=true:=by simp [hlt]
  simp only [M_aw,e1,cond_true,geti_nat,hx,Option.bind_some,p_isName x (h3 x (List.mem_of_getElem? hx)),slT_nat n.Nodes i (Nat.le_of_lt hlt),p_Contains_z (n.Nodes.take i) x (by simp; omega),nodeBad]
  rw [w64_eq (by omega) (by omega)]
  rcases bt (nameB x) with e | e <;> rcases bt ((n.Nodes.take i).any (fun y=>y.toList==x.toList)) with e' | e' <;> simp only [e,e'] <;> rfl) (by simp [M_aw]) (by omega)]
 rcases bt (anyI (nodeBad n) n.Nodes) with hN | hN
 · simp [hN]
 · simp only [hN,Bool.false_eq_true,if_false,Option.bind_some,Bool.not_false,Bool.true_and]
   rw [iter_anyI (f:=M_j n) n.Fibers (fibBad n) (.inr false) (.inl ()) (fun i x hx _=>by
    have hlt:=(List.getElem?_eq_some_iff.1 hx).1
    have e1:decide ((i:Int) < n.Fibers.length)=true:=by simp [hlt]
    simp only [M_j,e1,cond_true,geti_nat,hx,Option.bind_some,p_within]
    rw [w64_eq (n:=(i:Int)+1) (by omega) (by omega)]
    unfold fibBad fib1
    cases decide (x.A < 0)
    · cases decide (x.B≤x.A)
      · cases decide ((n.Nodes.length:Int)≤x.B)
        · cases wi x.Length 1 5000
          · rfl
          · cases wi x.Risk 0 9
            · rfl
            · by_cases hi:0 < i
              · have hi':decide ((0:Int) < (i:Int))=true:=by simp [hi]
                have hp:n.Fibers[i - 1]?=some n.Fibers[i - 1]:=List.getElem?_eq_getElem (by omega)
                have hw:IntKind.wrap .i64 ((i:Int) - 1)=((i - 1:Nat):Int):=by rw [w64_eq (by omega) (by omega)]; omega
                simp only [hi',cond_true,cond_false,Bool.not_true,hw,geti_nat,hp,Option.bind_some,p_compareFibers,hi,decide_true,Bool.true_and,Bool.false_or]
                cases decide (0 < cmpF n.Fibers[i - 1] x) <;> rfl
              · have hi':decide ((0:Int) < (i:Int))=false:=by simp; omega
                simp [hi',hi]
        · rfl
      · rfl
    · rfl) (by simp [M_j]) (by omega)]
   rcases bt (anyI (fibBad n) n.Fibers) with hF | hF
   · simp [hF]
   · simp only [hF,Bool.false_eq_true,if_false,Option.bind_some,Bool.not_false,Bool.true_and,p_within]
     have e:decide ((n.Fibers.length:Int)≤14)=decide (n.Fibers.length≤14):=decide_eq_decide.2 (by omega)
     rw [e]
     cases wi n.Nodes.length 2 8 <;> rfl
theorem find_dup (n:TNetwork) (i:Nat) (x:ByteArray) (hx:n.Nodes[i]?=some x) :
 (fidx x n.Nodes != (i:Int))=(n.Nodes.take i).any fun y=>y.toList==x.toList:=by
 unfold fidx
 cases e:idxZ x n.Nodes with
 | none =>
   have:=findI_none.1 e i x hx
   simp at this
 | some q =>
   obtain ⟨j,y⟩:=q
   obtain ⟨h1,h2,h3⟩:=findI_some.1 e
   simp only
   by_cases hj:j=i
   · subst hj
     have:((n.Nodes.take j).any fun y=>y.toList==x.toList)=false:=by
      rw [List.any_eq_false]
      intro z hz
      obtain ⟨k,hk,rfl⟩:=List.getElem_of_mem hz
      simp only [List.length_take] at hk
      have:=h3 k (n.Nodes.take j)[k] (by omega) (by rw [List.getElem_take]; exact List.getElem?_eq_getElem (by omega))
      rw [this]; simp
     rw [this]; simp
   · have hji:j < i:=by
      rcases Nat.lt_trichotomy j i with h | h | h
      · exact h
      · exact (hj h).elim
      · have:=h3 i x h hx
        simp at this
     have:((n.Nodes.take i).any fun y=>y.toList==x.toList)=true:=List.any_eq_true.2 ⟨y,by
      have:(n.Nodes.take i)[j]?=some y:=by rw [List.getElem?_take,if_pos hji]; exact h1
      exact List.mem_of_getElem? this,h2⟩
     rw [this]
     simp; omega
theorem p_l2Fiber (f:TFiber) (m:Nat) (hm:m≤8) (hm2:2≤m):M_dn f (m:Int)=some (!fib1 m f):=by
 unfold M_dn fib1
 simp only [p_l1In,Option.bind_some]
 rw [w64_eq (n:=(m:Int) - 1) (by omega) (by omega)]
 rcases bt (wi f.A 0 ((m:Int) - 1)) with h1 | h1
 · have h2:=wi_iff.1 h1
   rw [w64_eq (n:=f.A+1) (by omega) (by omega)]
   rcases bt (wi f.B (f.A+1) ((m:Int) - 1)) with h3 | h3
   · have h4:=wi_iff.1 h3
     have a1:decide (f.A < 0)=false:=by simp; omega
     have a2:decide (f.B≤f.A)=false:=by simp; omega
     have a3:decide ((m:Int)≤f.B)=false:=by simp; omega
     simp only [h1,h3,a1,a2,a3,cond_true,Bool.false_or]
     cases wi f.Length 1 5000 <;> cases wi f.Risk 0 9 <;> rfl
   · have h4:=wi_false.1 h3
     simp only [h1,h3,cond_true,cond_false]
     by_cases a2:f.B≤f.A
     · simp [a2]
     · have a3:(m:Int)≤f.B:=by omega
       simp [a3]
 · have h2:=wi_false.1 h1
   simp only [h1,cond_false]
   by_cases a1:f.A < 0
   · simp [a1]
   · by_cases a2:f.B≤f.A
     · simp [a2]
     · have a3:(m:Int)≤f.B:=by omega
       simp [a3]
structure FibOk (m:Int) (f:TFiber):Prop where
 a0:0≤f.A
 ab:f.A < f.B
 bm:f.B < m
 l1:1≤f.Length
 l2:f.Length≤5000
 r0:0≤f.Risk
 r9:f.Risk≤9
theorem fib1_ok {m:Nat} {f:TFiber} (h:fib1 m f=false):FibOk m f:=by
 unfold fib1 at h
 simp only [Bool.or_eq_false_iff,decide_eq_false_iff_not,Bool.not_eq_false',wi_iff] at h
 obtain ⟨⟨⟨⟨h1,h2⟩,h3⟩,h4,h5⟩,h6,h7⟩:=h
 exact ⟨by omega,by omega,by omega,h4,h5,h6,h7⟩
theorem p_before (f g:TFiber) (m:Nat) (hm:m≤8) (hf:FibOk m f) (hg:FibOk m g):∃ r,M_do f g=some r∧decide (0 < r)=decide (0 < cmpF f g):=by
 obtain ⟨a1,a2,a3,a4,a5,a6,a7⟩:=hf
 obtain ⟨b1,b2,b3,b4,b5,b6,b7⟩:=hg
 have sgn:∀ x y:Int,decide (0 < x - y)=decide (0 < cmpI x y):=by
  intro x y
  unfold cmpI
  by_cases h:x < y
  · rw [if_pos h]; exact decide_eq_decide.2 (by omega)
  · rw [if_neg h]
    by_cases h2:y < x
    · rw [if_pos h2]; exact decide_eq_decide.2 (by omega)
    · rw [if_neg h2]; exact decide_eq_decide.2 (by omega)
 unfold M_do cmpF
 rw [w64_eq (n:=f.A - g.A) (by omega) (by omega),w64_eq (n:=f.B - g.B) (by omega) (by omega),w64_eq (n:=f.Length - g.Length) (by omega) (by omega),w64_eq (n:=f.Risk - g.Risk) (by omega) (by omega)]
 by_cases h1:f.A=g.A
 · have e1:(f.A != g.A)=false:=by rw [h1]; simp
   by_cases h2:f.B=g.B
   · have e2:(f.B != g.B)=false:=by rw [h2]; simp
     by_cases h3:f.Length=g.Length
     · have e3:(f.Length != g.Length)=false:=by rw [h3]; simp
       exact ⟨f.Risk - g.Risk,by simp only [e1,e2,e3,cond_false],by simp only [h1,h2,h3,ne_eq,not_true,if_false]; exact sgn _ _⟩
     · have e3:(f.Length != g.Length)=true:=bne_iff_ne.2 h3
       exact ⟨f.Length - g.Length,by simp only [e1,e2,e3,cond_false,cond_true],by simp only [h1,h2,h3,ne_eq,not_true,not_false_eq_true,if_false,if_true]; exact sgn _ _⟩
   · have e2:(f.B != g.B)=true:=bne_iff_ne.2 h2
     exact ⟨f.B - g.B,by simp only [e1,e2,cond_false,cond_true],by simp only [h1,h2,ne_eq,not_true,not_false_eq_true,if_false,if_true]; exact sgn _ _⟩
 · have e1:(f.A != g.A)=true:=bne_iff_ne.2 h1
   exact ⟨f.A - g.A,by simp only [e1,cond_true],by simp only [h1,ne_eq,not_false_eq_true,if_true]; exact sgn _ _⟩
theorem p_l2Good (n:TNetwork) (hz:z_Network n≤1048576):M_bw n=some (netOk n):=by
 obtain ⟨z1,z2,z3⟩:=z_net hz
 unfold M_bw netOk
 simp only [p_l1In,Option.bind_some]
 rcases bt (wi n.Nodes.length 2 8) with hw | hw
 · have hw2:=wi_iff.1 hw
   have e:decide (14 < (n.Fibers.length:Int))=!decide (n.Fibers.length≤14):=by
    rw [← decide_not]; exact decide_eq_decide.2 (by omega)
   simp only [hw,e,Bool.not_true,cond_false,Option.bind_some,Bool.and_true]
   rcases bt (decide (n.Fibers.length≤14)) with h14 | h14
   · simp only [h14,Bool.not_true,cond_false,Bool.and_true]
     rw [iter_anyI (f:=M_at n) n.Nodes (nodeBad n) (.inr false) (.inl ()) (fun i x hx _=>by
      have hlt:=(List.getElem?_eq_some_iff.1 hx).1
      have e1:decide ((i:Int) < n.Nodes.length)=true:=by simp [hlt]
      simp only [M_at,e1,cond_true,geti_nat,hx,Option.bind_some,p_l2Name x (z3 x (List.mem_of_getElem? hx)),p_l2Find n.Nodes x z1,find_dup n i x hx,nodeBad]
      rw [w64_eq (by omega) (by omega)]
      rcases bt (nameB x) with e | e <;> rcases bt ((n.Nodes.take i).any (fun y=>y.toList==x.toList)) with e' | e' <;> simp only [e,e'] <;> rfl) (by simp [M_at]) (by omega)]
     rcases bt (anyI (nodeBad n) n.Nodes) with hN | hN
     · simp [hN]
     · simp only [hN,Bool.false_eq_true,if_false,Option.bind_some,Bool.not_false,Bool.true_and]
       rw [iter_anyI (f:=M_au n) n.Fibers (fibBad n) (.inr false) (.inl ()) (fun i x hx hprev=>by
        have hlt:=(List.getElem?_eq_some_iff.1 hx).1
        have e1:decide ((i:Int) < n.Fibers.length)=true:=by simp [hlt]
        simp only [M_au,e1,cond_true,geti_nat,hx,Option.bind_some,p_l2Fiber x n.Nodes.length (by omega) (by omega),Bool.not_not]
        rw [w64_eq (n:=(i:Int)+1) (by omega) (by omega)]
        unfold fibBad
        rcases bt (fib1 n.Nodes.length x) with h1 | h1
        · simp [h1]
        · simp only [h1,cond_false,Bool.false_or]
          by_cases hi:0 < i
          · have hi':decide ((0:Int) < (i:Int))=true:=by simp [hi]
            have hp:n.Fibers[i - 1]?=some n.Fibers[i - 1]:=List.getElem?_eq_getElem (by omega)
            have hw:IntKind.wrap .i64 ((i:Int) - 1)=((i - 1:Nat):Int):=by rw [w64_eq (by omega) (by omega)]; omega
            have hb:=hprev (i - 1) n.Fibers[i - 1] (by omega) hp
            unfold fibBad at hb
            simp only [Bool.or_eq_false_iff] at hb
            obtain ⟨r,r1,r2⟩:=p_before n.Fibers[i - 1] x n.Nodes.length (by omega) (fib1_ok hb.1) (fib1_ok h1)
            simp only [hi',cond_true,hw,geti_nat,hp,Option.bind_some,r1,r2,hi,decide_true,Bool.true_and]
            cases decide (0 < cmpF n.Fibers[i - 1] x) <;> rfl
          · have hi':decide ((0:Int) < (i:Int))=false:=by simp; omega
            simp [hi',hi]) (by simp [M_au]) (by omega)]
       cases anyI (fibBad n) n.Fibers <;> rfl
   · simp [h14]
 · simp [hw]
end Vs

namespace Vs
open Go
def otherP (f:TFiber) (v:Int):Int:=if v=f.A then f.B else if v=f.B then f.A else -1
def othI (n:TNetwork) (e v:Int):Int:=match n.Fibers[e.toNat]? with | some f=>otherP f v | none=>-1
def badE (n:TNetwork) (ring:List Int) (i:Nat) (e:Int):Bool:=!wi e 0 ((n.Fibers.length:Int) - 1)||(ring.take i).any fun x=>x==e
def stS (n:TNetwork) (ring:List Int) (i:Nat) (e:Int) (p:Int×List Int):(Int×List Int) ⊕ ((Int×List Int) ⊕ (List Int×Bool)) :=
 if badE n ring i e||p.2.any (·==p.1) then .inr (.inr (p.2,false)) else if othI n e p.1 < 0 then .inr (.inr (p.2++[p.1],false)) else .inl (othI n e p.1,p.2++[p.1])
def stI (n:TNetwork) (ring:List Int) (i:Nat) (e:Int) (p:Int×List Int):(Int×List Int) ⊕ ((Int×List Int) ⊕ (List Int×Int×Bool)) :=
 if badE n ring i e then .inr (.inr ([],0,false)) else if othI n e p.1 < 0 then .inr (.inr ([],0,false)) else .inl (othI n e p.1,p.2++[p.1])
def wkS (n:TNetwork) (ring:List Int) (i:Nat) (ys:List Int) (p:Int×List Int):=walkL (stS n ring) (fun a=>.inl a) i ys p
def wkI (n:TNetwork) (ring:List Int) (i:Nat) (ys:List Int) (p:Int×List Int):=walkL (stI n ring) (fun a=>.inl a) i ys p
theorem wkI_pre (n:TNetwork) (ring:List Int):∀ (ys:List Int) (i:Nat) (p q:Int×List Int),wkI n ring i ys p=.inl q→∃ t,q.2=p.2++t
 | [], _, p, q, h => by
   unfold wkI walkL at h
   cases h; exact ⟨[],by simp⟩
 | e :: ys, i, p, q, h => by
   unfold wkI at h
   rw [walkL] at h
   unfold stI at h
   split at h
   · rename_i a he
     split at he
     · cases he
     · split at he
       · cases he
       · cases he
         obtain ⟨t,ht⟩:=wkI_pre n ring ys (i+1) _ q h
         exact ⟨[p.1]++t,by rw [ht]; simp⟩
   · rename_i b he
     split at he
     · cases he; cases h
     · split at he
       · cases he; cases h
       · cases he
theorem wk_iff (n:TNetwork) (ring:List Int):∀ (ys:List Int) (i:Nat) (p q:Int×List Int),p.2.Nodup→(wkS n ring i ys p=.inl q↔wkI n ring i ys p=.inl q∧q.2.Nodup)
 | [], i, p, q, hp => by
   unfold wkS wkI walkL
   constructor
   · intro h; cases h; exact ⟨rfl,hp⟩
   · rintro ⟨h,_⟩; cases h; rfl
 | e :: ys, i, p, q, hp => by
   have eS:wkS n ring i (e::ys) p=match stS n ring i e p with | .inl a=>wkS n ring (i+1) ys a | .inr b=>b:=by
    unfold wkS; rw [walkL]; cases stS n ring i e p <;> rfl
   have eI:wkI n ring i (e::ys) p=match stI n ring i e p with | .inl a=>wkI n ring (i+1) ys a | .inr b=>b:=by
    unfold wkI; rw [walkL]; cases stI n ring i e p <;> rfl
   rw [eS,eI]
   unfold stS stI
   by_cases hb:badE n ring i e=true
   · simp [hb]
   · by_cases ho:othI n e p.1 < 0
     · by_cases hv:p.2.any (·==p.1)=true <;> simp [hb,ho,hv]
     · by_cases hv:p.2.any (·==p.1)=true
       · have hm:p.1∈p.2:=by
          obtain ⟨x,hx,hxe⟩:=List.any_eq_true.1 hv
          rw [← eq_of_beq hxe]; exact hx
         simp only [hb,ho,hv,Bool.or_true,if_true,if_false,Bool.false_eq_true]
         constructor
         · intro h; cases h
         · rintro ⟨h,hq⟩
           obtain ⟨t,ht⟩:=wkI_pre n ring ys (i+1) _ q h
           rw [ht] at hq
           have h1:=(List.nodup_append.1 hq).1
           have h2:=(List.nodup_append.1 h1).2.2
           exact (h2 p.1 hm p.1 (by simp) rfl).elim
       · have hm:p.1 ∉ p.2:=fun h=>hv (List.any_eq_true.2 ⟨p.1,h,by simp⟩)
         simp only [hb,ho,hv,Bool.or_self,if_false,Bool.false_eq_true]
         exact wk_iff n ring ys (i+1) _ q (List.nodup_append.2 ⟨hp,by simp,fun a ha b hb'=>by
          simp only [List.mem_singleton] at hb'
          subst hb'
          intro e; subst e; exact hm ha⟩)
end Vs

namespace Vs
open Go
theorem p_l1Has (l:List Int) (x:Int) (hl:l.length≤1048576):M_a l x=some (l.any fun y=>y==x):=by
 unfold M_a
 rw [iter_any (f:=M_aa l x) l (fun y=>y==x) (.inr true) (.inl ()) (fun i y hy=>by
  have hlt:=(List.getElem?_eq_some_iff.1 hy).1
  have h1:decide ((i:Int) < l.length)=true:=by simp [hlt]
  simp only [M_aa,h1,cond_true,geti_nat,hy,Option.bind_some]
  rw [w64_eq (by omega) (by omega)]
  cases y==x <;> rfl) (by simp [M_aa]) (by omega)]
 cases l.any fun y=>y==x <;> rfl
theorem geti_fib {n:TNetwork} {e:Int} (h:wi e 0 ((n.Fibers.length:Int) - 1)=true):∃ f,geti n.Fibers e=some f∧n.Fibers[e.toNat]?=some f:=by
 rw [wi_iff] at h
 have hlt:e.toNat < n.Fibers.length:=by omega
 refine ⟨n.Fibers[e.toNat],?_,List.getElem?_eq_getElem hlt⟩
 have h3:=geti_nat n.Fibers e.toNat
 rw [Int.toNat_of_nonneg h.1] at h3
 rw [h3]
 exact List.getElem?_eq_getElem hlt
theorem p_l2Other (n:TNetwork) (e v:Int) (h:wi e 0 ((n.Fibers.length:Int) - 1)=true):M_bl n e v=some (othI n e v):=by
 obtain ⟨f,h1,h2⟩:=geti_fib h
 unfold M_bl othI otherP
 rw [h1,h2]
 simp only [Option.bind_some]
 by_cases a:v=f.A
 · rw [show (v==f.A)=true from by simpa using a,cond_true,if_pos a]
 · rw [show (v==f.A)=false from by simpa using a,cond_false,if_neg a]
   by_cases b:v=f.B
   · rw [show (v==f.B)=true from by simpa using b,cond_true,if_pos b]
   · rw [show (v==f.B)=false from by simpa using b,cond_false,if_neg b]
theorem p_walkL (n:TNetwork) (ring:List Int) (fr:Int) (hF:n.Fibers.length≤1048576) (hr:ring.length≤1048576):iter (M_i n ring) N0 (fr,0,[])=some (wkS n ring 0 ring (fr,[])):=by
 refine iter_list (f:=M_i n ring) ring (fun i (p:Int×List Int)=>(p.1,(i:Int),p.2)) (stS n ring) (fun a=>.inl a) (fun i p=>p.2.length=i) (fun i p e he hI=>?_) (fun p hI=>by simp [M_i]) (fr,[]) rfl (by omega)
 have hlt:=(List.getElem?_eq_some_iff.1 he).1
 have h1:decide ((i:Int) < ring.length)=true:=by simp [hlt]
 have hf:M_i n ring (p.1,(i:Int),p.2)=some (match stS n ring i e p with | .inl a=>.inl (a.1,((i+1:Nat):Int),a.2) | .inr b=>.inr b):=by
  simp only [M_i,h1,cond_true,geti_nat,he,Option.bind_some,p_l1In,slT_nat ring i (by omega),p_l1Has (ring.take i) e (by simp; omega),p_l1Has p.2 p.1 (by omega),w64_eq (n:=(n.Fibers.length:Int) - 1) (by omega) (by omega),w64_eq (n:=(i:Int)+1) (by omega) (by omega),bnd]
  unfold stS badE
  rcases bt (wi e 0 ((n.Fibers.length:Int) - 1)) with e1 | e1
  · rcases bt ((ring.take i).any fun x=>x==e) with e2 | e2
    · simp [e1,e2]
    · rcases bt (p.2.any fun y=>y==p.1) with e3 | e3
      · simp [e1,e2,e3]
      · simp only [e1,e2,e3,Bool.not_true,cond_false,Option.bind_some,Bool.or_self,Bool.false_eq_true,if_false,p_l2Other n e p.1 e1]
        rw [grd_t (by omega)]
        by_cases h3:othI n e p.1 < 0
        · simp [h3]
        · simp [h3]
  · simp [e1]
 cases hs:stS n ring i e p with
 | inl a =>
   left
   rw [hs] at hf
   refine ⟨a,rfl,?_,hf⟩
   unfold stS at hs
   split at hs
   · cases hs
   · split at hs
     · cases hs
     · cases hs; simp [hI]
 | inr b =>
   right
   rw [hs] at hf
   exact ⟨b,rfl,hf⟩
end Vs

namespace Vs
open Go
theorem p_ContI (xs:List Int) (v:Int) (hl:xs.length≤1048576):M_bn xs v=some (decide (v∈xs)):=by
 unfold M_bn M_bi
 rw [iter_findI (f:=M_g xs v) xs (fun _ x=>v==x) (fun i _=>(i:Int)) () (fun i x hx _=>by
  have hlt:=(List.getElem?_eq_some_iff.1 hx).1
  have h1:decide ((i:Int) < xs.length)=true:=by simp [hlt]
  simp only [M_g,h1,cond_true,geti_nat,hx,Option.bind_some]
  rw [w64_eq (by omega) (by omega)]
  cases v==x <;> rfl) (by simp [M_g]) (by omega)]
 cases e:findI (fun _ x=>v==x) xs with
 | none =>
   have:=findI_none.1 e
   have h:¬ v∈xs:=fun hm=>by
    obtain ⟨i,hi⟩:=List.getElem?_of_mem hm
    have:=this i v hi
    simp at this
   rw [decide_eq_false h]; rfl
 | some q =>
   obtain ⟨i,x⟩:=q
   obtain ⟨h1,h2,_⟩:=findI_some.1 e
   have h:v∈xs:=by
    have:=eq_of_beq h2
    rw [this]; exact List.mem_of_getElem? h1
   rw [decide_eq_true h]; simp
theorem p_otherEnd (f:TFiber) (v:Int):M_dt f v=some (otherP f v):=by
 unfold M_dt otherP
 by_cases a:v=f.A
 · rw [show (v==f.A)=true from by simpa using a,cond_true,if_pos a]
 · rw [show (v==f.A)=false from by simpa using a,cond_false,if_neg a]
   by_cases b:v=f.B
   · rw [show (v==f.B)=true from by simpa using b,cond_true,if_pos b]
   · rw [show (v==f.B)=false from by simpa using b,cond_false,if_neg b]
theorem any_mem (l:List Int) (e:Int):decide (e∈l)=l.any fun x=>x==e:=by
 rw [Bool.eq_iff_iff,decide_eq_true_iff,List.any_eq_true]
 constructor
 · intro h; exact ⟨e,h,by simp⟩
 · rintro ⟨x,hx,he⟩; rw [← eq_of_beq he]; exact hx
theorem p_followL (n:TNetwork) (ring:List Int) (fr:Int) (hF:n.Fibers.length≤1048576) (hr:ring.length≤1048576):iter (M_k n ring) N0 (fr,0,[])=some (wkI n ring 0 ring (fr,[])):=by
 refine iter_list (f:=M_k n ring) ring (fun i (p:Int×List Int)=>(p.1,(i:Int),p.2)) (stI n ring) (fun a=>.inl a) (fun i p=>p.2.length=i) (fun i p e he hI=>?_) (fun p hI=>by simp [M_k]) (fr,[]) rfl (by omega)
 have hlt:=(List.getElem?_eq_some_iff.1 he).1
 have h1:decide ((i:Int) < ring.length)=true:=by simp [hlt]
 have hf:M_k n ring (p.1,(i:Int),p.2)=some (match stI n ring i e p with | .inl a=>.inl (a.1,((i+1:Nat):Int),a.2) | .inr b=>.inr b):=by
  simp only [M_k,h1,cond_true,geti_nat,he,Option.bind_some,p_within,slT_nat ring i (by omega),p_ContI (ring.take i) e (by simp; omega),w64_eq (n:=(n.Fibers.length:Int) - 1) (by omega) (by omega),w64_eq (n:=(i:Int)+1) (by omega) (by omega),bnd,any_mem]
  unfold stI badE
  rcases bt (wi e 0 ((n.Fibers.length:Int) - 1)) with e1 | e1
  · rcases bt ((ring.take i).any fun x=>x==e) with e2 | e2
    · simp [e1,e2]
    · obtain ⟨f,g1,g2⟩:=geti_fib e1
      have ho:othI n e p.1=otherP f p.1:=by unfold othI; rw [g2]
      simp only [e1,e2,Bool.not_true,cond_false,Option.bind_some,Bool.or_self,Bool.false_eq_true,if_false,g1,p_otherEnd,ho]
      rw [grd_t (by omega)]
      by_cases h3:otherP f p.1 < 0
      · simp [h3]
      · simp [h3]
  · simp [e1]
 cases hs:stI n ring i e p with
 | inl a =>
   left
   rw [hs] at hf
   refine ⟨a,rfl,?_,hf⟩
   unfold stI at hs
   split at hs
   · cases hs
   · split at hs
     · cases hs
     · cases hs; simp [hI]
 | inr b =>
   right
   rw [hs] at hf
   exact ⟨b,rfl,hf⟩
end Vs

namespace Vs
open Go
theorem netOk_bR {n:TNetwork} (h:netOk n=true):2≤n.Nodes.length∧n.Nodes.length≤8∧n.Fibers.length≤14:=by
 unfold netOk at h
 simp only [Bool.and_eq_true,decide_eq_true_eq,wi_iff] at h
 omega
theorem netOk_fibR {n:TNetwork} (h:netOk n=true) {i:Nat} {f:TFiber} (hf:n.Fibers[i]?=some f):FibOk n.Nodes.length f:=by
 unfold netOk at h
 simp only [Bool.and_eq_true,Bool.not_eq_true'] at h
 have:=anyI_false.1 h.1.1.2 i f hf
 unfold fibBad at this
 simp only [Bool.or_eq_false_iff] at this
 exact fib1_ok this.1
theorem wkS_cons (n:TNetwork) (ring:List Int) (i:Nat) (e:Int) (ys:List Int) (p:Int×List Int):wkS n ring i (e::ys) p=match stS n ring i e p with | .inl a=>wkS n ring (i+1) ys a | .inr b=>b:=by
 unfold wkS; rw [walkL]; cases stS n ring i e p <;> rfl
theorem wkI_cons (n:TNetwork) (ring:List Int) (i:Nat) (e:Int) (ys:List Int) (p:Int×List Int):wkI n ring i (e::ys) p=match stI n ring i e p with | .inl a=>wkI n ring (i+1) ys a | .inr b=>b:=by
 unfold wkI; rw [walkL]; cases stI n ring i e p <;> rfl
theorem wkS_bad (n:TNetwork) (ring:List Int):∀ (ys:List Int) (i:Nat) (p:Int×List Int) (x:List Int×Bool),wkS n ring i ys p=.inr x→x.2=false
 | [],i,p,x,h=>by unfold wkS walkL at h; cases h
 | e :: ys, i, p, x, h => by
   rw [wkS_cons] at h
   unfold stS at h
   by_cases h1:(badE n ring i e||p.2.any (·==p.1))=true
   · rw [if_pos h1] at h; cases h; rfl
   · rw [if_neg h1] at h
     by_cases h2:othI n e p.1 < 0
     · rw [if_pos h2] at h; cases h; rfl
     · rw [if_neg h2] at h; exact wkS_bad n ring ys (i+1) _ x h
theorem wkI_bad (n:TNetwork) (ring:List Int):∀ (ys:List Int) (i:Nat) (p:Int×List Int) (x:List Int×Int×Bool),wkI n ring i ys p=.inr x→x=([],0,false)
 | [],i,p,x,h=>by unfold wkI walkL at h; cases h
 | e :: ys, i, p, x, h => by
   rw [wkI_cons] at h
   unfold stI at h
   by_cases h1:badE n ring i e=true
   · rw [if_pos h1] at h; cases h; rfl
   · rw [if_neg h1] at h
     by_cases h2:othI n e p.1 < 0
     · rw [if_pos h2] at h; cases h; rfl
     · rw [if_neg h2] at h; exact wkI_bad n ring ys (i+1) _ x h
theorem wkI_ok (n:TNetwork) (ring:List Int):∀ (ys:List Int) (i:Nat) (p q:Int×List Int),wkI n ring i ys p=.inl q→∀ j e,ys[j]?=some e→badE n ring (i+j) e=false
 | [],i,p,q,_,j,e,h=>by simp at h
 | y :: ys, i, p, q, h, j, e, hj => by
   rw [wkI_cons] at h
   unfold stI at h
   by_cases h1:badE n ring i y=true
   · rw [if_pos h1] at h; cases h
   · rw [if_neg h1] at h
     by_cases h2:othI n y p.1 < 0
     · rw [if_pos h2] at h; cases h
     · rw [if_neg h2] at h
       cases j with
       | zero=>simp at hj; subst hj; simpa using h1
       | succ j =>
         have:=wkI_ok n ring ys (i+1) _ q h j e (by simpa using hj)
         rw [show i+(j+1)=i+1+j by omega]; exact this
theorem badE_wi {n:TNetwork} {ring:List Int} {i:Nat} {e:Int} (h:badE n ring i e=false):wi e 0 ((n.Fibers.length:Int) - 1)=true∧e ∉ ring.take i:=by
 unfold badE at h
 simp only [Bool.or_eq_false_iff,Bool.not_eq_false'] at h
 refine ⟨h.1,fun hm=>?_⟩
 have:=h.2
 rw [← any_mem] at this
 simp [hm] at this
theorem nodup_of {xs:List Int} (h:∀ j e,xs[j]?=some e→e ∉ xs.take j):xs.Nodup:=by
 rw [List.nodup_iff_pairwise_ne,List.pairwise_iff_getElem]
 intro i j hi hj hij e
 refine h j xs[j] (List.getElem?_eq_getElem hj) ?_
 rw [← e]
 have h2:(xs.take j)[i]?=some xs[i]:=by rw [List.getElem?_take,if_pos hij]; exact List.getElem?_eq_getElem hi
 exact List.mem_of_getElem? h2
theorem nodup_take {xs:List Int} (h:xs.Nodup) {j:Nat} {e:Int} (hj:xs[j]?=some e):e ∉ xs.take j:=by
 intro hm
 obtain ⟨i,hi⟩:=List.getElem?_of_mem hm
 rw [List.getElem?_take] at hi
 split at hi
 · rename_i hij
   obtain ⟨h1,h2⟩:=List.getElem?_eq_some_iff.1 hi
   obtain ⟨h3,h4⟩:=List.getElem?_eq_some_iff.1 hj
   have:=(List.pairwise_iff_getElem.1 (List.nodup_iff_pairwise_ne.1 h)) i j h1 h3 hij
   exact this (h2.trans h4.symm)
 · cases hi
theorem wkI_nodup {n:TNetwork} {ring:List Int} {p q:Int×List Int} (h:wkI n ring 0 ring p=.inl q):ring.Nodup :=
 nodup_of fun j e hj=>by
  have:=wkI_ok n ring ring 0 p q h j e hj
  rw [Nat.zero_add] at this
  exact (badE_wi this).2
theorem wkI_two {n:TNetwork} {ring:List Int} {e0 e1:Int} {t:List Int} (hr:ring=e0::e1::t) {v:Int} {q:Int×List Int} (h:wkI n ring 0 ring (v,[])=.inl q) :
 wi e0 0 ((n.Fibers.length:Int) - 1)=true∧0≤othI n e0 v∧∃ s,q.2=v::othI n e0 v::s:=by
 have hb:=wkI_ok n ring ring 0 _ q h 0 e0 (by rw [hr]; rfl)
 have h1:=h
 conv at h1=>lhs; arg 4; rw [hr]
 rw [wkI_cons] at h1
 unfold stI at h1
 rw [if_neg (by rw [hb]; simp)] at h1
 by_cases h2:othI n e0 v < 0
 · rw [if_pos h2] at h1; cases h1
 · rw [if_neg h2] at h1
   simp only at h1
   rw [wkI_cons] at h1
   unfold stI at h1
   by_cases h3:badE n ring (0+1) e1=true
   · rw [if_pos h3] at h1; cases h1
   · rw [if_neg h3] at h1
     simp only at h1
     by_cases h4:othI n e1 (othI n e0 v) < 0
     · rw [if_pos h4] at h1; cases h1
     · rw [if_neg h4] at h1
       obtain ⟨s,hs⟩:=wkI_pre n ring t _ _ q h1
       exact ⟨(badE_wi hb).1,by omega,s,by rw [hs]; simp⟩
def startA (n:TNetwork) (ring:List Int):Int:=match ring[0]? with
 | some e => match n.Fibers[e.toNat]? with
   | some f=>f.A
   | none=>-1
 | none=>-1
def difB (a b:List Int):Option (Nat×Int×Int):=findI (fun _ q=>q.1 != q.2) (a.zip b)
def lexB (a b:List Int):Bool:=match difB a b with
 | some q=>decide (q.2.1 < q.2.2)
 | none=>false
def ringP (n:TNetwork) (ring:List Int):Option (List Int):=if 2≤ring.length then (match wkI n ring 0 ring (startA n ring,[]) with
 | .inl q=>if q.1=startA n ring∧q.2.Nodup∧(∀ x∈q.2,startA n ring≤x)∧lexB ring ring.reverse=true then some q.2 else none
 | .inr _=>none) else none
def okS (n:TNetwork) (ring:List Int) (v:Int):Bool:=match wkS n ring 0 ring (v,[]) with
 | .inl q=>decide (q.1=v)&&decide (1 < ring.length)
 | .inr _=>false
def ndS (n:TNetwork) (ring:List Int) (v:Int):List Int:=match wkS n ring 0 ring (v,[]) with
 | .inl q=>q.2
 | .inr x=>x.1
theorem okS_iff {n:TNetwork} {ring:List Int} {v:Int}:okS n ring v=true↔wkI n ring 0 ring (v,[])=.inl (v,ndS n ring v)∧(ndS n ring v).Nodup∧2≤ring.length:=by
 unfold okS ndS
 cases h:wkS n ring 0 ring (v,[]) with
 | inl q =>
   obtain ⟨h1,h2⟩:=(wk_iff n ring ring 0 (v,[]) q List.nodup_nil).1 h
   simp only [Bool.and_eq_true,decide_eq_true_eq]
   constructor
   · rintro ⟨rfl,h4⟩; exact ⟨h1,h2,h4⟩
   · rintro ⟨h3,_,h4⟩
     rw [h1] at h3
     have h5:=congrArg Prod.fst (Sum.inl.inj h3)
     exact ⟨h5,by omega⟩
 | inr x =>
   simp only [Bool.false_eq_true,false_iff]
   rintro ⟨h3,h4,_⟩
   have:=(wk_iff n ring ring 0 (v,[]) (v,x.1) List.nodup_nil).2 ⟨h3,h4⟩
   rw [h] at this; cases this
theorem difB_swap (a b:List Int):difB b a=(difB a b).map fun q=>(q.1,q.2.2,q.2.1):=by
 unfold difB
 have z:∀ (i:Nat) (x:Int×Int),(b.zip a)[i]?=some x↔(a.zip b)[i]?=some (x.2,x.1):=by
  intro i x
  rw [List.getElem?_zip_eq_some,List.getElem?_zip_eq_some]; exact And.comm
 cases h:findI (fun _ q=>q.1 != q.2) (a.zip b) with
 | none =>
   have:=findI_none.1 h
   simp only [Option.map_none]
   rw [findI_none]
   intro i x hx
   have:=this i _ ((z i x).1 hx)
   simp only [bne_eq_false_iff_eq] at this ⊢
   exact this.symm
 | some q =>
   obtain ⟨i,u,v⟩:=q
   obtain ⟨h1,h2,h3⟩:=findI_some.1 h
   simp only [Option.map_some]
   rw [findI_some]
   refine ⟨(z i (v,u)).2 h1,?_,fun j y hj hy=>?_⟩
   · simp only [bne_iff_ne,ne_eq] at h2 ⊢; exact fun e=>h2 e.symm
   · have:=h3 j _ hj ((z j y).1 hy)
     simp only [bne_eq_false_iff_eq] at this ⊢
     exact this.symm
theorem lexB_swap {a b:List Int} (h:(difB a b).isSome=true):lexB a b=!lexB b a:=by
 unfold lexB
 rw [difB_swap a b]
 cases hd:difB a b with
 | none=>rw [hd] at h; cases h
 | some q =>
   obtain ⟨h1,h2,h3⟩:=findI_some.1 (show findI (fun _ q=>q.1 != q.2) (a.zip b)=some (q.1,q.2) from hd)
   simp only [bne_iff_ne,ne_eq] at h2
   simp only [Option.map_some]
   rw [← decide_not]
   exact decide_eq_decide.2 (by omega)
theorem dif_rev {ring:List Int} (h:ring.Nodup) (hl:2≤ring.length):(difB ring ring.reverse).isSome=true:=by
 cases hd:difB ring ring.reverse with
 | some q=>rfl
 | none =>
   exfalso
   have h0:0 < ring.length:=by omega
   have hz:(ring.zip ring.reverse)[0]?=some (ring[0],ring[ring.length - 1]):=by
    rw [List.getElem?_zip_eq_some]
    refine ⟨List.getElem?_eq_getElem h0,?_⟩
    rw [List.getElem?_reverse h0,Nat.sub_zero]
    exact List.getElem?_eq_getElem (by omega)
   have:=findI_none.1 (show findI (fun _ q=>q.1 != q.2) (ring.zip ring.reverse)=none from hd) 0 _ hz
   simp only [bne_eq_false_iff_eq] at this
   exact (List.pairwise_iff_getElem.1 (List.nodup_iff_pairwise_ne.1 h)) 0 (ring.length - 1) h0 (by omega) (by omega) this
theorem start_two {n:TNetwork} (hn:netOk n=true) {ring:List Int} {v:Int} (h:okS n ring v=true):∃ e0 f,ring[0]?=some e0∧n.Fibers[e0.toNat]?=some f∧startA n ring=f.A∧FibOk n.Nodes.length f∧(v=f.A∨v=f.B) ∧
 ∃ s,ndS n ring v=v::otherP f v::s:=by
 obtain ⟨h1,h2,h3⟩:=okS_iff.1 h
 match hr:ring,h3 with
 | e0 :: e1 :: t, _ =>
   rw [← hr] at h1
   obtain ⟨g1,g2,s,g3⟩:=wkI_two hr h1
   obtain ⟨f,_,g4⟩:=geti_fib g1
   have g5:=netOk_fibR hn g4
   refine ⟨e0,f,rfl,g4,?_,g5,?_,s,?_⟩
   · unfold startA
     simp only [List.getElem?_cons_zero,g4]
   · unfold othI otherP at g2
     rw [g4] at g2
     simp only at g2
     by_cases a:v=f.A
     · exact .inl a
     · rw [if_neg a] at g2
       by_cases b:v=f.B
       · exact .inr b
       · rw [if_neg b] at g2; omega
   · rw [← hr]
     have e:othI n e0 v=otherP f v:=by unfold othI; rw [g4]
     rw [← e]; exact g3
theorem ringP_some {n:TNetwork} {ring l:List Int}:ringP n ring=some l↔okS n ring (startA n ring)=true∧ndS n ring (startA n ring)=l∧(∀ x∈l,startA n ring≤x)∧lexB ring ring.reverse=true:=by
 unfold ringP
 constructor
 · intro h
   split at h
   · rename_i h2
     split at h
     · rename_i q hq
       split at h
       · rename_i hc
         cases h
         obtain ⟨c1,c2,c3,c4⟩:=hc
         have hS:=(wk_iff n ring ring 0 (startA n ring,[]) q List.nodup_nil).2 ⟨hq,c2⟩
         refine ⟨?_,?_,c3,c4⟩
         · unfold okS; rw [hS]; simp only [Bool.and_eq_true,decide_eq_true_eq]; exact ⟨c1,by omega⟩
         · unfold ndS; rw [hS]
       · cases h
     · cases h
   · cases h
 · rintro ⟨h1,rfl,h3,h4⟩
   obtain ⟨g1,g2,g3⟩:=okS_iff.1 h1
   rw [if_pos g3,g1]
   simp only
   rw [if_pos (by exact ⟨by simp,g2,h3,h4⟩)]
end Vs

namespace Vs
open Go
theorem p_l17Walk (n:TNetwork) (ring:List Int) (v:Int) (hF:n.Fibers.length≤1048576) (hr:ring.length≤1048576):M_bq n ring v=some (ndS n ring v,okS n ring v):=by
 unfold M_bq
 rw [p_walkL n ring v hF hr]
 unfold ndS okS
 cases h:wkS n ring 0 ring (v,[]) with
 | inl q =>
   simp only [Option.bind_some]
   by_cases e:q.1=v
   · have e1:(q.1==v)=true:=by simpa using e
     have e2:decide (1 < (ring.length:Int))=decide (1 < ring.length):=decide_eq_decide.2 (by omega)
     simp [e,e2]
   · have e1:(q.1==v)=false:=by simpa using e
     simp [e,e1]
 | inr x =>
   have:=wkS_bad n ring ring 0 _ x h
   simp only [Option.bind_some]
   obtain ⟨x1,x2⟩:=x
   simp only at this; subst this; rfl
theorem walkL_all {α:Type} (p:α→Bool):∀ (xs:List α) (i:Nat) (a:Bool),walkL (fun _ x (a:Bool)=>(.inl (a&&p x):Bool ⊕ Bool)) (fun a=>a) i xs a=(a&&xs.all p)
 | [],i,a=>by simp [walkL]
 | x::xs,i,a=>by simp only [walkL]; rw [walkL_all p xs (i+1)]; simp [Bool.and_assoc]
theorem p_GoodL2 (v:Int) (r:List Int×Bool) (hl:r.1.length≤1048576):iter (M_d v r) N0 (true,0)=some (r.1.all fun y=>decide (v≤y)):=by
 have:=iter_list (f:=M_d v r) r.1 (fun i (a:Bool)=>(a,(i:Int))) (fun _ x a=>.inl (a&&decide (v≤x))) (fun a=>a) (fun _ _=>True) (fun i a x hx _=>by
  have hlt:=(List.getElem?_eq_some_iff.1 hx).1
  have h1:decide ((i:Int) < r.1.length)=true:=by simp [hlt]
  refine .inl ⟨_,rfl,trivial,?_⟩
  simp only [M_d,h1,cond_true]
  rw [w64_eq (by omega) (by omega)]
  cases a with
  | false=>rfl
  | true =>
    rw [cond_true,grd_t (by omega)]
    simp only [Option.bind_some,Int.toNat_natCast,hx,Bool.true_and]
    rfl) (fun a _=>by simp [M_d]) true trivial (by omega)
 rw [walkL_all] at this
 simpa using this
theorem walkL_push:∀ (xs:List Int) (i:Nat) (a:List Int),walkL (fun _ x (a:List Int)=>(.inl (a++[x]):List Int ⊕ List Int)) (fun a=>a) i xs a=a++xs
 | [],i,a=>by simp [walkL]
 | x::xs,i,a=>by simp only [walkL]; rw [walkL_push xs (i+1)]; simp
theorem p_l17Back (ring:List Int) (hr:ring.length≤1048576):M_cd ring=some ring.reverse:=by
 unfold M_cd
 rw [w64_eq (by omega) (by omega)]
 have:=iter_list (f:=M_l ring) ring.reverse (fun i (a:List Int)=>((ring.length:Int) - 1 - (i:Int),a)) (fun _ x a=>.inl (a++[x])) (fun a=>a) (fun i a=>a.length=i) (fun i a x hx hI=>by
  have hlt:=(List.getElem?_eq_some_iff.1 hx).1
  rw [List.length_reverse] at hlt
  rw [List.getElem?_reverse hlt] at hx
  have h1:decide (0≤(ring.length:Int) - 1 - (i:Int))=true:=decide_eq_true (by omega)
  refine .inl ⟨_,rfl,by simp [hI],?_⟩
  have e:(ring.length:Int) - 1 - (i:Int)=((ring.length - 1 - i:Nat):Int):=by omega
  rw [e] at h1
  simp only [M_l,h1,cond_true,e,geti_nat,hx,Option.bind_some,bnd]
  rw [grd_t (by omega),w64_eq (by omega) (by omega)]
  simp only [Option.bind_some]
  rw [show ((ring.length - 1 - i:Nat):Int) - 1=(ring.length:Int) - 1 - ((i+1:Nat):Int) by omega]) (fun a _=>by
  have h1:decide (0≤(ring.length:Int) - 1 - (ring.reverse.length:Int))=false:=decide_eq_false (by rw [List.length_reverse]; omega)
  simp only [M_l,h1,cond_false]) [] rfl (by rw [List.length_reverse]; omega)
 rw [walkL_push] at this
 have e:(ring.length:Int) - 1 - ((0:Nat):Int)=(ring.length:Int) - 1:=by omega
 rw [e] at this
 rw [this]; rfl
theorem zip_len {a b:List Int} (h:a.length=b.length):(a.zip b).length=a.length:=by simp [h]
theorem p_l17Less (a b:List Int) (h:a.length=b.length) (hl:a.length≤1048576):M_cl a b=some (lexB a b):=by
 unfold M_cl
 have e:((a.length:Int) != (b.length:Int))=false:=by rw [h]; simp
 rw [e,cond_false]
 rw [iter_findI (f:=M_u a b) (a.zip b) (fun _ q=>q.1 != q.2) (fun _ q=>decide (q.1 < q.2)) () (fun i q hq _=>by
  obtain ⟨h1,h2⟩:=List.getElem?_zip_eq_some.1 hq
  have hlt:=(List.getElem?_eq_some_iff.1 h1).1
  have h3:decide ((i:Int) < a.length)=true:=by simp [hlt]
  simp only [M_u,h3,cond_true,geti_nat,h1,h2,Option.bind_some]
  rw [w64_eq (by omega) (by omega)]
  cases q.1 != q.2 <;> rfl) (by rw [zip_len h]; simp [M_u]) (by rw [zip_len h]; omega)]
 unfold lexB difB
 cases findI (fun _ q=>q.1 != q.2) (a.zip b) <;> rfl
theorem p_CompareI (a b:List Int) (h:a.length=b.length) (hl:a.length≤1048576):∃ r,M_bk a b=some r∧decide (r < 0)=lexB a b:=by
 unfold M_bk
 rw [iter_findI (f:=M_e a b) (a.zip b) (fun _ q=>q.1 != q.2) (fun _ q=>cmpI q.1 q.2) () (fun i q hq _=>by
  obtain ⟨h1,h2⟩:=List.getElem?_zip_eq_some.1 hq
  have hlt:=(List.getElem?_eq_some_iff.1 h1).1
  have h3:decide ((i:Int) < a.length)=true:=by simp [hlt]
  have h4:decide ((b.length:Int)≤(i:Int))=false:=by simp; omega
  simp only [M_e,h3,h4,cond_true,cond_false,geti_nat,h1,h2,Option.bind_some,p_cmp]
  rw [w64_eq (by omega) (by omega)]
  by_cases e:q.1=q.2
  · have e1:(cmpI q.1 q.2 != 0)=false:=by rw [cmpI_zero.2 e]; rfl
    have e2:(q.1 != q.2)=false:=by rw [e]; simp
    rw [e1,e2]; rfl
  · have e1:(cmpI q.1 q.2 != 0)=true:=bne_iff_ne.2 fun e'=>e (cmpI_zero.1 e')
    have e2:(q.1 != q.2)=true:=bne_iff_ne.2 e
    rw [e1,e2]; rfl) (by rw [zip_len h]; simp [M_e]) (by rw [zip_len h]; omega)]
 unfold lexB difB
 cases hf:findI (fun _ q=>q.1 != q.2) (a.zip b) with
 | none =>
   have e:decide ((a.length:Int) < (b.length:Int))=false:=by rw [h]; simp
   exact ⟨0,by simp only [Option.bind_some,e,cond_false],rfl⟩
 | some q =>
   refine ⟨cmpI q.2.1 q.2.2,rfl,?_⟩
   unfold cmpI
   by_cases h1:q.2.1 < q.2.2
   · simp [h1]
   · by_cases h2:q.2.2 < q.2.1 <;> simp [h1,h2]
theorem nd_len {n:TNetwork} {ring:List Int} {v:Int} (hF:n.Fibers.length≤1048576) (hr:ring.length≤1048576) (h:okS n ring v=true):(ndS n ring v).length=ring.length:=by
 obtain ⟨h1,_,_⟩:=okS_iff.1 h
 have key:∀ (ys:List Int) (i:Nat) (p q:Int×List Int),wkI n ring i ys p=.inl q→q.2.length=p.2.length+ys.length:=by
  intro ys
  induction ys with
  | nil=>intro i p q h; unfold wkI walkL at h; cases h; simp
  | cons e ys ih =>
    intro i p q h
    rw [wkI_cons] at h
    unfold stI at h
    by_cases h1:badE n ring i e=true
    · rw [if_pos h1] at h; cases h
    · rw [if_neg h1] at h
      by_cases h2:othI n e p.1 < 0
      · rw [if_pos h2] at h; cases h
      · rw [if_neg h2] at h
        have:=ih (i+1) _ q h
        simp only [List.length_append,List.length_cons,List.length_nil] at this ⊢
        omega
 have:=key ring 0 _ _ h1
 simpa using this
theorem first_start {n:TNetwork} (hn:netOk n=true) {ring:List Int} {i:Nat} {x:ByteArray} (h:findI (fun i (_:ByteArray)=>okS n ring (i:Int)) n.Nodes=some (i,x)) :
 ((i:Int)=startA n ring∧okS n ring (startA n ring)=true)∨(okS n ring (startA n ring)=false∧¬ ∀ y∈ndS n ring (i:Int),(i:Int)≤y):=by
 obtain ⟨h1,h2,h3⟩:=findI_some.1 h
 obtain ⟨e0,f,g1,g2,g3,g4,g5,s,g6⟩:=start_two hn h2
 obtain ⟨a0,ab,bm,_⟩:=g4
 rcases g5 with g5 | g5
 · left; rw [g3,← g5]; exact ⟨rfl,h2⟩
 · right
   have hlt:f.A.toNat < i:=by omega
   have hil:=(List.getElem?_eq_some_iff.1 h1).1
   have:=h3 f.A.toNat n.Nodes[f.A.toNat] hlt (List.getElem?_eq_getElem (by omega))
   rw [Int.toNat_of_nonneg a0] at this
   refine ⟨by rw [g3]; exact this,fun hall=>?_⟩
   have hm:otherP f (i:Int)∈ndS n ring (i:Int):=by rw [g6]; simp
   have:=hall _ hm
   have e:otherP f (i:Int)=f.A:=by
    unfold otherP
    rw [if_neg (by omega),if_pos g5]
   omega
theorem start_in {n:TNetwork} (hn:netOk n=true) {ring:List Int} (h:okS n ring (startA n ring)=true):∃ q,findI (fun i (_:ByteArray)=>okS n ring (i:Int)) n.Nodes=some q:=by
 cases e:findI (fun i (_:ByteArray)=>okS n ring (i:Int)) n.Nodes with
 | some q=>exact ⟨q,rfl⟩
 | none =>
   obtain ⟨e0,f,g1,g2,g3,g4,_⟩:=start_two hn h
   obtain ⟨a0,ab,bm,_⟩:=g4
   have hl:f.A.toNat < n.Nodes.length:=by omega
   have:=findI_none.1 e f.A.toNat _ (List.getElem?_eq_getElem hl)
   rw [Int.toNat_of_nonneg a0,← g3,h] at this; cases this
theorem p_l17Good (n:TNetwork) (ring:List Int) (hn:netOk n=true) (hr:ring.length≤1048576):M_cm n ring=some (ringP n ring).isSome:=by
 obtain ⟨b1,b2,b3⟩:=netOk_bR hn
 unfold M_cm
 rw [iter_findI (f:=M_v n ring) n.Nodes (fun i _=>okS n ring (i:Int)) (fun i _=>(ndS n ring (i:Int)).all (fun y=>decide ((i:Int)≤y))&&!lexB ring.reverse ring) () (fun i x hx _=>by
  have hlt:=(List.getElem?_eq_some_iff.1 hx).1
  have h1:decide ((i:Int) < n.Nodes.length)=true:=by simp [hlt]
  simp only [M_v,h1,cond_true,p_l17Walk n ring i (by omega) hr,Option.bind_some]
  rw [w64_eq (by omega) (by omega)]
  rcases bt (okS n ring (i:Int)) with e | e
  · simp only [e,Bool.not_true,cond_false,if_true]
    rw [p_GoodL2 _ _ (by simp only; rw [nd_len (by omega) hr e]; exact hr)]
    simp only [Option.bind_some]
    rcases bt ((ndS n ring (i:Int)).all fun y=>decide ((i:Int)≤y)) with e2 | e2
    · rw [e2,cond_true,p_l17Back ring hr]
      simp only [Option.bind_some]
      rw [p_l17Less ring.reverse ring (by simp) (by simpa using hr)]
      rfl
    · rw [e2]; rfl
  · simp [e]) (by simp [M_v]) (by omega)]
 cases hf:findI (fun i (_:ByteArray)=>okS n ring (i:Int)) n.Nodes with
 | none =>
   have:ringP n ring=none:=by
    cases hp:ringP n ring with
    | none=>rfl
    | some l =>
      obtain ⟨q,hq⟩:=start_in hn (ringP_some.1 hp).1
      rw [hf] at hq; cases hq
   rw [this]; rfl
 | some q =>
   obtain ⟨i,x⟩:=q
   simp only [Option.bind_some]
   rcases first_start hn hf with ⟨e1,e2⟩ | ⟨e1,e2⟩
   · have hne:=dif_rev (wkI_nodup (okS_iff.1 e2).1) (okS_iff.1 e2).2.2
     rw [e1,← lexB_swap hne]
     rcases bt ((ndS n ring (startA n ring)).all fun y=>decide (startA n ring≤y)) with e3 | e3
     · rcases bt (lexB ring ring.reverse) with e4 | e4
       · have:ringP n ring=some (ndS n ring (startA n ring)):=ringP_some.2 ⟨e2,rfl,by simpa using e3,e4⟩
         rw [this,e3,e4]; rfl
       · have:ringP n ring=none:=by
          cases hp:ringP n ring with
          | none=>rfl
          | some l=>have:=(ringP_some.1 hp).2.2.2; rw [e4] at this; cases this
         rw [this,e3,e4]; rfl
     · have:ringP n ring=none:=by
        cases hp:ringP n ring with
        | none=>rfl
        | some l =>
          obtain ⟨_,h2,h3,_⟩:=ringP_some.1 hp
          subst h2
          have:((ndS n ring (startA n ring)).all fun y=>decide (startA n ring≤y))=true:=by simpa using h3
          rw [e3] at this; cases this
       rw [this,e3]; rfl
   · have:ringP n ring=none:=by
      cases hp:ringP n ring with
      | none=>rfl
      | some l=>have:=(ringP_some.1 hp).1; rw [e1] at this; cases this
     rw [this]
     have:((ndS n ring (i:Int)).all fun y=>decide ((i:Int)≤y))=false:=by
      rw [Bool.eq_false_iff]
      intro h
      exact e2 (by simpa using h)
     rw [this]; rfl
end Vs

namespace Vs
open Go
theorem p_followed (n:TNetwork) (v:Int) (ring:List Int) (hF:n.Fibers.length≤1048576) (hr:ring.length≤1048576):M_dg n v ring=some (match wkI n ring 0 ring (v,[]) with | .inl q=>(q.2,q.1,true) | .inr _=>([],0,false)):=by
 unfold M_dg
 rw [p_followL n ring v hF hr]
 cases h:wkI n ring 0 ring (v,[]) with
 | inl q=>rfl
 | inr x=>rw [wkI_bad n ring ring 0 _ x h]; rfl
theorem walkL_min:∀ (xs:List Int) (i:Nat) (m:Int),∃ r,walkL (fun _ y (m:Int)=>(.inl (if y < m then y else m):Int ⊕ Int)) (fun m=>m) i xs m=r∧(r=m∨r∈xs)∧r≤m∧∀ x∈xs,r≤x
 | [],i,m=>⟨m,by simp [walkL],.inl rfl,Int.le_refl _,by simp⟩
 | y :: xs, i, m => by
   obtain ⟨r,h1,h2,h3,h4⟩:=walkL_min xs (i+1) (if y < m then y else m)
   refine ⟨r,by simp only [walkL]; exact h1,?_,?_,?_⟩
   · rcases h2 with h2 | h2
     · by_cases e:y < m
       · rw [if_pos e] at h2; right; rw [h2]; simp
       · rw [if_neg e] at h2; exact .inl h2
     · exact .inr (List.mem_cons_of_mem _ h2)
   · split at h3 <;> omega
   · intro x hx
     rcases List.mem_cons.1 hx with rfl | hx
     · split at h3 <;> omega
     · exact h4 x hx
theorem p_MinI (xs:List Int) (h0:0 < xs.length) (hl:xs.length≤1048576):∃ m,M_dh xs=some m∧m∈xs∧∀ x∈xs,m≤x:=by
 cases xs with
 | nil=>simp at h0
 | cons x t =>
   simp only [List.length_cons] at hl
   have:=iter_list (f:=M_as (x::t)) t (fun i (m:Int)=>(m,((i+1:Nat):Int))) (fun _ y (m:Int)=>.inl (if y < m then y else m)) (fun m=>m) (fun _ _=>True) (fun i m y hy _=>by
    have hlt:=(List.getElem?_eq_some_iff.1 hy).1
    have h1:decide (((i+1:Nat):Int) < ((x::t).length:Int))=true:=by simp; omega
    refine .inl ⟨_,rfl,trivial,?_⟩
    have hy':(x::t)[i+1]?=some y:=by simpa using hy
    simp only [M_as,h1,cond_true,geti_nat,hy',Option.bind_some]
    rw [w64_eq (by omega) (by omega)]
    rfl) (fun m _=>by simp [M_as]) x trivial (by omega)
   obtain ⟨r,h1,h2,h3,h4⟩:=walkL_min t 0 x
   refine ⟨r,?_,?_,?_⟩
   · unfold M_dh
     have e2:decide (((x::t).length:Int) < 1)=false:=by simp; omega
     rw [e2,cond_false]
     have e3:geti (x::t) 0=some x:=geti_nat (x::t) 0
     rw [e3]
     simp only [Option.bind_some]
     have e:((0+1:Nat):Int)=1:=rfl
     simp only [e] at this
     rw [this,h1]; rfl
   · rcases h2 with rfl | h2
     · simp
     · exact List.mem_cons_of_mem _ h2
   · intro y hy
     rcases List.mem_cons.1 hy with rfl | hy
     · exact h3
     · exact h4 y hy
theorem p_CloneI (xs:List Int) (hl:xs.length≤1048576):M_di xs=some xs:=by
 unfold M_di
 rw [grd_t (by omega)]
 cases xs with
 | nil=>rfl
 | cons x t=>rfl
theorem iter_swap {α:Type} {f:Int×Int×List α→Option ((Int×Int×List α) ⊕ (List α))} (xs:List α)
 (h1:∀ (i j:Nat) (l:List α) x y,i < j→l.length=xs.length→l[i]?=some x→l[j]?=some y→f ((i:Int),(j:Int),l)=some (.inl (((i+1:Nat):Int),(j:Int) - 1,(l.set i y).set j x)))
 (h2:∀ (i j:Int) (l:List α),j≤i→f (i,j,l)=some (.inr l)) (hl:xs.length < 18446744073709551615):iter f N0 (0,(xs.length:Int) - 1,xs)=some xs.reverse:=by
 obtain ⟨b,hb,h3⟩:=iter_inv (f:=f) (fun s=>∃ i:Nat,s.1=i∧s.2.1=(xs.length:Int) - 1 - i∧2 * i≤xs.length+1∧s.2.2.length=xs.length∧∀ k:Nat,k < xs.length→s.2.2[k]?=if k < i∨xs.length - 1 - k < i then xs[xs.length - 1 - k]? else xs[k]?)
  (fun s=>xs.length - s.1.toNat) (fun b=>b=xs.reverse) (fun s hI=>by
  obtain ⟨i',j',l⟩:=s
  obtain ⟨i,e1,e2,e3,e4,e5⟩:=hI
  simp only at e1 e2 e4 e5
  subst e1; subst e2
  by_cases h:(i:Int) < (xs.length:Int) - 1 - i
  · left
    have hi:i < xs.length:=by omega
    have hj:xs.length - 1 - i < xs.length:=by omega
    have g1:=e5 i hi
    rw [if_neg (by omega),List.getElem?_eq_getElem hi] at g1
    have g2:=e5 (xs.length - 1 - i) hj
    rw [if_neg (by omega),List.getElem?_eq_getElem hj] at g2
    have hf:=h1 i (xs.length - 1 - i) l _ _ (by omega) e4 g1 g2
    rw [show ((xs.length - 1 - i:Nat):Int)=(xs.length:Int) - 1 - i by omega] at hf
    refine ⟨_,hf,⟨i+1,rfl,by simp only; omega,by omega,by simp [e4],fun k hk=>?_⟩,by simp only [Int.toNat_natCast]; omega⟩
    simp only
    rw [List.getElem?_set]
    by_cases c1:xs.length - 1 - i=k
    · rw [if_pos c1,if_pos (by simp; omega),if_pos (by omega),show xs.length - 1 - k=i by omega,List.getElem?_eq_getElem hi]
    · rw [if_neg c1,List.getElem?_set]
      by_cases c2:i=k
      · rw [if_pos c2,if_pos (by omega),if_pos (by omega),← c2,List.getElem?_eq_getElem hj]
      · rw [if_neg c2,e5 k hk]
        by_cases c3:k < i∨xs.length - 1 - k < i
        · rw [if_pos c3,if_pos (by omega)]
        · rw [if_neg c3,if_neg (by omega)]
  · right
    refine ⟨_,h2 _ _ l (by omega),?_⟩
    apply List.ext_getElem?
    intro k
    by_cases hk:k < xs.length
    · rw [e5 k hk,List.getElem?_reverse hk]
      split
      · rfl
      · congr 1; omega
    · rw [List.getElem?_eq_none (by omega),List.getElem?_eq_none (by simp; omega)]) N0 (0,(xs.length:Int) - 1,xs) ⟨0,rfl,by simp,by omega,rfl,fun k hk=>by rw [if_neg (by omega)]⟩ (N0_lt (by simp; omega))
 rw [hb,h3]
theorem p_ReverseI (xs:List Int) (hl:xs.length≤1048576):M_dj xs=some xs.reverse:=by
 unfold M_dj
 rw [w64_eq (by omega) (by omega),iter_swap (f:=M_m) xs (fun i j l x y hij hll hx hy=>by
  have hi:=(List.getElem?_eq_some_iff.1 hx).1
  have hj:=(List.getElem?_eq_some_iff.1 hy).1
  have e1:decide ((i:Int) < (j:Int))=true:=decide_eq_true (by omega)
  have e3:(l.set i y)[j]?=some y:=by rw [List.getElem?_set,if_neg (by omega)]; exact hy
  simp only [M_m,e1,cond_true,Int.toNat_natCast,hx,hy,Option.bind_some,bnd,e3]
  rw [grd_t (by omega),grd_t (by omega),w64_eq (by omega) (by omega),w64_eq (by omega) (by omega)]
  rfl) (fun i j l h=>by
  have e1:decide (i < j)=false:=decide_eq_false (by omega)
  simp only [M_m,e1,cond_false]) (by omega)]
 rfl
theorem p_aroundL1 (r:List Int×Int×Bool) (hl:r.1.length≤1048576):iter (M_n r) N0 0=some (if r.1.Nodup then .inl () else .inr ([],false)):=by
 rw [iter_anyI (f:=M_n r) r.1 (fun i v=>decide (v∈r.1.take i)) (.inr ([],false)) (.inl ()) (fun i v hv _=>by
  have hlt:=(List.getElem?_eq_some_iff.1 hv).1
  have h1:decide ((i:Int) < r.1.length)=true:=by simp [hlt]
  simp only [M_n,h1,cond_true,Int.toNat_natCast,hv]
  rw [grd_t (by omega),grd_t ⟨trivial,by omega,trivial,by omega⟩]
  simp only [Option.bind_some,bnd,subT_drop,List.drop_zero,p_ContI (r.1.take i) v (by simp; omega)]
  rw [w64_eq (by omega) (by omega)]
  cases decide (v∈r.1.take i) <;> rfl) (by simp [M_n]) (by omega)]
 by_cases h:r.1.Nodup
 · rw [if_pos h]
   have:anyI (fun i v=>decide (v∈r.1.take i)) r.1=false:=anyI_false.2 fun i v hv=>by simpa using nodup_take h hv
   rw [this]; rfl
 · rw [if_neg h]
   have:anyI (fun i v=>decide (v∈r.1.take i)) r.1=true:=by
    cases e:anyI (fun i v=>decide (v∈r.1.take i)) r.1 with
    | true=>rfl
    | false =>
      exfalso
      exact h (nodup_of fun i v hv=>by simpa using anyI_false.1 e i v hv)
   rw [this]; rfl
theorem ringP_none {n:TNetwork} {ring:List Int} (h:∀ q,wkI n ring 0 ring (startA n ring,[])=.inl q→q.1=startA n ring→q.2.Nodup→(∀ x∈q.2,startA n ring≤x)→lexB ring ring.reverse=true→2≤ring.length→False):ringP n ring=none:=by
 cases hp:ringP n ring with
 | none=>rfl
 | some l =>
   obtain ⟨h1,h2,h3,h4⟩:=ringP_some.1 hp
   obtain ⟨g1,g2,g3⟩:=okS_iff.1 h1
   rw [h2] at g1 g2
   exact (h _ g1 rfl g2 h3 h4 g3).elim
theorem p_around (n:TNetwork) (ring:List Int) (hF:n.Fibers.length≤1048576) (hr:ring.length≤1048576):∃ l,M_bv n ring=some (l,(ringP n ring).isSome)∧∀ r,ringP n ring=some r→l=r:=by
 unfold M_bv
 match ring,hr with
 | [],_=>exact ⟨[],rfl,fun r h=>by simp [ringP] at h⟩
 | [e0],_=>exact ⟨[],rfl,fun r h=>by simp [ringP] at h⟩
 | e0 :: e1 :: t, hr =>
   have hlen:2≤(e0::e1::t).length:=by simp
   generalize hR:e0::e1::t=ring at *
   have hg:geti ring 0=some e0:=by rw [← hR]; exact geti_nat (e0::e1::t) 0
   have h2:decide ((ring.length:Int) < 2)=false:=decide_eq_false (by omega)
   simp only [h2,cond_false,hg,Option.bind_some,p_within]
   rw [w64_eq (by omega) (by omega)]
   rcases bt (wi e0 0 ((n.Fibers.length:Int) - 1)) with hw | hw
   · obtain ⟨f,g1,g2⟩:=geti_fib hw
     have hs:startA n ring=f.A:=by
      unfold startA
      rw [← hR]
      simp only [List.getElem?_cons_zero,g2]
     simp only [hw,Bool.not_true,cond_false,g1,Option.bind_some,p_followed n f.A ring hF hr]
     rw [← hs]
     cases hwk:wkI n ring 0 ring (startA n ring,[]) with
     | inr x =>
       have:ringP n ring=none:=ringP_none fun q hq=>by rw [hwk] at hq; cases hq
       rw [this]
       exact ⟨[],rfl,fun r h=>by cases h⟩
     | inl q =>
       simp only [Bool.not_true,cond_false]
       have hql:q.2.length=ring.length∧startA n ring∈q.2:=by
        obtain ⟨_,_,s,hs2⟩:=wkI_two hR.symm hwk
        refine ⟨?_,by rw [hs2]; simp⟩
        have key:∀ (ys:List Int) (i:Nat) (p q:Int×List Int),wkI n ring i ys p=.inl q→q.2.length=p.2.length+ys.length:=by
         intro ys
         induction ys with
         | nil=>intro i p q h; unfold wkI walkL at h; cases h; simp
         | cons e ys ih =>
           intro i p q h
           rw [wkI_cons] at h
           unfold stI at h
           by_cases h1:badE n ring i e=true
           · rw [if_pos h1] at h; cases h
           · rw [if_neg h1] at h
             by_cases h2:othI n e p.1 < 0
             · rw [if_pos h2] at h; cases h
             · rw [if_neg h2] at h
               have:=ih (i+1) _ q h
               simp only [List.length_append,List.length_cons,List.length_nil] at this ⊢
               omega
        simpa using key ring 0 _ q hwk
       by_cases hq1:q.1=startA n ring
       · have e1:(q.1 != startA n ring)=false:=by rw [hq1]; simp
         obtain ⟨m,m1,m2,m3⟩:=p_MinI q.2 (by omega) (by omega)
         simp only [e1,cond_false,m1,Option.bind_some]
         by_cases hm:m=startA n ring
         · have e2:(m != startA n ring)=false:=by rw [hm]; simp
           simp only [e2,cond_false,p_aroundL1 (q.2,q.1,true) (by simp only; omega),Option.bind_some]
           by_cases hnd:q.2.Nodup
           · rw [if_pos hnd]
             simp only [p_CloneI ring hr,p_ReverseI ring hr,Option.bind_some,bnd]
             have e3:subT ring.reverse 0 ring.length=ring.reverse:=by
              have:=subT_all ring.reverse
              rwa [List.length_reverse] at this
             obtain ⟨c,c1,c2⟩:=p_CompareI ring ring.reverse (by simp) hr
             simp only [e3,c1,c2,Option.bind_some]
             refine ⟨q.2,?_,?_⟩
             · congr 2
               cases hx:lexB ring ring.reverse with
               | true =>
                 have:ringP n ring=some q.2:=by
                  unfold ringP
                  rw [if_pos hlen,hwk]
                  simp only
                  rw [if_pos ⟨hq1,hnd,fun x hx=>by rw [← hm]; exact m3 x hx,hx⟩]
                 rw [this]; rfl
               | false =>
                 have:ringP n ring=none:=ringP_none fun _ _ _ _ _ hx'=>by rw [hx] at hx'; cases hx'
                 rw [this]; rfl
             · intro r hrp
               obtain ⟨h1,h2,_⟩:=ringP_some.1 hrp
               obtain ⟨g1,_⟩:=okS_iff.1 h1
               rw [hwk] at g1
               have:=congrArg Prod.snd (Sum.inl.inj g1)
               rw [← h2]; exact this
           · rw [if_neg hnd]
             have:ringP n ring=none:=ringP_none fun q' hq' _ hnd'=>by rw [hwk] at hq'; cases hq'; exact (hnd hnd').elim
             rw [this]
             exact ⟨[],rfl,fun r h=>by cases h⟩
         · have e2:(m != startA n ring)=true:=bne_iff_ne.2 hm
           have:ringP n ring=none:=ringP_none fun q' hq' _ _ hall=>by
            rw [hwk] at hq'; cases hq'
            have h5:=hall m m2
            have h6:=m3 _ hql.2
            omega
           rw [this]
           simp only [e2,cond_true]
           exact ⟨[],rfl,fun r h=>by cases h⟩
       · have e1:(q.1 != startA n ring)=true:=bne_iff_ne.2 hq1
         have:ringP n ring=none:=ringP_none fun q' hq' hq1'=>by rw [hwk] at hq'; cases hq'; exact (hq1 hq1').elim
         rw [this]
         simp only [e1,cond_true,Option.bind_some]
         exact ⟨[],rfl,fun r h=>by cases h⟩
   · have:ringP n ring=none:=ringP_none fun q hq _ _ _ _ _=>by
      have:=(wkI_two hR.symm hq).1
      rw [hw] at this; cases this
     rw [this]
     simp only [hw,Bool.not_false,cond_true,Option.bind_some]
     exact ⟨[],rfl,fun r h=>by cases h⟩
theorem p_impl_RingNodes0 (n:TNetwork) (ring:List Int) (hz:z_Network n≤1048576) (hr:ring.length≤1048576):M_dk n ring=some (if netOk n then (match ringP n ring with | some l=>(l,true) | none=>([],false)) else ([],false)):=by
 obtain ⟨h1,h2,h3⟩:=z_net hz
 unfold M_dk
 simp only [p_IsValidNetwork n hz,Option.bind_some]
 rcases bt (netOk n) with hn | hn
 · obtain ⟨l,g1,g2⟩:=p_around n ring h2 hr
   rw [hn,g1]
   cases hp:ringP n ring with
   | none=>rfl
   | some r=>rw [g2 r hp]; rfl
 · rw [hn]; rfl
def isRingB (n:TNetwork) (ring:List Int):Bool:=netOk n&&(ringP n ring).isSome
theorem p_impl_IsRing (n:TNetwork) (ring:List Int) (hz:z_Network n≤1048576) (hr:ring.length≤1048576):M_dl n ring=some (isRingB n ring):=by
 unfold M_dl isRingB
 rw [p_impl_RingNodes0 n ring hz hr]
 cases netOk n with
 | false=>rfl
 | true=>cases ringP n ring <;> rfl
theorem p_spec_IsRing (n:TNetwork) (ring:List Int) (hz:z_Network n≤1048576) (hr:ring.length≤1048576):M_dm n ring=some (isRingB n ring):=by
 unfold M_dm isRingB
 simp only [p_l2Good n hz,Option.bind_some]
 rcases bt (netOk n) with hn | hn
 · rw [hn,cond_true,p_l17Good n ring hn hr]; rfl
 · rw [hn]; rfl
end Vs

namespace Vs
open Go
theorem p_l17Nodes (n:TNetwork) (ring l:List Int) (hn:netOk n=true) (hr:ring.length≤1048576) (hp:ringP n ring=some l):M_bx n ring=some l:=by
 obtain ⟨b1,b2,b3⟩:=netOk_bR hn
 obtain ⟨h1,h2,_⟩:=ringP_some.1 hp
 unfold M_bx
 rw [iter_findI (f:=M_av n ring) n.Nodes (fun i _=>okS n ring (i:Int)) (fun i _=>ndS n ring (i:Int)) () (fun i x hx _=>by
  have hlt:=(List.getElem?_eq_some_iff.1 hx).1
  have h1:decide ((i:Int) < n.Nodes.length)=true:=by simp [hlt]
  simp only [M_av,h1,cond_true,p_l17Walk n ring i (by omega) hr,Option.bind_some]
  rw [w64_eq (by omega) (by omega)]
  cases okS n ring (i:Int) <;> rfl) (by simp [M_av]) (by omega)]
 cases hf:findI (fun i (_:ByteArray)=>okS n ring (i:Int)) n.Nodes with
 | none=>obtain ⟨q,hq⟩:=start_in hn h1; rw [hf] at hq; cases hq
 | some q =>
   obtain ⟨i,x⟩:=q
   rcases first_start hn hf with ⟨e1,e2⟩ | ⟨e1,e2⟩
   · simp only [Option.bind_some,e1,h2]
   · rw [h1] at e1; cases e1
end Vs

namespace Vs
open Go
def filI {α:Type} (p:Nat→α→Bool):Nat→List α→List Int
 | _,[]=>[]
 | i,x::xs=>if p i x then (i:Int)::filI p (i+1) xs else filI p (i+1) xs
theorem filI_cons {α:Type} (p:Nat→α→Bool) (i:Nat) (x:α) (xs:List α):filI p i (x::xs)=if p i x then (i:Int)::filI p (i+1) xs else filI p (i+1) xs:=rfl
theorem filI_len {α:Type} (p:Nat→α→Bool):∀ (xs:List α) (i:Nat),(filI p i xs).length≤xs.length
 | [],i=>by simp [filI]
 | x :: xs, i => by
   have:=filI_len p xs (i+1)
   rw [filI_cons]; split <;> simp <;> omega
theorem filI_mem {α:Type} (p:Nat→α→Bool):∀ (xs:List α) (i:Nat) (y:Int),y∈filI p i xs↔∃ j x,xs[j]?=some x∧p (i+j) x=true∧y=((i+j:Nat):Int)
 | [],i,y=>by simp [filI]
 | x :: xs, i, y => by
   have ih:=filI_mem p xs (i+1) y
   rw [filI_cons]
   constructor
   · intro h
     by_cases e:p i x=true
     · rw [if_pos e] at h
       rcases List.mem_cons.1 h with h | h
       · exact ⟨0,x,rfl,by simpa using e,by simpa using h⟩
       · obtain ⟨j,z,h1,h2,h3⟩:=ih.1 h
         exact ⟨j+1,z,by simpa using h1,by rw [show i+(j+1)=i+1+j by omega]; exact h2,by rw [h3]; congr 1; omega⟩
     · rw [if_neg e] at h
       obtain ⟨j,z,h1,h2,h3⟩:=ih.1 h
       exact ⟨j+1,z,by simpa using h1,by rw [show i+(j+1)=i+1+j by omega]; exact h2,by rw [h3]; congr 1; omega⟩
   · rintro ⟨j,z,h1,h2,h3⟩
     cases j with
     | zero =>
       simp at h1; subst h1
       rw [if_pos (by simpa using h2)]
       rw [h3]; simp
     | succ j =>
       have:y∈filI p (i+1) xs:=ih.2 ⟨j,z,by simpa using h1,by rw [show i+1+j=i+(j+1) by omega]; exact h2,by rw [h3]; congr 1; omega⟩
       split
       · exact List.mem_cons_of_mem _ this
       · exact this
theorem walkL_fil2 {α:Type} (p q:Nat→α→Bool):∀ (xs:List α) (i:Nat) (a:List Int×List Int),walkL (fun i x (a:List Int×List Int)=>(.inl (if p i x then (a.1++[(i:Int)],a.2) else if q i x then (a.1,a.2++[(i:Int)]) else a):(List Int×List Int) ⊕ (List Int×List Int))) (fun a=>a) i xs a =
 (a.1++filI p i xs,a.2++filI (fun i x=>!p i x&&q i x) i xs)
 | [],i,a=>by simp [walkL,filI]
 | x :: xs, i, a => by
   simp only [walkL]
   rw [walkL_fil2 p q xs (i+1),filI_cons,filI_cons]
   by_cases h1:p i x=true
   · simp [h1]
   · by_cases h2:q i x=true <;> simp [h1,h2]
def ownB (ring:List Int) (i:Nat) (_:TFiber):Bool:=decide ((i:Int)∈ring)
def crsB (nd:List Int) (_:Nat) (f:TFiber):Bool:=decide (f.A∈nd)&&decide (f.B∈nd)
def ownP (n:TNetwork) (ring:List Int):List Int:=filI (ownB ring) 0 n.Fibers
def crsP (n:TNetwork) (ring nd:List Int):List Int:=filI (fun i f=>!ownB ring i f&&crsB nd i f) 0 n.Fibers
theorem p_l17Protected (n:TNetwork) (ring l:List Int) (hn:netOk n=true) (hr:ring.length≤1048576) (hl:l.length≤1048576) (hp:ringP n ring=some l):M_dp n ring=some (ownP n ring,crsP n ring l):=by
 obtain ⟨b1,b2,b3⟩:=netOk_bR hn
 unfold M_dp
 rw [p_l17Nodes n ring l hn hr hp]
 simp only [Option.bind_some]
 have:=iter_list (f:=M_c n ring l) n.Fibers (fun i (a:List Int×List Int)=>((i:Int),a.1,a.2)) (fun i f a=>.inl (if ownB ring i f then (a.1++[(i:Int)],a.2) else if crsB l i f then (a.1,a.2++[(i:Int)]) else a)) (fun a=>a) (fun i a=>a.1.length≤i∧a.2.length≤i) (fun i a f hf hI=>by
  have hlt:=(List.getElem?_eq_some_iff.1 hf).1
  have h1:decide ((i:Int) < n.Fibers.length)=true:=by simp [hlt]
  refine .inl ⟨_,rfl,?_,?_⟩
  · split
    · simp only [List.length_append,List.length_cons,List.length_nil]; omega
    · split
      · simp only [List.length_append,List.length_cons,List.length_nil]; omega
      · omega
  · simp only [M_c,h1,cond_true,p_l1Has ring (i:Int) hr,← any_mem,Option.bind_some,geti_nat,hf,p_l1Has l _ hl,bnd]
    rw [w64_eq (by omega) (by omega),grd_t (by omega),grd_t (by omega)]
    unfold ownB crsB
    by_cases e1:(i:Int)∈ring
    · simp [e1]
    · by_cases e2:f.A∈l
      · by_cases e3:f.B∈l <;> simp [e1,e2,e3]
      · simp [e1,e2]) (fun a _=>by simp [M_c]) ([],[]) ⟨Nat.le_refl _,Nat.le_refl _⟩ (by omega)
 rw [walkL_fil2] at this
 have e:((0:Nat):Int)=0:=rfl
 simp only [e,List.nil_append] at this
 rw [this]; rfl
theorem nodup_le:∀ (m:Nat) (l:List Int),l.Nodup→(∀ x∈l,0≤x∧x < (m:Int))→l.length≤m
 | 0, l, _, h => by
   cases l with
   | nil=>simp
   | cons x l=>have:=h x (by simp); omega
 | m + 1, l, hn, h => by
   by_cases hm:(m:Int)∈l
   · have:=nodup_le m (l.erase (m:Int)) (hn.erase _) (fun x hx=>by
      have h1:=(hn.mem_erase_iff).1 hx
      have:=h x h1.2
      have h3:=h1.1
      omega)
     rw [List.length_erase_of_mem hm] at this
     omega
   · have:=nodup_le m l hn (fun x hx=>by
      have:=h x hx
      have:x ≠ (m:Int):=fun e=>hm (e ▸ hx)
      omega)
     omega
theorem wkI_rng {n:TNetwork} (hn:netOk n=true) (ring:List Int):∀ (ys:List Int) (i:Nat) (p q:Int×List Int),(0≤p.1∧p.1 < n.Nodes.length)→(∀ x∈p.2,0≤x∧x < (n.Nodes.length:Int))→wkI n ring i ys p=.inl q→∀ x∈q.2,0≤x∧x < (n.Nodes.length:Int)
 | [],i,p,q,_,hp2,h=>by unfold wkI walkL at h; cases h; exact hp2
 | e :: ys, i, p, q, hp1, hp2, h => by
   rw [wkI_cons] at h
   unfold stI at h
   by_cases h1:badE n ring i e=true
   · rw [if_pos h1] at h; cases h
   · rw [if_neg h1] at h
     by_cases h2:othI n e p.1 < 0
     · rw [if_pos h2] at h; cases h
     · rw [if_neg h2] at h
       refine wkI_rng hn ring ys (i+1) _ q ?_ ?_ h
       · have hw:=(badE_wi (by simpa using h1)).1
         obtain ⟨f,_,g2⟩:=geti_fib hw
         obtain ⟨a0,ab,bm,_⟩:=netOk_fibR hn g2
         simp only
         unfold othI at h2 ⊢
         rw [g2] at h2 ⊢
         simp only at h2 ⊢
         unfold otherP at h2 ⊢
         split
         · omega
         · rename_i c1
           split
           · omega
           · rename_i c2
             rw [if_neg c1,if_neg c2] at h2; omega
       · intro x hx
         simp only [List.mem_append,List.mem_singleton] at hx
         rcases hx with hx | rfl
         · exact hp2 x hx
         · exact hp1
theorem ring_facts {n:TNetwork} (hn:netOk n=true) {ring l:List Int} (hr:ring.length≤1048576) (hp:ringP n ring=some l):ring.Nodup∧ring.length≤8∧2≤ring.length∧l.length≤8∧∀ e∈ring,0≤e∧e < (n.Fibers.length:Int):=by
 obtain ⟨b1,b2,b3⟩:=netOk_bR hn
 obtain ⟨h1,h2,_⟩:=ringP_some.1 hp
 obtain ⟨g1,g2,g3⟩:=okS_iff.1 h1
 obtain ⟨e0,f,k1,k2,k3,k4,_⟩:=start_two hn h1
 obtain ⟨a0,ab,bm,_⟩:=k4
 have hrng:=wkI_rng hn ring ring 0 _ _ (by simp only; rw [k3]; omega) (by simp) g1
 have hle:=nodup_le n.Nodes.length _ g2 hrng
 have hlen:=nd_len (by omega) hr h1
 refine ⟨wkI_nodup g1,by omega,g3,by rw [← h2]; omega,fun e he=>?_⟩
 obtain ⟨j,hj⟩:=List.getElem?_of_mem he
 have:=wkI_ok n ring ring 0 _ _ g1 j e hj
 have:=wi_iff.1 (badE_wi this).1
 omega
end Vs

namespace Vs
open Go
def fibL (n:TNetwork) (y:Int):Int:=match n.Fibers[y.toNat]? with | some f=>f.Length | none=>0
def lenR (n:TNetwork) (r:TRoute):Int:=foldI (fun _ y s=>IntKind.wrap .i64 (s+fibL n y)) 0 r.Fibers 0
def RtB (n:TNetwork) (r:TRoute):Prop:=r.Fibers.length≤20∧(∀ e∈r.Fibers,0≤e∧e < n.Fibers.length)∧0≤r.Start∧r.Start < 8
theorem p_lengthOf {n:TNetwork} {r:TRoute} (h:RtB n r):M_bp n r=some (lenR n r):=by
 have h1:=h.1
 unfold M_bp lenR
 have:=iter_foldI (f:=M_aq n r) r.Fibers (fun i (s:Int)=>(s,(i:Int))) (fun _ y s=>IntKind.wrap .i64 (s+fibL n y)) id (fun _ _=>True) (fun i s y hy _=>by
  have hlt:=(List.getElem?_eq_some_iff.1 hy).1
  have e1:decide ((i:Int) < r.Fibers.length)=true:=by simp [hlt]
  obtain ⟨g1,g2⟩:=h.2.1 y (List.mem_of_getElem? hy)
  have hf:geti n.Fibers y=n.Fibers[y.toNat]?:=by unfold geti; rw [if_pos g1]
  have hs:n.Fibers[y.toNat]?=some (n.Fibers[y.toNat]'(by omega)):=List.getElem?_eq_getElem _
  refine ⟨trivial,?_⟩
  simp only [M_aq,e1,cond_true,geti_nat,hy,Option.bind_some,hf,fibL]
  rw [hs]
  simp only [Option.bind_some]
  rw [w64_eq (n:=(i:Int)+1) (by omega) (by omega)]; rfl) (fun s _=>by simp [M_aq]) 0 trivial (by omega)
 have e0:((0:Nat):Int)=0:=rfl
 simp only [e0] at this
 rw [this]; rfl
theorem l4Length_eq (n:TNetwork) (r:TRoute):M_ck n r=M_bp n r:=rfl
theorem lenR_bd {n:TNetwork} (hn:netOk n=true) {r:TRoute} (h:RtB n r):0≤lenR n r∧lenR n r≤100000:=by
 have gen:∀ (ys:List Int) (i:Nat) (s:Int),(∀ e∈ys,0≤e∧e < n.Fibers.length)→i+ys.length≤20→0≤s→s≤5000 * i→0≤foldI (fun _ y s=>IntKind.wrap .i64 (s+fibL n y)) i ys s∧foldI (fun _ y s=>IntKind.wrap .i64 (s+fibL n y)) i ys s≤5000 * (i+ys.length:Nat):=by
  intro ys
  induction ys with
  | nil=>intro i s _ _ h1 h2; exact ⟨h1,by simpa [foldI] using h2⟩
  | cons y ys ih =>
    intro i s hy hi h1 h2
    simp only [List.length_cons] at hi
    obtain ⟨g1,g2⟩:=hy y (by simp)
    have hs:n.Fibers[y.toNat]?=some (n.Fibers[y.toNat]'(by omega)):=List.getElem?_eq_getElem _
    obtain ⟨_,_,_,f4,f5,_⟩:=netOk_fibR hn hs
    have hf:fibL n y=(n.Fibers[y.toNat]'(by omega)).Length:=by unfold fibL; rw [hs]
    have hw:IntKind.wrap .i64 (s+fibL n y)=s+fibL n y:=w64_eq (by omega) (by omega)
    simp only [foldI]
    rw [hw]
    have:=ih (i+1) (s+fibL n y) (fun e he=>hy e (by simp [he])) (by omega) (by omega) (by omega)
    refine ⟨this.1,?_⟩
    have h3:=this.2
    simp only [List.length_cons]
    omega
 have h1:=h.1
 have:=gen r.Fibers 0 0 h.2.1 (by omega) (by omega) (by omega)
 unfold lenR
 omega
theorem p_Or4 (a b c d:Int):M_bo [a,b,c,d]=some (if a ≠ 0 then a else if b ≠ 0 then b else if c ≠ 0 then c else d):=by
 unfold M_bo
 have key:=iter_findI (f:=M_f [a,b,c,d]) [a,b,c,d] (fun _ x=>x != 0) (fun _ x=>x) () (fun i x hx _=>by
  have hlt:=(List.getElem?_eq_some_iff.1 hx).1
  have h1:decide ((i:Int) < ([a,b,c,d].length:Nat))=true:=decide_eq_true (by omega)
  simp only [List.length_cons,List.length_nil] at hlt
  simp only [M_f,h1,cond_true,geti_nat,hx,Option.bind_some]
  rw [w64_eq (by omega) (by omega)]
  cases x != 0 <;> rfl) (by simp [M_f]) (by simp)
 rw [key]
 unfold findI
 simp only [List.zipIdx_cons,List.zipIdx_nil,List.find?_cons,List.find?_nil]
 by_cases h1:a=0
 · by_cases h2:b=0
   · by_cases h3:c=0
     · by_cases h4:d=0
       · simp [h1,h2,h3,h4]
       · have:(d != 0)=true:=bne_iff_ne.2 h4
         simp [h1,h2,h3,this]
     · have:(c != 0)=true:=bne_iff_ne.2 h3
       simp [h1,h2,h3,this]
   · have:(b != 0)=true:=bne_iff_ne.2 h2
     simp [h1,h2,this]
 · have:(a != 0)=true:=bne_iff_ne.2 h1
   simp [h1,this]
def cmpQ (b:List Int) (i:Nat) (x:Int):Int:=match b[i]? with | some y=>cmpI x y | none=>1
def cmpL (a b:List Int):Int:=match findI (fun i x=>b[i]? != some x) a with
 | some q=>cmpQ b q.1 q.2
 | none=>if a.length < b.length then -1 else 0
theorem p_CompareG (a b:List Int) (hl:a.length≤1048576):M_bk a b=some (cmpL a b):=by
 unfold M_bk
 rw [iter_findI (f:=M_e a b) a (fun i x=>b[i]? != some x) (fun i x=>cmpQ b i x) () (fun i x hx _=>by
  have hlt:=(List.getElem?_eq_some_iff.1 hx).1
  have h3:decide ((i:Int) < a.length)=true:=by simp [hlt]
  simp only [M_e,h3,cond_true,geti_nat,hx,Option.bind_some,cmpQ]
  by_cases hb:b.length≤i
  · have h4:decide ((b.length:Int)≤(i:Int))=true:=by simp; omega
    have h5:b[i]?=none:=List.getElem?_eq_none (by omega)
    rw [h4,h5]; rfl
  · have h4:decide ((b.length:Int)≤(i:Int))=false:=by simp; omega
    have h5:b[i]?=some (b[i]'(by omega)):=List.getElem?_eq_getElem _
    simp only [h4,cond_false,h5,Option.bind_some,p_cmp]
    rw [w64_eq (by omega) (by omega)]
    by_cases e:x=b[i]'(by omega)
    · have e1:(cmpI x (b[i]'(by omega)) != 0)=false:=by rw [cmpI_zero.2 e]; rfl
      have e2:(some (b[i]'(by omega)) != some x)=false:=by rw [← e]; simp
      rw [e1,e2]; rfl
    · have e1:(cmpI x (b[i]'(by omega)) != 0)=true:=bne_iff_ne.2 fun e'=>e (cmpI_zero.1 e')
      have e2:(some (b[i]'(by omega)) != some x)=true:=bne_iff_ne.2 fun e'=>e (Option.some.inj e').symm
      rw [e1,e2]; rfl) (by simp [M_e]) (by omega)]
 unfold cmpL
 cases hf:findI (fun i x=>b[i]? != some x) a with
 | none =>
   simp only [Option.bind_some]
   by_cases h:a.length < b.length
   · have e:decide ((a.length:Int) < (b.length:Int))=true:=by simp [h]
     simp [e,h]
   · have e:decide ((a.length:Int) < (b.length:Int))=false:=by simp; omega
     rw [e,if_neg h]; rfl
 | some q=>rfl
def cmpR (n:TNetwork) (a b:TRoute):Int:=if lenR n a ≠ lenR n b then cmpI (lenR n a) (lenR n b) else if a.Fibers.length ≠ b.Fibers.length then cmpI a.Fibers.length b.Fibers.length else
 if cmpL a.Fibers b.Fibers ≠ 0 then cmpL a.Fibers b.Fibers else cmpI a.Start b.Start
theorem p_compareRoutes {n:TNetwork} {a b:TRoute} (ha:RtB n a) (hb:RtB n b):M_de n a b=some (cmpR n a b):=by
 have h1:=ha.1
 unfold M_de
 rw [p_lengthOf ha,Option.bind_some,p_lengthOf hb,Option.bind_some]
 simp only [p_cmp,Option.bind_some,p_CompareG a.Fibers b.Fibers (by omega),bnd,p_Or4]
 unfold cmpR
 simp only [ne_eq,cmpI_zero,Int.natCast_inj]
theorem p_l4Sign (x:Int):M_bh x=some (cmpI x 0):=by
 unfold M_bh cmpI
 by_cases h1:x < 0
 · simp [h1]
 · by_cases h2:0 < x <;> simp [h1,h2]
theorem cmpI_sub (x y:Int):cmpI (x - y) 0=cmpI x y:=by
 unfold cmpI
 by_cases h1:x < y
 · rw [if_pos (by omega),if_pos h1]
 · by_cases h2:y < x
   · rw [if_neg (by omega),if_pos (by omega),if_neg h1,if_pos h2]
   · rw [if_neg (by omega),if_neg (by omega),if_neg h1,if_neg h2]
theorem sub_bne (x y:Int):(x - y != 0)=decide (x ≠ y):=by
 by_cases h:x=y
 · subst h; simp
 · have:(x - y != 0)=true:=bne_iff_ne.2 (by omega)
   rw [this,decide_eq_true h]
theorem p_l4Compare {n:TNetwork} (hn:netOk n=true) {a b:TRoute} (ha:RtB n a) (hb:RtB n b):M_df n a b=some (cmpR n a b):=by
 obtain ⟨b1,b2,b3⟩:=netOk_bR hn
 have hla:=lenR_bd hn ha
 have hlb:=lenR_bd hn hb
 have h1:=ha.1
 have h2:=hb.1
 obtain ⟨s1,s2⟩:=ha.2.2
 obtain ⟨s3,s4⟩:=hb.2.2
 unfold M_df cmpR
 rw [l4Length_eq,l4Length_eq,p_lengthOf ha,Option.bind_some,p_lengthOf hb,Option.bind_some]
 simp only [p_l4Sign,Option.bind_some]
 rw [w64_eq (n:=lenR n a - lenR n b) (by omega) (by omega),w64_eq (n:=(a.Fibers.length:Int) - (b.Fibers.length:Int)) (by omega) (by omega),w64_eq (n:=a.Start - b.Start) (by omega) (by omega),sub_bne,sub_bne,cmpI_sub,cmpI_sub,cmpI_sub]
 by_cases e1:lenR n a=lenR n b
 · rw [if_neg (by simpa using e1),decide_eq_false (by simpa using e1),cond_false]
   by_cases e2:a.Fibers.length=b.Fibers.length
   · rw [if_neg (by simpa using e2),decide_eq_false (by simp [e2]),cond_false]
     rw [iter_findI (f:=M_ar a b) a.Fibers (fun i x=>b.Fibers[i]? != some x) (fun i x=>cmpQ b.Fibers i x) () (fun i x hx _=>by
      have hlt:=(List.getElem?_eq_some_iff.1 hx).1
      have h3:decide ((i:Int) < a.Fibers.length)=true:=by simp [hlt]
      have h5:b.Fibers[i]?=some (b.Fibers[i]'(by omega)):=List.getElem?_eq_getElem _
      obtain ⟨x1,x2⟩:=ha.2.1 x (List.mem_of_getElem? hx)
      obtain ⟨y1,y2⟩:=hb.2.1 _ (List.mem_of_getElem? h5)
      simp only [M_ar,h3,cond_true,geti_nat,hx,Option.bind_some,cmpQ,h5,p_l4Sign]
      rw [w64_eq (n:=(i:Int)+1) (by omega) (by omega),w64_eq (n:=x - b.Fibers[i]'(by omega)) (by omega) (by omega),cmpI_sub]
      by_cases e:x=b.Fibers[i]'(by omega)
      · have e3:(x != b.Fibers[i]'(by omega))=false:=by rw [← e]; simp
        have e4:(some (b.Fibers[i]'(by omega)) != some x)=false:=by rw [← e]; simp
        rw [e3,e4]; rfl
      · have e3:(x != b.Fibers[i]'(by omega))=true:=bne_iff_ne.2 e
        have e4:(some (b.Fibers[i]'(by omega)) != some x)=true:=bne_iff_ne.2 fun e'=>e (Option.some.inj e').symm
        rw [e3,e4]; rfl) (by simp [M_ar]) (by omega)]
     unfold cmpL
     cases hf:findI (fun i x=>b.Fibers[i]? != some x) a.Fibers with
     | none =>
       simp only [Option.bind_some]
       rw [if_neg (show ¬ a.Fibers.length < b.Fibers.length by omega),if_neg (by simp)]
     | some q =>
       obtain ⟨g1,g2,_⟩:=findI_some.1 (show findI (fun i x=>b.Fibers[i]? != some x) a.Fibers=some (q.1,q.2) from hf)
       have hlt:=(List.getElem?_eq_some_iff.1 g1).1
       have h5:b.Fibers[q.1]?=some (b.Fibers[q.1]'(by omega)):=List.getElem?_eq_getElem _
       have hz:cmpQ b.Fibers q.1 q.2 ≠ 0:=by
        unfold cmpQ
        rw [h5] at g2 ⊢
        exact fun e=>bne_iff_ne.1 g2 (by rw [cmpI_zero.1 e])
       simp only [Option.bind_some]
       rw [if_pos hz]
   · rw [if_pos (by simpa using e2),decide_eq_true (by simp; omega),cond_true]
 · rw [if_pos (by simpa using e1),decide_eq_true (by simpa using e1),cond_true]
theorem cmpI_neg (x y:Int):cmpI y x=- cmpI x y:=by
 unfold cmpI
 by_cases h1:x < y
 · rw [if_neg (show ¬ y < x by omega),if_pos h1,if_pos h1]; rfl
 · by_cases h2:y < x
   · rw [if_pos h2,if_neg h1,if_pos h2]
   · rw [if_neg h2,if_neg h1,if_neg h1,if_neg h2]; rfl
theorem cmpL_neg {a b:List Int} (h:a.length=b.length):cmpL b a=- cmpL a b:=by
 have key:∀ {a b:List Int} {i:Nat} {x:Int},a.length=b.length→findI (fun i x=>b[i]? != some x) a=some (i,x)→∃ y,findI (fun i x=>a[i]? != some x) b=some (i,y)∧a[i]?=some x∧b[i]?=some y:=by
  intro a b i x h hf
  obtain ⟨g1,g2,g3⟩:=findI_some.1 hf
  have hlt:=(List.getElem?_eq_some_iff.1 g1).1
  have h5:b[i]?=some (b[i]'(by omega)):=List.getElem?_eq_getElem _
  refine ⟨b[i]'(by omega),findI_some.2 ⟨h5,?_,fun j y hj hy=>?_⟩,g1,h5⟩
  · rw [g1]
    rw [h5] at g2
    exact bne_iff_ne.2 fun e=>bne_iff_ne.1 g2 e.symm
  · have hlj:a[j]?=some (a[j]'(by omega)):=List.getElem?_eq_getElem _
    have:=g3 j _ hj hlj
    rw [hlj]
    rw [hy] at this
    simp only [bne_eq_false_iff_eq] at this ⊢
    exact this.symm
 unfold cmpL
 cases hf:findI (fun i x=>b[i]? != some x) a with
 | some q =>
   obtain ⟨y,h1,h2,h3⟩:=key h (show findI (fun i x=>b[i]? != some x) a=some (q.1,q.2) from hf)
   rw [h1]
   simp only [cmpQ,h2,h3]
   exact cmpI_neg _ _
 | none =>
   cases hg:findI (fun i x=>a[i]? != some x) b with
   | some q =>
     obtain ⟨y,h1,_⟩:=key h.symm (show findI (fun i x=>a[i]? != some x) b=some (q.1,q.2) from hg)
     rw [hf] at h1; cases h1
   | none =>
     simp only
     rw [if_neg (by omega),if_neg (by omega)]; rfl
theorem cmpR_neg (n:TNetwork) (a b:TRoute):cmpR n b a=- cmpR n a b:=by
 unfold cmpR
 by_cases e1:lenR n a=lenR n b
 · rw [if_neg (show ¬ lenR n b ≠ lenR n a from fun h=>h e1.symm),if_neg (show ¬ lenR n a ≠ lenR n b from fun h=>h e1)]
   by_cases e2:a.Fibers.length=b.Fibers.length
   · rw [if_neg (show ¬ b.Fibers.length ≠ a.Fibers.length from fun h=>h e2.symm),if_neg (show ¬ a.Fibers.length ≠ b.Fibers.length from fun h=>h e2),cmpL_neg e2]
     by_cases e3:cmpL a.Fibers b.Fibers=0
     · rw [if_neg (show ¬ -cmpL a.Fibers b.Fibers ≠ 0 by omega),if_neg (show ¬ cmpL a.Fibers b.Fibers ≠ 0 from fun h=>h e3)]; exact cmpI_neg _ _
     · rw [if_pos (show -cmpL a.Fibers b.Fibers ≠ 0 by omega),if_pos e3]
   · rw [if_pos (show b.Fibers.length ≠ a.Fibers.length from fun e=>e2 e.symm),if_pos e2]; exact cmpI_neg _ _
 · rw [if_pos (show lenR n b ≠ lenR n a from fun e=>e1 e.symm),if_pos e1]; exact cmpI_neg _ _
theorem cmpR_zero {n:TNetwork} {a b:TRoute} (h:cmpR n a b=0):a=b:=by
 unfold cmpR at h
 by_cases e1:lenR n a=lenR n b
 · rw [if_neg (by simp [e1])] at h
   by_cases e2:a.Fibers.length=b.Fibers.length
   · rw [if_neg (by simp [e2])] at h
     by_cases e3:cmpL a.Fibers b.Fibers=0
     · rw [if_neg (by simp [e3])] at h
       have hs:=cmpI_zero.1 h
       have hf:a.Fibers=b.Fibers:=by
        unfold cmpL at e3
        cases hf:findI (fun i x=>b.Fibers[i]? != some x) a.Fibers with
        | none =>
          have:=findI_none.1 hf
          apply List.ext_getElem?
          intro i
          rcases Nat.lt_or_ge i a.Fibers.length with hi | hi
          · have:=this i _ (List.getElem?_eq_getElem hi)
            simp only [bne_eq_false_iff_eq] at this
            rw [this,List.getElem?_eq_getElem hi]
          · rw [List.getElem?_eq_none hi,List.getElem?_eq_none (by omega)]
        | some q =>
          rw [hf] at e3
          obtain ⟨g1,g2,_⟩:=findI_some.1 (show findI (fun i x=>b.Fibers[i]? != some x) a.Fibers=some (q.1,q.2) from hf)
          have hlt:=(List.getElem?_eq_some_iff.1 g1).1
          have h5:b.Fibers[q.1]?=some (b.Fibers[q.1]'(by omega)):=List.getElem?_eq_getElem _
          exfalso
          simp only [cmpQ,h5] at e3
          rw [h5] at g2
          exact bne_iff_ne.1 g2 (by rw [cmpI_zero.1 e3])
       cases a; cases b
       simp only at hs hf
       rw [hs,hf]
     · rw [if_pos e3] at h; exact absurd h e3
   · rw [if_pos e2] at h
     have:=cmpI_zero.1 h
     omega
 · rw [if_pos e1] at h
   exact absurd (cmpI_zero.1 h) e1
end Vs

namespace Vs
open Go
theorem iter_steps {S B:Type} {f:S→Option (S ⊕ B)} (st:Nat→S) (k:Nat) (r:B) (h1:∀ j,j < k→f (st j)=some (.inl (st (j+1)))) (h2:f (st k)=some (.inr r)) (hk:k < 1000000):iter f N0 (st 0)=some r:=by
 have:=iter_list (f:=f) (List.range k) (fun i (_:Unit)=>st i) (fun _ _ _=>.inl ()) (fun _=>r) (fun _ _=>True) (fun i a x hx _=>by
  have hlt:=(List.getElem?_eq_some_iff.1 hx).1
  rw [List.length_range] at hlt
  exact .inl ⟨(),rfl,trivial,h1 i hlt⟩) (fun a _=>by rw [List.length_range]; exact h2) () trivial (by rw [List.length_range]; omega)
 rw [this]
 have gen:∀ (ys:List Nat) (i:Nat),walkL (fun _ (_:Nat) (_:Unit)=>(.inl ():Unit ⊕ B)) (fun _=>r) i ys ()=r:=by
  intro ys
  induction ys with
  | nil=>intro i; rfl
  | cons y ys ih=>intro i; exact ih (i+1)
 rw [gen]
def rz (l:List Int) (i:Nat):Int:=(l[i]?).getD 0
theorem rz_at {l:List Int} {i:Nat} (h:i < l.length):l[i]?=some (rz l i):=by
 unfold rz; rw [List.getElem?_eq_getElem h]; rfl
theorem rz_mem {l:List Int} {i:Nat} (h:i < l.length):rz l i∈l:=List.mem_of_getElem? (rz_at h)
theorem rz_inj {l:List Int} (hn:l.Nodup) {i j:Nat} (hi:i < l.length) (hj:j < l.length) (h:rz l i=rz l j):i=j:=by
 have h1:=rz_at hi
 have h2:=rz_at hj
 rw [← h] at h2
 rw [List.getElem?_eq_getElem hi] at h1
 rw [List.getElem?_eq_getElem hj] at h2
 exact (List.getElem_inj hn).1 ((Option.some.inj h1).trans (Option.some.inj h2).symm)
def cy (L x:Nat):Nat:=if x < L then x else x - L
def cb (L a j:Nat):Nat:=if j≤a then a - j else a+L - j
def kF (L a b:Nat):Nat:=if a≤b then b - a else L - a+b
theorem kF_lt {L a b:Nat} (ha:a < L) (hb:b < L):kF L a b < L:=by unfold kF; split <;> omega
theorem cy_lt {L x:Nat} (h:x < 2 * L):cy L x < L:=by unfold cy; split <;> omega
theorem cb_lt {L a j:Nat} (ha:a < L) (hj:j < L):cb L a j < L:=by unfold cb; split <;> omega
theorem cy_ne {L a b j:Nat} (ha:a < L) (hb:b < L) (hj:j < kF L a b):cy L (a+j) ≠ b:=by
 unfold kF at hj; unfold cy
 split at hj <;> split <;> omega
theorem cy_end {L a b:Nat} (ha:a < L) (hb:b < L):cy L (a+kF L a b)=b:=by
 unfold kF cy
 by_cases h:a≤b
 · rw [if_pos h,if_pos (by omega)]; omega
 · rw [if_neg h,if_neg (by omega)]; omega
theorem cy_suc {L a j:Nat} (h:a+j+1 < 2 * L):cy L (cy L (a+j)+1)=cy L (a+j+1):=by
 unfold cy
 by_cases h1:a+j < L
 · rw [if_pos h1]
 · rw [if_neg h1,if_neg (show ¬ a+j+1 < L by omega),if_pos (by omega)]; omega
theorem cb_ne {L a b j:Nat} (ha:a < L) (hb:b < L) (hj:j < kF L b a):cb L a j ≠ b:=by
 unfold kF at hj; unfold cb
 split at hj <;> split <;> omega
theorem cb_end {L a b:Nat} (ha:a < L) (hb:b < L):cb L a (kF L b a)=b:=by
 unfold kF cb
 by_cases h:b≤a
 · rw [if_pos h,if_pos (by omega)]; omega
 · rw [if_neg h,if_neg (by omega)]; omega
theorem cb_suc {L a j:Nat} (ha:a < L) (hj:j+1 < L):cb L (cb L a j) 1=cb L a (j+1):=by
 unfold cb
 by_cases h1:j≤a
 · rw [if_pos h1]
   by_cases h2:j+1≤a
   · rw [if_pos h2,if_pos (by omega)]; omega
   · rw [if_neg h2,if_neg (by omega)]; omega
 · rw [if_neg h1,if_neg (show ¬ j+1≤a by omega),if_pos (by omega)]; omega
theorem cb_cy {L a b j:Nat} (ha:a < L) (hb:b < L) (hj:j < kF L b a):cy L (b+(kF L b a - 1 - j))=cb L a (j+1):=by
 unfold kF at hj ⊢
 unfold cy cb
 by_cases h:b≤a
 · rw [if_pos h] at hj ⊢
   rw [if_pos (by omega),if_pos (by omega)]; omega
 · rw [if_neg h] at hj ⊢
   by_cases h2:j+1≤a
   · rw [if_pos h2,if_neg (by omega)]; omega
   · rw [if_neg h2,if_pos (by omega)]; omega
theorem tm1 {L i:Nat} (hL:L≤1000) (hi:i < L):Int.tmod (IntKind.wrap .i64 ((i:Int)+1)) (L:Int)=((cy L (i+1):Nat):Int):=by
 rw [w64_eq (by omega) (by omega)]
 unfold cy
 by_cases h:i+1 < L
 · rw [if_pos h,Int.tmod_eq_of_lt (by omega) (by omega)]; omega
 · rw [if_neg h]
   have:(i:Int)+1=(L:Int):=by omega
   rw [this,Int.tmod_self]; omega
theorem tm2 {L i:Nat} (hL:L≤1000) (hi:i < L):Int.tmod (IntKind.wrap .i64 ((IntKind.wrap .i64 ((i:Int)+(L:Int))) - 1)) (L:Int)=((cb L i 1:Nat):Int):=by
 rw [w64_eq (n:=(i:Int)+L) (by omega) (by omega),w64_eq (by omega) (by omega)]
 unfold cb
 by_cases h:1≤i
 · rw [if_pos h]
   have:(i:Int)+L - 1=(i:Int) - 1+L:=by omega
   rw [this,Int.tmod_eq_emod_of_nonneg (by omega),Int.add_emod_right,Int.emod_eq_of_lt (by omega) (by omega)]; omega
 · rw [if_neg h,Int.tmod_eq_of_lt (by omega) (by omega)]; omega
def arcF (ring:List Int) (a b:Nat):List Int:=(List.range (kF ring.length a b)).map fun j=>rz ring (cy ring.length (a+j))
def arcB (ring:List Int) (a b:Nat):List Int:=(List.range (kF ring.length b a)).map fun j=>rz ring (cb ring.length a (j+1))
theorem arc_rev {ring:List Int} {a b:Nat} (ha:a < ring.length) (hb:b < ring.length):(arcF ring b a).reverse=arcB ring a b:=by
 unfold arcF arcB
 apply List.ext_getElem
 · simp
 · intro j h1 h2
   simp only [List.length_map,List.length_range] at h2
   rw [List.getElem_reverse]
   simp only [List.getElem_map,List.getElem_range,List.length_map,List.length_range]
   rw [cb_cy ha hb h2]
theorem rng_suc {α:Type} (g:Nat→α) (j:Nat):(List.range j).map g++[g j]=(List.range (j+1)).map g:=by rw [List.range_succ,List.map_append]; rfl
theorem wkI_steps (n:TNetwork) (ring:List Int):∀ (ys:List Int) (i:Nat) (p q:Int×List Int),wkI n ring i ys p=.inl q→∃ t,q.2=p.2++t∧t.length=ys.length∧(t++[q.1])[0]?=some p.1 ∧
 ∀ j e,ys[j]?=some e→∃ u v,(t++[q.1])[j]?=some u∧(t++[q.1])[j+1]?=some v∧othI n e u=v∧0≤v
 | [], i, p, q, h => by
   unfold wkI walkL at h
   cases h
   exact ⟨[],by simp,rfl,rfl,fun j e he=>by simp at he⟩
 | e :: ys, i, p, q, h => by
   rw [wkI_cons] at h
   unfold stI at h
   by_cases h1:badE n ring i e=true
   · rw [if_pos h1] at h; cases h
   · rw [if_neg h1] at h
     by_cases h2:othI n e p.1 < 0
     · rw [if_pos h2] at h; cases h
     · rw [if_neg h2] at h
       obtain ⟨t,t1,t2,t3,t4⟩:=wkI_steps n ring ys (i+1) _ q h
       refine ⟨p.1::t,by rw [t1]; simp,by simp [t2],rfl,fun j e' he=>?_⟩
       cases j with
       | zero =>
         simp only [List.getElem?_cons_zero,Option.some.injEq] at he
         subst he
         exact ⟨p.1,othI n e p.1,rfl,by simpa using t3,rfl,by omega⟩
       | succ j =>
         obtain ⟨u,v,h3,h4,h5⟩:=t4 j e' (by simpa using he)
         exact ⟨u,v,by simpa using h3,by simpa using h4,h5⟩
structure RingF (n:TNetwork) (ring nd:List Int):Prop where
 len:nd.length=ring.length
 two:2≤ring.length
 le8:ring.length≤8
 nodup:nd.Nodup
 rg:∀ e∈ring,0≤e∧e < (n.Fibers.length:Int)
 ndrg:∀ x∈nd,0≤x∧x < (n.Nodes.length:Int)
 step:∀ i,i < ring.length→othI n (rz ring i) (rz nd i)=rz nd (cy ring.length (i+1))
 ends:∀ i f,i < ring.length→n.Fibers[(rz ring i).toNat]?=some f→f.A∈nd∧f.B∈nd
theorem ringF {n:TNetwork} (hn:netOk n=true) {ring nd:List Int} (hr:ring.length≤1048576) (hp:ringP n ring=some nd):RingF n ring nd:=by
 obtain ⟨b1,b2,b3⟩:=netOk_bR hn
 obtain ⟨r1,r2,r3,r4,r5⟩:=ring_facts hn hr hp
 obtain ⟨h1,h2,_⟩:=ringP_some.1 hp
 obtain ⟨g1,g2,g3⟩:=okS_iff.1 h1
 obtain ⟨e0,f,k1,k2,k3,k4,_⟩:=start_two hn h1
 obtain ⟨a0,ab,bm,_⟩:=k4
 have hrng:=wkI_rng hn ring ring 0 _ _ (by simp only; rw [k3]; omega) (by simp) g1
 have hlen:=nd_len (by omega) hr h1
 rw [h2] at g1 g2 hlen hrng
 obtain ⟨t,t1,t2,t3,t4⟩:=wkI_steps n ring ring 0 _ _ g1
 simp only [List.nil_append] at t1 t3 t4
 subst t1
 have h0:nd[0]?=some (startA n ring):=by
  rw [List.getElem?_append_left (by omega)] at t3; exact t3
 have step:∀ i,i < ring.length→othI n (rz ring i) (rz nd i)=rz nd (cy ring.length (i+1))∧0≤rz nd (cy ring.length (i+1)):=fun i hi=>by
  obtain ⟨u,v,q1,q2,q3,q4⟩:=t4 i _ (rz_at hi)
  rw [List.getElem?_append_left (by omega),rz_at (show i < nd.length by omega)] at q1
  have e1:=Option.some.inj q1
  have e2:rz nd (cy ring.length (i+1))=v:=by
   unfold cy
   by_cases hl:i+1 < ring.length
   · rw [if_pos hl]
     rw [List.getElem?_append_left (by omega),rz_at (show i+1 < nd.length by omega)] at q2
     exact Option.some.inj q2
   · rw [if_neg hl]
     have e3:i+1 - ring.length=0:=by omega
     rw [List.getElem?_append_right (by omega)] at q2
     have e4:i+1 - nd.length=0:=by omega
     rw [e4] at q2
     simp only [List.getElem?_cons_zero] at q2
     rw [e3]
     rw [rz_at (show 0 < nd.length by omega)] at h0
     rw [Option.some.inj h0]; exact Option.some.inj q2
  rw [e1,e2]
  exact ⟨q3,q4⟩
 refine ⟨hlen,r3,r2,g2,r5,hrng,fun i hi=>(step i hi).1,fun i f hi hf=>?_⟩
 obtain ⟨q1,q2⟩:=step i hi
 have m1:rz nd i∈nd:=rz_mem (by omega)
 have m2:rz nd (cy ring.length (i+1))∈nd:=rz_mem (by rw [hlen]; exact cy_lt (by omega))
 rw [← q1] at m2 q2
 unfold othI at m2 q2
 rw [hf] at m2 q2
 simp only [otherP] at m2 q2
 by_cases c1:rz nd i=f.A
 · rw [if_pos c1] at m2
   exact ⟨c1 ▸ m1,m2⟩
 · rw [if_neg c1] at m2 q2
   by_cases c2:rz nd i=f.B
   · rw [if_pos c2] at m2
     exact ⟨m2,c2 ▸ m1⟩
   · rw [if_neg c2] at q2; omega
theorem p_l17Arc {n:TNetwork} (hn:netOk n=true) {ring nd:List Int} (hr:ring.length≤1048576) (hp:ringP n ring=some nd) {a b:Nat} (ha:a < ring.length) (hb:b < ring.length) :
 M_by n ring (rz nd a) (rz nd b)=some ⟨rz nd a,arcF ring a b⟩:=by
 have R:=ringF hn hr hp
 have hl:=R.len
 have h8:=R.le8
 unfold M_by
 rw [p_l17Nodes n ring nd hn hr hp,Option.bind_some]
 have e1:iter (M_o (rz nd a) nd) N0 0=some (a:Int):=by
  have:=iter_steps (f:=M_o (rz nd a) nd) (fun j=>(j:Int)) a (a:Int) (fun j hj=>by
   unfold M_o
   rw [grd_t (by omega),Option.bind_some,Int.toNat_natCast,rz_at (show j < nd.length by omega),Option.bind_some]
   have:(rz nd j != rz nd a)=true:=bne_iff_ne.2 fun e=>by have:=rz_inj R.nodup (by omega) (by omega) e; omega
   rw [this,cond_true,w64_eq (by omega) (by omega)]; rfl) (by
   unfold M_o
   rw [grd_t (by omega),Option.bind_some,Int.toNat_natCast,rz_at (show a < nd.length by omega),Option.bind_some]
   simp) (by omega)
  exact this
 rw [e1,Option.bind_some]
 have e2:iter (M_p n ring (rz nd b)) N0 ((a:Int),rz nd a,[])=some (arcF ring a b):=by
  have hk:=kF_lt ha hb
  have:=iter_steps (f:=M_p n ring (rz nd b)) (fun j=>(((cy ring.length (a+j):Nat):Int),rz nd (cy ring.length (a+j)),(List.range j).map fun j=>rz ring (cy ring.length (a+j)))) (kF ring.length a b) (arcF ring a b) (fun j hj=>by
   have hc:cy ring.length (a+j) < ring.length:=cy_lt (by omega)
   unfold M_p
   have h1:(rz nd (cy ring.length (a+j)) != rz nd b)=true:=bne_iff_ne.2 fun e=>cy_ne ha hb hj (rz_inj R.nodup (by omega) (by omega) e)
   simp only [h1,cond_true,geti_nat,rz_at hc,Option.bind_some,bnd]
   rw [grd_t (by simp; omega),Option.bind_some]
   obtain ⟨g1,g2⟩:=R.rg _ (rz_mem hc)
   rw [p_l2Other n _ _ (wi_iff.2 (by omega)),Option.bind_some,grd_t (by omega),Option.bind_some,tm1 (by omega) hc,cy_suc (by omega),R.step _ hc,cy_suc (by omega),rng_suc (fun j=>rz ring (cy ring.length (a+j)))]
   rfl) (by
   unfold M_p
   simp only [cy_end ha hb,bne_self_eq_false,cond_false]; rfl) (by omega)
  simp only [Nat.add_zero,List.range_zero,List.map_nil] at this
  have e0:cy ring.length a=a:=by unfold cy; rw [if_pos ha]
  rw [e0] at this
  exact this
 rw [e2,Option.bind_some]
theorem arcF_len {ring:List Int} {a b:Nat}:(arcF ring a b).length=kF ring.length a b:=by unfold arcF; simp
theorem arcB_len {ring:List Int} {a b:Nat}:(arcB ring a b).length=kF ring.length b a:=by unfold arcB; simp
theorem arcF_mem {ring:List Int} {a b:Nat} (ha:a < ring.length) (hb:b < ring.length):∀ e∈arcF ring a b,e∈ring:=fun e he=>by
 unfold arcF at he
 obtain ⟨j,hj,rfl⟩:=List.mem_map.1 he
 have:=kF_lt ha hb
 exact rz_mem (cy_lt (by have:=List.mem_range.1 hj; omega))
theorem arcB_mem {ring:List Int} {a b:Nat} (ha:a < ring.length) (hb:b < ring.length):∀ e∈arcB ring a b,e∈ring:=fun e he=>by
 rw [← arc_rev ha hb] at he
 exact arcF_mem hb ha e (List.mem_reverse.1 he)
theorem p_arcWalk {n:TNetwork} (hn:netOk n=true) {ring nd:List Int} (R:RingF n ring nd) {a b:Nat} (ha:a < ring.length) (hb:b < ring.length) (hab:a ≠ b) :
 M_bz n ⟨rz nd a,arcF ring a b⟩=some ((List.range (kF ring.length a b+1)).map fun j=>rz nd (cy ring.length (a+j)),true):=by
 obtain ⟨b1,b2,b3⟩:=netOk_bR hn
 have hl:=R.len
 have h8:=R.le8
 have hk:=kF_lt ha hb
 have hk0:kF ring.length a b ≠ 0:=by unfold kF; split <;> omega
 obtain ⟨q1,q2⟩:=R.ndrg _ (rz_mem (l:=nd) (show a < nd.length by omega))
 unfold M_bz
 simp only [bnd,p_l1In,Option.bind_some]
 have hw:wi (rz nd a) 0 (IntKind.wrap .i64 ((n.Nodes.length:Int) - 1))=true:=by
  rw [w64_eq (by omega) (by omega)]; exact wi_iff.2 (by omega)
 rw [hw]
 have h0:(((arcF ring a b).length:Int)==0)=false:=by rw [beq_eq_false_iff_ne,arcF_len]; omega
 simp only [Bool.not_true,cond_false,h0,Option.bind_some]
 have e1:iter (M_q n ⟨rz nd a,arcF ring a b⟩) N0 (0,[rz nd a])=some (.inl ((List.range (kF ring.length a b+1)).map fun j=>rz nd (cy ring.length (a+j)))):=by
  have:=iter_steps (f:=M_q n ⟨rz nd a,arcF ring a b⟩) (fun j=>((j:Int),(List.range (j+1)).map fun j=>rz nd (cy ring.length (a+j)))) (kF ring.length a b) (.inl ((List.range (kF ring.length a b+1)).map fun j=>rz nd (cy ring.length (a+j)))) (fun j hj=>by
   have hc:cy ring.length (a+j) < ring.length:=cy_lt (by omega)
   have hg:(arcF ring a b)[j]?=some (rz ring (cy ring.length (a+j))):=by
    unfold arcF
    rw [List.getElem?_map,List.getElem?_range hj]; rfl
   obtain ⟨g1,g2⟩:=R.rg _ (rz_mem hc)
   unfold M_q
   have h1:decide ((j:Int) < (arcF ring a b).length)=true:=by rw [arcF_len]; simp [hj]
   simp only [h1,cond_true,geti_nat,hg,Option.bind_some,p_l1In,List.length_map,List.length_range]
   have hwe:wi (rz ring (cy ring.length (a+j))) 0 (IntKind.wrap .i64 ((n.Fibers.length:Int) - 1))=true:=by
    rw [w64_eq (by omega) (by omega)]; exact wi_iff.2 (by omega)
   have hix:IntKind.wrap .i64 (((j+1:Nat):Int) - 1)=(j:Int):=by rw [w64_eq (by omega) (by omega)]; omega
   have hat:((List.range (j+1)).map fun j=>rz nd (cy ring.length (a+j)))[j]?=some (rz nd (cy ring.length (a+j))):=by
    rw [List.getElem?_map,List.getElem?_range (by omega)]; rfl
   have hc2:cy ring.length (a+(j+1)) < ring.length:=cy_lt (by omega)
   obtain ⟨x1,x2⟩:=R.ndrg _ (rz_mem (l:=nd) (show cy ring.length (a+(j+1)) < nd.length by omega))
   have hneg:decide (rz nd (cy ring.length (a+(j+1))) < 0)=false:=by simp; omega
   have hany:(((List.range (j+1)).map fun j=>rz nd (cy ring.length (a+j))).any fun y=>y==rz nd (cy ring.length (a+(j+1))))=false:=by
    rw [List.any_eq_false]
    intro y hy
    obtain ⟨t,ht,rfl⟩:=List.mem_map.1 hy
    have ht:=List.mem_range.1 ht
    have hct:cy ring.length (a+t) < ring.length:=cy_lt (by omega)
    simp only [beq_iff_eq]
    intro e
    have:=rz_inj R.nodup (by omega) (by omega) e
    unfold cy at this
    split at this <;> split at this <;> omega
   simp only [hwe,Bool.not_true,cond_false,hix]
   rw [grd_t ⟨by omega,by omega⟩,Option.bind_some,Int.toNat_natCast,hat,Option.bind_some,p_l2Other n _ _ (wi_iff.2 (by omega)),Option.bind_some,R.step _ hc,cy_suc (by omega)]
   rw [show a+j+1=a+(j+1) by omega,hneg,cond_false,p_l1Has _ _ (by simp; omega),hany,Option.bind_some]
   simp only [Option.bind_some,cond_false]
   rw [grd_t (by omega)]
   simp only [Option.bind_some,bnd]
   have e2:((List.range (j+1)).map fun j=>rz nd (cy ring.length (a+j)))++[rz nd (cy ring.length (a+(j+1)))]=(List.range (j+1+1)).map fun j=>rz nd (cy ring.length (a+j)):=rng_suc (fun j=>rz nd (cy ring.length (a+j))) (j+1)
   rw [w64_eq (n:=(j:Int)+1) (by omega) (by omega),e2]
   rfl) (by
   unfold M_q
   simp [arcF_len]) (by omega)
  simp only [Nat.zero_add,List.range_one,List.map_cons,List.map_nil,Nat.add_zero] at this
  have e0:cy ring.length a=a:=by unfold cy; rw [if_pos ha]
  rw [e0] at this
  exact this
 rw [e1]; rfl
theorem p_arcRev {n:TNetwork} (hn:netOk n=true) (hz:z_Network n≤1048576) {ring nd:List Int} (R:RingF n ring nd) {a b:Nat} (ha:a < ring.length) (hb:b < ring.length) (hab:a ≠ b) :
 M_dq n ⟨rz nd b,arcF ring b a⟩=some (⟨rz nd a,arcB ring a b⟩,true):=by
 have hk:=kF_lt hb ha
 have h8:=R.le8
 unfold M_dq M_dw M_dy M_dx
 rw [p_l2Good n hz,hn]
 simp only [Option.bind_some,Bool.not_true,cond_false,p_arcWalk hn R hb ha (Ne.symm hab),List.length_map,List.length_range]
 have hix:IntKind.wrap .i64 (((kF ring.length b a+1:Nat):Int) - 1)=((kF ring.length b a:Nat):Int):=by rw [w64_eq (by omega) (by omega)]; omega
 have hat:((List.range (kF ring.length b a+1)).map fun j=>rz nd (cy ring.length (b+j)))[kF ring.length b a]?=some (rz nd a):=by
  rw [List.getElem?_map,List.getElem?_range (by omega),Option.map_some,cy_end hb ha]
 rw [hix,grd_t ⟨by omega,by omega⟩,Option.bind_some,Int.toNat_natCast,hat]
 simp only [Option.bind_some]
 have hrv:=p_l17Back (arcF ring b a) (by rw [arcF_len]; omega)
 unfold M_cd at hrv
 have e:iter (M_ay ⟨rz nd b,arcF ring b a⟩) N0 (IntKind.wrap .i64 (((arcF ring b a).length:Int) - 1),[])=some (arcF ring b a).reverse:=by
  have hd:M_ay ⟨rz nd b,arcF ring b a⟩=M_l (arcF ring b a):=rfl
  rw [hd]
  simpa using hrv
 rw [e,Option.bind_some,arc_rev ha hb]
def twoR (n:TNetwork) (x y:TRoute):List TRoute:=if cmpR n y x < 0 then [y,x] else [x,y]
def keepR (e:Int) (r:TRoute):Bool:=!decide (e∈r.Fibers)
def swP (n:TNetwork) (ring:List Int) (fiber:Int):List TRoute×Bool :=
 if isRingB n ring&&wi fiber 0 ((n.Fibers.length:Int) - 1) then
  match ringP n ring,n.Fibers[fiber.toNat]? with
  | some nd, some f => match findI (fun _ x => f.A == x) nd, findI (fun _ x => f.B == x) nd with
    | some p,some q=>((twoR n ⟨f.A,arcF ring p.1 q.1⟩ ⟨f.A,arcB ring p.1 q.1⟩).filter (keepR fiber),true)
    | _,_=>([],false)
  | _,_=>([],false)
 else ([],false)
theorem p_IdxI (xs:List Int) (v:Int) (hl:xs.length≤1048576):M_bi xs v=some (match findI (fun _ x=>v==x) xs with | some q=>(q.1:Int) | none=>-1):=by
 unfold M_bi
 rw [iter_findI (f:=M_g xs v) xs (fun _ x=>v==x) (fun i _=>(i:Int)) () (fun i x hx _=>by
  have hlt:=(List.getElem?_eq_some_iff.1 hx).1
  have h1:decide ((i:Int) < xs.length)=true:=by simp [hlt]
  simp only [M_g,h1,cond_true,geti_nat,hx,Option.bind_some]
  rw [w64_eq (by omega) (by omega)]
  cases v==x <;> rfl) (by simp [M_g]) (by omega)]
 cases findI (fun _ x=>v==x) xs <;> rfl
theorem p_swFwd {ring:List Int} (h8:ring.length≤8) {a b:Nat} (ha:a < ring.length) (hb:b < ring.length):iter (M_s ring (b:Int)) N0 ((a:Int),[])=some (arcF ring a b):=by
 have hk:=kF_lt ha hb
 have:=iter_steps (f:=M_s ring (b:Int)) (fun j=>(((cy ring.length (a+j):Nat):Int),(List.range j).map fun j=>rz ring (cy ring.length (a+j)))) (kF ring.length a b) (arcF ring a b) (fun j hj=>by
  have hc:cy ring.length (a+j) < ring.length:=cy_lt (by omega)
  have hne:=cy_ne ha hb hj
  unfold M_s
  have h1:(((cy ring.length (a+j):Nat):Int) != (b:Int))=true:=bne_iff_ne.2 (by omega)
  simp only [h1,cond_true,geti_nat,rz_at hc,Option.bind_some,bnd]
  rw [grd_t (by simp; omega),Option.bind_some,grd_t (by omega),Option.bind_some,tm1 (by omega) hc,cy_suc (by omega),rng_suc (fun j=>rz ring (cy ring.length (a+j)))]
  rfl) (by
  unfold M_s
  simp only [cy_end ha hb,bne_self_eq_false,cond_false]; rfl) (by omega)
 simp only [Nat.add_zero,List.range_zero,List.map_nil] at this
 have e0:cy ring.length a=a:=by unfold cy; rw [if_pos ha]
 rw [e0] at this
 exact this
theorem p_swBck {ring:List Int} (h8:ring.length≤8) {a b:Nat} (ha:a < ring.length) (hb:b < ring.length):iter (M_t ring (b:Int)) N0 ((a:Int),[])=some (arcB ring a b):=by
 have hk:=kF_lt hb ha
 have:=iter_steps (f:=M_t ring (b:Int)) (fun j=>(((cb ring.length a j:Nat):Int),(List.range j).map fun j=>rz ring (cb ring.length a (j+1)))) (kF ring.length b a) (arcB ring a b) (fun j hj=>by
  have hc:cb ring.length a j < ring.length:=cb_lt ha (by omega)
  have hc2:cb ring.length a (j+1) < ring.length:=cb_lt ha (by omega)
  have hne:=cb_ne ha hb hj
  unfold M_t
  have h1:(((cb ring.length a j:Nat):Int) != (b:Int))=true:=bne_iff_ne.2 (by omega)
  simp only [h1,cond_true,bnd]
  rw [grd_t (by omega),Option.bind_some,tm2 (by omega) hc,cb_suc ha (by omega)]
  simp only [geti_nat,rz_at hc2,Option.bind_some]
  have e2:((List.range j).map fun j=>rz ring (cb ring.length a (j+1)))++[rz ring (cb ring.length a (j+1))]=(List.range (j+1)).map fun j=>rz ring (cb ring.length a (j+1)):=rng_suc (fun j=>rz ring (cb ring.length a (j+1))) j
  rw [grd_t (by simp; omega),Option.bind_some,e2]) (by
  unfold M_t
  simp only [cb_end ha hb,bne_self_eq_false,cond_false]; rfl) (by omega)
 simp only [List.range_zero,List.map_nil] at this
 have e0:cb ring.length a 0=a:=by unfold cb; rw [if_pos (by omega)]; omega
 rw [e0] at this
 exact this
theorem p_swC (r:TRoute) (e:Int) (h:r.Fibers.length≤1048576):M_bb r e=some (!keepR e r,e):=by
 unfold M_bb keepR
 rw [p_ContI _ _ h]; simp
theorem sw_filt (e:Int):∀ (xs:List TRoute),(∀ x∈xs,x.Fibers.length≤1048576)→filtS (fun t s=>M_bb t s) xs e=some (xs.filter (keepR e),e)
 | [],_=>by simp [filtS]
 | x :: xs, hx => by
   simp only [filtS,p_swC x e (hx x (by simp)),Option.bind_some]
   rw [sw_filt e xs fun y hy=>hx y (by simp [hy])]
   cases h:keepR e x with
   | true=>simp [h]
   | false=>simp [h]
theorem d_swDel (X:List TRoute) (a:Int):M_bj id (⟨0,[]⟩:TRoute) X a=delF (fun t s=>M_bb t s) (⟨0,[]⟩:TRoute) X a:=by
 have h1:M_az id (⟨0,[]⟩:TRoute) X=idxL (fun t s=>M_bb t s) X:=rfl
 have h2:M_r id (⟨0,[]⟩:TRoute) X=delL (fun t s=>M_bb t s) X:=rfl
 have h3:M_ca id (⟨0,[]⟩:TRoute) X a=idxF (fun t s=>M_bb t s) X a:=by
  unfold M_ca idxF
  rw [h1]
  congr 1
  funext o; cases o <;> rfl
 unfold M_bj delF
 rw [h2,h3]
theorem sort_two {n:TNetwork} {x y:TRoute} (hx:RtB n x) (hy:RtB n y) (p:TRoute→Bool):sortX (fun a b=>M_cb a b n) ([x,y].filter p)=some ((twoR n x y).filter p):=by
 have hm:∀ z∈[x,y].filter p,z=x∨z=y:=fun z hz=>by
  have:=(List.mem_filter.1 hz).1
  simpa using this
 have hB:∀ z∈[x,y].filter p,RtB n z:=fun z hz=>by rcases hm z hz with e | e <;> rw [e] <;> assumption
 have anti:∀ a b:TRoute,cmpR n a b < 0→¬ cmpR n b a < 0:=fun a b h=>by rw [cmpR_neg n a b]; omega
 have irr:∀ a:TRoute,¬ cmpR n a a < 0:=fun a h=>anti a a h h
 obtain ⟨ys,h1,h2,h3⟩:=sortX_spec (cmp:=fun a b=>M_cb a b n) (xs:=[x,y].filter p) (cmpR n) (by
  have:=List.length_filter_le p [x,y]
  simp only [List.length_cons,List.length_nil] at this; omega) (fun a ha b hb=>by
  unfold M_cb
  rw [p_compareRoutes (hB a ha) (hB b hb),Option.bind_some]) (fun a _=>irr a) (fun a ha b hb c hc g1 g2=>by
  rcases hm a ha with rfl | rfl <;> rcases hm b hb with rfl | rfl <;> rcases hm c hc with rfl | rfl <;> first | exact g1 | exact g2 | exact absurd g1 (irr _) | exact absurd g2 (irr _) | exact absurd g2 (anti _ _ g1)) (fun a ha b hb c hc g1 g2=>by
  rcases hm a ha with rfl | rfl <;> rcases hm b hb with rfl | rfl <;> rcases hm c hc with rfl | rfl <;> first | exact g1 | exact g2 | exact irr _)
 rw [h1]
 congr 1
 have one:∀ z:TRoute,ys.Perm [z]→ys=[z]:=fun z h=>List.perm_singleton.1 h
 unfold twoR
 cases hpx:p x with
 | true =>
   cases hpy:p y with
   | true =>
     have e:[x,y].filter p=[x,y]:=by simp [hpx,hpy]
     rw [e] at h2
     have hl:=h2.length_eq
     match ys,hl with
     | [u, v], _ =>
       have hu:u=x∨u=y:=by have:=h2.subset (show u∈[u,v] by simp); simpa using this
       have h4:¬ cmpR n v u < 0:=by simpa using h3
       rcases hu with rfl | rfl
       · have hv:v=y:=by
          have:=(List.perm_cons u).1 h2
          simpa using List.perm_singleton.1 this
         subst hv
         rw [if_neg h4]; simp [hpx,hpy]
       · have hv:v=x:=by
          have:=(List.perm_cons u).1 (h2.trans (List.Perm.swap u x []))
          simpa using List.perm_singleton.1 this
         subst hv
         by_cases h5:cmpR n u v < 0
         · rw [if_pos h5]; simp [hpx,hpy]
         · rw [if_neg h5]
           have h6:=cmpR_neg n u v
           have:u=v:=cmpR_zero (by omega:cmpR n u v=0)
           subst this
           simp [hpx]
   | false =>
     have e:[x,y].filter p=[x]:=by simp [hpx,hpy]
     rw [e] at h2
     rw [one _ h2]
     split <;> simp [hpx,hpy]
 | false =>
   cases hpy:p y with
   | true =>
     have e:[x,y].filter p=[y]:=by simp [hpx,hpy]
     rw [e] at h2
     rw [one _ h2]
     split <;> simp [hpx,hpy]
   | false =>
     have e:[x,y].filter p=[]:=by simp [hpx,hpy]
     rw [e] at h2
     rw [List.perm_nil.1 h2]
     split <;> simp [hpx,hpy]
theorem mem_findI {xs:List Int} {v:Int}:v∈xs↔(findI (fun _ x=>v==x) xs).isSome=true:=by
 cases h:findI (fun _ x=>v==x) xs with
 | none =>
   simp only [Option.isSome_none,Bool.false_eq_true,iff_false]
   intro hm
   obtain ⟨i,hi⟩:=List.getElem?_of_mem hm
   have:=findI_none.1 h i v hi
   simp at this
 | some q =>
   obtain ⟨h1,h2,_⟩:=findI_some.1 (show findI (fun _ x=>v==x) xs=some (q.1,q.2) from h)
   simp only [Option.isSome_some,iff_true]
   rw [eq_of_beq h2]
   exact List.mem_of_getElem? h1
theorem findI_rz {xs:List Int} {v:Int} {q:Nat×Int} (h:findI (fun _ x=>v==x) xs=some q):q.1 < xs.length∧rz xs q.1=v:=by
 obtain ⟨h1,h2,_⟩:=findI_some.1 (show findI (fun _ x=>v==x) xs=some (q.1,q.2) from h)
 have hlt:=(List.getElem?_eq_some_iff.1 h1).1
 refine ⟨hlt,?_⟩
 have:=rz_at hlt
 rw [h1] at this
 have e:=Option.some.inj this
 rw [← e]; exact (eq_of_beq h2).symm
theorem rtB_arc {n:TNetwork} {ring nd:List Int} (R:RingF n ring nd) {A:Int} (hA:0≤A∧A < 8) {a b:Nat} (ha:a < ring.length) (hb:b < ring.length):RtB n ⟨A,arcF ring a b⟩∧RtB n ⟨A,arcB ring a b⟩:=by
 have h8:=R.le8
 have k1:=kF_lt ha hb
 have k2:=kF_lt hb ha
 exact ⟨⟨by simp only [arcF_len]; omega,fun e he=>R.rg e (arcF_mem ha hb e he),hA⟩,⟨by simp only [arcB_len]; omega,fun e he=>R.rg e (arcB_mem ha hb e he),hA⟩⟩
theorem p_impl_SwitchedRoutes (n:TNetwork) (ring:List Int) (fiber:Int) (hz:z_Network n≤1048576) (hr:ring.length≤1048576):M_cc n ring fiber=some (swP n ring fiber):=by
 unfold M_cc swP
 have hz2:=z_net hz
 rw [p_impl_IsRing n ring hz hr]
 simp only [Option.bind_some,p_within]
 cases hR:isRingB n ring with
 | false=>rfl
 | true =>
   unfold isRingB at hR
   rw [Bool.and_eq_true] at hR
   obtain ⟨hn,hs⟩:=hR
   obtain ⟨b1,b2,b3⟩:=netOk_bR hn
   obtain ⟨nd,hp⟩:=Option.isSome_iff_exists.1 hs
   have R:=ringF hn hr hp
   have hl:=R.len
   have h8:=R.le8
   simp only [Bool.not_true,cond_false,Option.bind_some,Bool.true_and]
   rw [w64_eq (n:=(n.Fibers.length:Int) - 1) (by omega) (by omega)]
   cases hw:wi fiber 0 ((n.Fibers.length:Int) - 1) with
   | false=>rfl
   | true =>
     obtain ⟨f,f1,f2⟩:=geti_fib hw
     obtain ⟨l,l1,l2⟩:=p_around n ring hz2.2.1 hr
     obtain ⟨fa,fb,fc,_⟩:=netOk_fibR hn f2
     rw [l1,l2 nd hp]
     simp only [Bool.not_true,cond_false,Option.bind_some,f1,f2,hp,if_true,p_IdxI nd _ (by omega)]
     cases hA:findI (fun _ x=>f.A==x) nd with
     | none =>
       cases findI (fun _ x=>f.B==x) nd <;> rfl
     | some p =>
       have hpn:decide (((p.1:Nat):Int) < 0)=false:=by simp
       cases hB:findI (fun _ x=>f.B==x) nd with
       | none=>simp only [hpn,cond_false,Option.bind_some]; rfl
       | some q =>
         have hqn:decide (((q.1:Nat):Int) < 0)=false:=by simp
         obtain ⟨a1,a2⟩:=findI_rz hA
         obtain ⟨q1,q2⟩:=findI_rz hB
         obtain ⟨B1,B2⟩:=rtB_arc R (A:=f.A) ⟨fa,by omega⟩ (show p.1 < ring.length by omega) (show q.1 < ring.length by omega)
         have hfl:=sw_filt fiber [⟨f.A,arcF ring p.1 q.1⟩,⟨f.A,arcB ring p.1 q.1⟩] (fun x hx=>by
          simp only [List.mem_cons,List.not_mem_nil,or_false] at hx
          rcases hx with rfl | rfl
          · have:=B1.1; omega
          · have:=B2.1; omega)
         simp only [hpn,hqn,cond_false,Option.bind_some,p_swFwd h8 (show p.1 < ring.length by omega) (show q.1 < ring.length by omega),p_swBck h8 (show p.1 < ring.length by omega) (show q.1 < ring.length by omega),bnd,d_swDel]
         rw [delF_m _ _ (by simp) hfl,Option.bind_some]
         have e1:∀ (xs zs:List TRoute),subT (xs++zs) 0 xs.length=xs:=fun xs zs=>by rw [subT_drop]; simp
         have e2:∀ (xs zs ys:List TRoute),ys.length=xs.length→subT (over (xs++zs) 0 ys) 0 xs.length=ys:=fun xs zs ys hy=>by
          rw [subT_drop,over,if_pos (by simp; omega)]; simp [hy]
         have hsr:=sort_two B1 B2 (keepR fiber)
         simp only [e1,hsr,Option.bind_some]
         rw [e2 _ _ _ (sortX_len hsr)]
theorem p_spec_SwitchedRoutes (n:TNetwork) (ring:List Int) (fiber:Int) (hz:z_Network n≤1048576) (hr:ring.length≤1048576):M_dr n ring fiber=some (swP n ring fiber):=by
 unfold M_dr swP
 have hz2:=z_net hz
 rw [p_spec_IsRing n ring hz hr]
 simp only [Option.bind_some,p_l1In]
 cases hR:isRingB n ring with
 | false=>rfl
 | true =>
   unfold isRingB at hR
   rw [Bool.and_eq_true] at hR
   obtain ⟨hn,hs⟩:=hR
   obtain ⟨b1,b2,b3⟩:=netOk_bR hn
   obtain ⟨nd,hp⟩:=Option.isSome_iff_exists.1 hs
   have R:=ringF hn hr hp
   have hl:=R.len
   have h8:=R.le8
   simp only [Bool.not_true,cond_false,Option.bind_some,Bool.true_and]
   rw [w64_eq (n:=(n.Fibers.length:Int) - 1) (by omega) (by omega)]
   cases hw:wi fiber 0 ((n.Fibers.length:Int) - 1) with
   | false=>rfl
   | true =>
     obtain ⟨f,f1,f2⟩:=geti_fib hw
     have hwi:=wi_iff.1 hw
     obtain ⟨fa,fb,fc,_⟩:=netOk_fibR hn f2
     have ho:=(filI_len (ownB ring) n.Fibers 0)
     have hc:=(filI_len (fun i f=>!ownB ring i f&&crsB nd i f) n.Fibers 0)
     rw [p_l17Protected n ring nd hn hr (by omega) hp]
     simp only [Bool.not_true,cond_false,Option.bind_some,f1,f2,hp,if_true,p_l1Has (ownP n ring) fiber (by unfold ownP; omega),p_l1Has (crsP n ring nd) fiber (by unfold crsP; omega),← any_mem]
     have hfn:n.Fibers[fiber.toNat]?=some f:=f2
     have hin:(fiber∈ownP n ring∨fiber∈crsP n ring nd)↔f.A∈nd∧f.B∈nd:=by
      have g:∀ p:Nat→TFiber→Bool,fiber∈filI p 0 n.Fibers↔p fiber.toNat f=true:=fun p=>by
       rw [filI_mem]
       constructor
       · rintro ⟨j,x,h1,h2,h3⟩
         rw [Nat.zero_add] at h2 h3
         have e:j=fiber.toNat:=by omega
         rw [e] at h1 h2
         rw [hfn] at h1
         rw [Option.some.inj h1]; exact h2
       · intro h
         exact ⟨fiber.toNat,f,hfn,by rw [Nat.zero_add]; exact h,by omega⟩
      unfold ownP crsP
      rw [g,g]
      unfold ownB crsB
      have et:((fiber.toNat:Nat):Int)=fiber:=by omega
      rw [et]
      simp only [decide_eq_true_eq,Bool.and_eq_true,Bool.not_eq_true',decide_eq_false_iff_not]
      constructor
      · rintro (h | ⟨_,h⟩)
        · obtain ⟨i,hi⟩:=List.getElem?_of_mem h
          have hil:=(List.getElem?_eq_some_iff.1 hi).1
          rw [rz_at hil] at hi
          exact R.ends i f hil (by rw [Option.some.inj hi]; exact hfn)
        · exact h
      · intro h
        by_cases hm:fiber∈ring
        · exact .inl hm
        · exact .inr ⟨hm,h⟩
     have hcond:((cond (!decide (fiber∈ownP n ring)) (some (!decide (fiber∈crsP n ring nd))) (some false):Option Bool))=some (!(decide (f.A∈nd)&&decide (f.B∈nd))):=by
      by_cases h1:fiber∈ownP n ring
      · obtain ⟨g1,g2⟩:=hin.1 (.inl h1)
        simp [h1,g1,g2]
      · by_cases h2:fiber∈crsP n ring nd
        · obtain ⟨g1,g2⟩:=hin.1 (.inr h2)
          simp [h1,h2,g1,g2]
        · have:¬ (f.A∈nd∧f.B∈nd):=fun h=>(hin.2 h).elim h1 h2
          have:(decide (f.A∈nd)&&decide (f.B∈nd))=false:=by
           rw [← Bool.decide_and,decide_eq_false this]
          simp [h1,h2,this]
     rw [hcond,Option.bind_some]
     cases hA:findI (fun _ x=>f.A==x) nd with
     | none =>
       have:¬ f.A∈nd:=fun h=>by have:=mem_findI.1 h; rw [hA] at this; cases this
       simp [this]
     | some p =>
       have hmA:f.A∈nd:=mem_findI.2 (by rw [hA]; rfl)
       cases hB:findI (fun _ x=>f.B==x) nd with
       | none =>
         have:¬ f.B∈nd:=fun h=>by have:=mem_findI.1 h; rw [hB] at this; cases this
         simp [this]
       | some q =>
         have hmB:f.B∈nd:=mem_findI.2 (by rw [hB]; rfl)
         obtain ⟨a1,a2⟩:=findI_rz hA
         obtain ⟨q1,q2⟩:=findI_rz hB
         have ha:p.1 < ring.length:=by omega
         have hb:q.1 < ring.length:=by omega
         have hab:p.1 ≠ q.1:=fun e=>by rw [e,q2] at a2; omega
         obtain ⟨B1,B2⟩:=rtB_arc R (A:=f.A) ⟨fa,by omega⟩ ha hb
         have g1:=p_l17Arc hn hr hp ha hb
         have g2:=p_l17Arc hn hr hp hb ha
         have g3:=p_arcRev hn hz R ha hb hab
         rw [a2,q2] at g1 g2
         rw [a2,q2] at g3
         rw [decide_eq_true hmA,decide_eq_true hmB]
         simp only [Bool.and_self,Bool.not_true,cond_false,g1,g2,g3,Option.bind_some,p_l4Compare hn B2 B1]
         have hk:∀ (r:TRoute),RtB n r→M_a r.Fibers fiber=some (!keepR fiber r):=fun r h=>by
          rw [p_l1Has _ _ (by have:=h.1; omega),← any_mem]; unfold keepR; simp
         have k1:=hk _ B1
         have k2:=hk _ B2
         simp only at k1 k2
         unfold twoR
         by_cases hlt:cmpR n ⟨f.A,arcB ring p.1 q.1⟩ ⟨f.A,arcF ring p.1 q.1⟩ < 0
         · rw [if_pos hlt,decide_eq_true hlt]
           simp only [cond_true,Option.bind_some,k1,k2,bnd,Bool.not_not]
           cases e1:keepR fiber ⟨f.A,arcF ring p.1 q.1⟩ <;> cases e2:keepR fiber ⟨f.A,arcB ring p.1 q.1⟩ <;> simp [e1,e2,grd]
         · rw [if_neg hlt,decide_eq_false hlt]
           simp only [cond_false,Option.bind_some,k1,k2,bnd,Bool.not_not]
           cases e1:keepR fiber ⟨f.A,arcF ring p.1 q.1⟩ <;> cases e2:keepR fiber ⟨f.A,arcB ring p.1 q.1⟩ <;> simp [e1,e2,grd]
theorem zr_SwitchedRoutes (n:TNetwork) (ring:List Int) (fiber:Int) (hz:z_Network n≤1048576) (hr:ring.length≤1048576):z_RouteS (swP n ring fiber).1≤1048576:=by
 unfold swP
 split
 · rename_i hc
   rw [Bool.and_eq_true] at hc
   have hR:=hc.1
   unfold isRingB at hR
   rw [Bool.and_eq_true] at hR
   split
   · rename_i nd f hp hf
     have R:=ringF hR.1 hr hp
     have hl:=R.len
     have h8:=R.le8
     split
     · rename_i p q hA hB
       obtain ⟨a1,a2⟩:=findI_rz hA
       obtain ⟨q1,q2⟩:=findI_rz hB
       have ha:p.1 < ring.length:=by omega
       have hb:q.1 < ring.length:=by omega
       have k1:=kF_lt ha hb
       have k2:=kF_lt hb ha
       have key:∀ xs:List TRoute,xs.length≤2→(∀ x∈xs,x.Fibers.length≤8)→z_RouteS xs≤1048576:=fun xs h1 h2=>by
        unfold z_RouteS z_Route z_IntS
        match xs,h1 with
        | [],_=>simp
        | [x],_=>have:=h2 x (by simp); simp; omega
        | [x,y],_=>have:=h2 x (by simp); have:=h2 y (by simp); simp; omega
       refine key _ (Nat.le_trans (List.length_filter_le _ _) ?_) fun x hx=>?_
       · unfold twoR; split <;> simp
       · have hx:=(List.mem_filter.1 hx).1
         have:x=⟨f.A,arcF ring p.1 q.1⟩∨x=⟨f.A,arcB ring p.1 q.1⟩:=by
          unfold twoR at hx
          split at hx
          · simp only [List.mem_cons,List.not_mem_nil,or_false] at hx; exact hx.symm
          · simp only [List.mem_cons,List.not_mem_nil,or_false] at hx; exact hx
         rcases this with rfl | rfl
         · simp only [arcF_len]; omega
         · simp only [arcB_len]; omega
     · decide
   · decide
 · decide
end Vs

namespace Vs
open Go
theorem subT_len {α:Type} {xs:List α} {n:Nat} (h:xs.length=n):subT xs 0 n=xs:=by subst h; exact subT_all xs
theorem p_FnExactSwitchedRoutes (x1:TNetwork) (x2:List Int) (x3:Int) (o1:ok_Network x1) (o2:ok_IntS x2):M_du x1 x2 x3=some true:=by
 unfold M_du
 by_cases hc1:(1048576:Int) < (x2.length:Int)
 · simp [hc1]
 simp only [hc1,decide_false,cond_false]
 rw [p_szNetwork x1 _ (by omega) (by omega) o1]
 simp only [Option.bind_some]
 by_cases hc2:(1048576:Int) - z_Network x1 < 0
 · simp [hc2]
 simp only [hc2,if_false,decide_false,cond_false]
 have z2:z_IntS x2≤1048576:=by unfold z_IntS; omega
 have z1:z_Network x1≤1048576:=by omega
 have zr:=zr_SwitchedRoutes x1 x2 x3 z1 z2
 have zr1:=zr
 have w1:=w_ea x1
 have f1:=mkr_fst_Network 1 x1
 have m1:=p_markNetwork x1 1 (by omega) (by omega) z1
 have n1:decide ((mkr_Network 1 x1).1 < 0)=false:=decide_eq_false (by omega)
 have w2:=w_dz x2
 have f2:=markL_fst mk_IntS w_IntS hw_IntS x2 ((mkr_Network 1 x1).1)
 have m2:=p_markIntS x2 ((mkr_Network 1 x1).1) (by omega) (by omega) z2
 have n2:decide ((markL mk_IntS ((mkr_Network 1 x1).1) x2).1 < 0)=false:=decide_eq_false (by omega)
 have w3:=w_eb (swP x1 x2 x3).1
 have f3:=markL_fst mk_RouteS w_be hw_RouteS (swP x1 x2 x3).1 1
 have m3:=p_markRouteS (swP x1 x2 x3).1 1 (by omega) (by omega) zr1
 have n3:decide ((markL mk_RouteS 1 (swP x1 x2 x3).1).1 < 0)=false:=decide_eq_false (by omega)
 have grZ30:=p_heldRouteS (swP x1 x2 x3).1 1 (by omega) (by omega) zr1
 have grZ40:=p_heldRouteS (swP x1 x2 x3).1 1 (by omega) (by omega) zr1
 simp only [p_spec_SwitchedRoutes x1 x2 x3 z1 z2,p_impl_SwitchedRoutes x1 x2 x3 z1 z2,p_toNetwork x1 z1,p_toIntS x2 z2,p_eqRouteS ((swP x1 x2 x3).1) zr1,p_eqNetwork x1 z1,p_eqIntS x2 z2,m1,n1,m2,n2,m3,n3,subT_len (markL_len mk_RouteS (swP x1 x2 x3).1 1),grZ30,grZ40,Option.bind_some,Bool.not_true,beq_self_eq_true,bnd,bne_self_eq_false,cond_false,cond_true]
end Vs

