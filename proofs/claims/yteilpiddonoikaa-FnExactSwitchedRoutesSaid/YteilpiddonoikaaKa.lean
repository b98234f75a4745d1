/-
  Part of the proof that the law FnExactSwitchedRoutes returns true at every input; no condition beside the row's own.
-/
import Derived.Test.YteilpiddonoikaaXe
import Derived.Test.YteilpiddonoikaaChecked
import Derived.KernelRfl
import Derived.Shelf.SlSortCmp.NoneTotal
set_option linter.defProp false
set_option linter.unusedSimpArgs false
set_option linter.unusedVariables false
namespace Vs
open Go
structure TFiber where
 A:Int
 B:Int
 Length:Int
 Risk:Int
 deriving DecidableEq
def e_TFiber (f:Fl) (x:TFiber):AV:=.agg [.i x.A,.i x.B,.i x.Length,.i x.Risk]
theorem e_TFiber_nrm (f:Fl) (x:TFiber):(e_TFiber f x).nrm=e_TFiber .o x:=by simp [e_TFiber,nrm_sc,nrm_lst,nrm_agg,nrm_sc]
theorem e_TFiber_nrmm (f:Fl) (xs:List TFiber):(xs.map (e_TFiber f)).map AV.nrm=xs.map (e_TFiber .o):=by simp [e_TFiber_nrm]
theorem e_TFiber_als (f:Fl) (x:TFiber):(e_TFiber f x).als=e_TFiber f.als x:=by simp [e_TFiber,als_sc,als_lst,als_agg,nrm_sc]
theorem e_TFiber_alsm (f:Fl) (xs:List TFiber):(xs.map (e_TFiber f)).map AV.als=xs.map (e_TFiber f.als):=by simp [e_TFiber_als]
theorem e_TFiber_alsc (f:Fl):AV.als ∘ e_TFiber f=e_TFiber f.als:=by funext x; simp [e_TFiber_als]
theorem e_TFiber_fix (f:Fl) (x:TFiber):(e_TFiber f x).fix=e_TFiber f.fix x:=by simp [e_TFiber,fix_sc,fix_lst,fix_agg,nrm_sc]
theorem e_TFiber_fixm (f:Fl) (xs:List TFiber):(xs.map (e_TFiber f)).map AV.fix=xs.map (e_TFiber f.fix):=by simp [e_TFiber_fix]
theorem e_TFiber_fz (x:TFiber):(e_TFiber .o x).fz=true:=by simp [e_TFiber,AV.i,AV.b,AV.z,fz_sc,fz_lsto,fz_agg,fzL_nil,fzL_cons,fzL_mi,fzL_mb,fzL_mz,fzL_m8,fzL_m64,ouL_m8,ouL_m64,ou_sc,ou_lstu,ou_agg,ouL_nil,ouL_cons,ouL_mi,ouL_mb,ouL_mz]
theorem e_TFiber_fzm (xs:List TFiber):fzL (xs.map (e_TFiber .o))=true:=fzL_of e_TFiber_fz xs
theorem e_TFiber_ou (x:TFiber):(e_TFiber .u x).ouB=true:=by simp [e_TFiber,AV.i,AV.b,AV.z,fz_sc,fz_lsto,fz_agg,fzL_nil,fzL_cons,fzL_mi,fzL_mb,fzL_mz,fzL_m8,fzL_m64,ouL_m8,ouL_m64,ou_sc,ou_lstu,ou_agg,ouL_nil,ouL_cons,ouL_mi,ouL_mb,ouL_mz]
theorem e_TFiber_oum (xs:List TFiber):ouBL (xs.map (e_TFiber .u))=true:=ouL_of e_TFiber_ou xs
structure TNetwork where
 Nodes:List ByteArray
 Fibers:List TFiber
def e_TNetwork (f:Fl) (x:TNetwork):AV:=.agg [.lst f 1 (x.Nodes.map AV.z),.lst f 4 (x.Fibers.map (e_TFiber f))]
theorem e_TNetwork_nrm (f:Fl) (x:TNetwork):(e_TNetwork f x).nrm=e_TNetwork .o x:=by simp [e_TNetwork,nrm_sc,nrm_lst,nrm_agg,e_TFiber_nrm,map_nrm_i,map_nrm_z]
theorem e_TNetwork_nrmm (f:Fl) (xs:List TNetwork):(xs.map (e_TNetwork f)).map AV.nrm=xs.map (e_TNetwork .o):=by simp [e_TNetwork_nrm]
theorem e_TNetwork_als (f:Fl) (x:TNetwork):(e_TNetwork f x).als=e_TNetwork f.als x:=by simp [e_TNetwork,als_sc,als_lst,als_agg,e_TFiber_als,map_als_i,map_als_z]
theorem e_TNetwork_alsm (f:Fl) (xs:List TNetwork):(xs.map (e_TNetwork f)).map AV.als=xs.map (e_TNetwork f.als):=by simp [e_TNetwork_als]
theorem e_TNetwork_alsc (f:Fl):AV.als ∘ e_TNetwork f=e_TNetwork f.als:=by funext x; simp [e_TNetwork_als]
theorem e_TNetwork_fix (f:Fl) (x:TNetwork):(e_TNetwork f x).fix=e_TNetwork f.fix x:=by simp [e_TNetwork,fix_sc,fix_lst,fix_agg,e_TFiber_fix,map_fix_i,map_fix_z]
theorem e_TNetwork_fixm (f:Fl) (xs:List TNetwork):(xs.map (e_TNetwork f)).map AV.fix=xs.map (e_TNetwork f.fix):=by simp [e_TNetwork_fix]
theorem e_TNetwork_fz (x:TNetwork):(e_TNetwork .o x).fz=true:=by simp [e_TNetwork,AV.i,AV.b,AV.z,fz_sc,fz_lsto,fz_agg,fzL_nil,fzL_cons,fzL_mi,fzL_mb,fzL_mz,fzL_m8,fzL_m64,ouL_m8,ouL_m64,ou_sc,ou_lstu,ou_agg,ouL_nil,ouL_cons,ouL_mi,ouL_mb,ouL_mz,e_TFiber_fzm,e_TFiber_oum]
theorem e_TNetwork_fzm (xs:List TNetwork):fzL (xs.map (e_TNetwork .o))=true:=fzL_of e_TNetwork_fz xs
theorem e_TNetwork_ou (x:TNetwork):(e_TNetwork .u x).ouB=true:=by simp [e_TNetwork,AV.i,AV.b,AV.z,fz_sc,fz_lsto,fz_agg,fzL_nil,fzL_cons,fzL_mi,fzL_mb,fzL_mz,fzL_m8,fzL_m64,ouL_m8,ouL_m64,ou_sc,ou_lstu,ou_agg,ouL_nil,ouL_cons,ouL_mi,ouL_mb,ouL_mz,e_TFiber_fzm,e_TFiber_oum]
theorem e_TNetwork_oum (xs:List TNetwork):ouBL (xs.map (e_TNetwork .u))=true:=ouL_of e_TNetwork_ou xs
structure TRoute where
 Start:Int
 Fibers:List Int
 deriving DecidableEq
def e_TRoute (f:Fl) (x:TRoute):AV:=.agg [.i x.Start,.lst f 1 (x.Fibers.map AV.i)]
theorem e_TRoute_nrm (f:Fl) (x:TRoute):(e_TRoute f x).nrm=e_TRoute .o x:=by simp [e_TRoute,nrm_sc,nrm_lst,nrm_agg,map_nrm_i]
theorem e_TRoute_nrmm (f:Fl) (xs:List TRoute):(xs.map (e_TRoute f)).map AV.nrm=xs.map (e_TRoute .o):=by simp [e_TRoute_nrm]
theorem e_TRoute_als (f:Fl) (x:TRoute):(e_TRoute f x).als=e_TRoute f.als x:=by simp [e_TRoute,als_sc,als_lst,als_agg,map_als_i]
theorem e_TRoute_alsm (f:Fl) (xs:List TRoute):(xs.map (e_TRoute f)).map AV.als=xs.map (e_TRoute f.als):=by simp [e_TRoute_als]
theorem e_TRoute_alsc (f:Fl):AV.als ∘ e_TRoute f=e_TRoute f.als:=by funext x; simp [e_TRoute_als]
theorem e_TRoute_fix (f:Fl) (x:TRoute):(e_TRoute f x).fix=e_TRoute f.fix x:=by simp [e_TRoute,fix_sc,fix_lst,fix_agg,map_fix_i]
theorem e_TRoute_fixm (f:Fl) (xs:List TRoute):(xs.map (e_TRoute f)).map AV.fix=xs.map (e_TRoute f.fix):=by simp [e_TRoute_fix]
theorem e_TRoute_fz (x:TRoute):(e_TRoute .o x).fz=true:=by simp [e_TRoute,AV.i,AV.b,AV.z,fz_sc,fz_lsto,fz_agg,fzL_nil,fzL_cons,fzL_mi,fzL_mb,fzL_mz,fzL_m8,fzL_m64,ouL_m8,ouL_m64,ou_sc,ou_lstu,ou_agg,ouL_nil,ouL_cons,ouL_mi,ouL_mb,ouL_mz]
theorem e_TRoute_fzm (xs:List TRoute):fzL (xs.map (e_TRoute .o))=true:=fzL_of e_TRoute_fz xs
theorem e_TRoute_ou (x:TRoute):(e_TRoute .u x).ouB=true:=by simp [e_TRoute,AV.i,AV.b,AV.z,fz_sc,fz_lsto,fz_agg,fzL_nil,fzL_cons,fzL_mi,fzL_mb,fzL_mz,fzL_m8,fzL_m64,ouL_m8,ouL_m64,ou_sc,ou_lstu,ou_agg,ouL_nil,ouL_cons,ouL_mi,ouL_mb,ouL_mz]
theorem e_TRoute_oum (xs:List TRoute):ouBL (xs.map (e_TRoute .u))=true:=ouL_of e_TRoute_ou xs
def tz_TRoute {H:World→Prop}:Tok H e_TRoute 2:=⟨(⟨0,[]⟩:TRoute),#[.int .i64 0,.slice none 0 0],rfl,by simp [Value.oneCell'],fun W S B _=>(constOk_rep (v:=.agg #[.int .i64 0,.slice none 0 0]) (a:=e_TRoute .s (⟨0,[]⟩:TRoute)) rfl W S B).1⟩
theorem tz_TRoute_E {H:World→Prop}:tokE (tz_TRoute (H:=H))=.agg [.i 0,.sc (.slice none 0 0)]:=rfl
theorem tz_TRoute_F {H:World→Prop}:(tz_TRoute (H:=H)).Free:=fun W S B=>(constOk_rep (v:=.agg #[.int .i64 0,.slice none 0 0]) (a:=e_TRoute .u (⟨0,[]⟩:TRoute)) rfl W S B).1
theorem sh_TRoute (x:TRoute):(e_TRoute .u x).shs=e_TRoute .s x:=by simp [e_TRoute,AV.shs,shsL,shsL_map AV.i AV.i fun _=>rfl]
def M_ac (aZ0:List ByteArray) (sZ2:Int×Int):Option ((Int×Int) ⊕ (Int ⊕ Int)) :=
 cond (decide (sZ2.2 < (aZ0.length:Int))) ((geti aZ0 sZ2.2).bind fun yZ4=>cond (decide ((IntKind.wrap .i64 (sZ2.1 - (yZ4.size:Int))) < 0)) (some (.inr (.inr (-1)))) (some (.inl (IntKind.wrap .i64 (sZ2.1 - (yZ4.size:Int)),IntKind.wrap .i64 (sZ2.2+1))))) (some (.inr (.inl sZ2.1)))
def M_ct (aZ0:List ByteArray) (leftZ0:Int):Option Int :=
 cond (decide ((IntKind.wrap .i64 (leftZ0 - (aZ0.length:Int))) < 0)) (some (-1)) ((iter (M_ac aZ0) N0 (IntKind.wrap .i64 (leftZ0 - (aZ0.length:Int)),0)).bind fun oZ6=>(match oZ6 with | .inl vZ7=>some vZ7 | .inr xZ8=>some xZ8))
def M_cw (aZ0:List TFiber) (leftZ0:Int):Option Int :=
 cond (decide ((IntKind.wrap .i64 (leftZ0 - (aZ0.length:Int))) < 0)) (some (-1)) (some (IntKind.wrap .i64 (leftZ0 - (aZ0.length:Int))))
def M_cz (aZ0:TNetwork) (leftZ0:Int):Option Int :=
 (M_ct aZ0.Nodes leftZ0).bind fun rZ1=>cond (decide (rZ1 < 0)) (some (-1)) ((M_cw aZ0.Fibers rZ1).bind fun rZ3=>cond (decide (rZ3 < 0)) (some (-1)) (some rZ3))
def M_ad (aZ0:List ByteArray) (sZ4:Int×List ByteArray):Option ((Int×List ByteArray) ⊕ (List ByteArray)) :=
 cond (decide (sZ4.1 < (aZ0.length:Int))) ((geti aZ0 sZ4.1).bind fun yZ6=>(grd (0≤sZ4.1∧sZ4.1 < (sZ4.2.length:Int))).bind fun kZ7=>(sZ4.2[(Int.toNat sZ4.1)]?).bind fun yZ8=>bnd (sZ4.2.set (Int.toNat sZ4.1) yZ6) fun lZ9=>some (.inl (IntKind.wrap .i64 (sZ4.1+1),lZ9))) (some (.inr sZ4.2))
def M_cu (aZ0:List ByteArray):Option (List ByteArray) :=
 (grd (0≤(aZ0.length:Int)∧(aZ0.length:Int)≤(aZ0.length:Int)∧(aZ0.length:Int) * ((16:Nat):Int)≤140737488355328∧(aZ0.length:Int)≤9223372036854775807)).bind fun uZ1=>bnd (List.replicate (Int.toNat (aZ0.length:Int)) (⟨#[]⟩:ByteArray)) fun lZ2=>(iter (M_ad aZ0) N0 (0,lZ2)).bind fun oZ11=>some oZ11
def M_cf (aZ0:TFiber):Option TFiber :=
 some (⟨aZ0.A,aZ0.B,aZ0.Length,aZ0.Risk⟩:TFiber)
def M_af (aZ0:List TFiber) (sZ4:Int×List TFiber):Option ((Int×List TFiber) ⊕ (List TFiber)) :=
 cond (decide (sZ4.1 < (aZ0.length:Int))) ((geti aZ0 sZ4.1).bind fun yZ6=>(M_cf yZ6).bind fun rZ7=>(grd (0≤sZ4.1∧sZ4.1 < (sZ4.2.length:Int))).bind fun kZ8=>(sZ4.2[(Int.toNat sZ4.1)]?).bind fun yZ9=>bnd (sZ4.2.set (Int.toNat sZ4.1) rZ7) fun lZ10=>some (.inl (IntKind.wrap .i64 (sZ4.1+1),lZ10))) (some (.inr sZ4.2))
def M_cx (aZ0:List TFiber):Option (List TFiber) :=
 (grd (0≤(aZ0.length:Int)∧(aZ0.length:Int)≤(aZ0.length:Int)∧(aZ0.length:Int) * ((32:Nat):Int)≤140737488355328∧(aZ0.length:Int)≤9223372036854775807)).bind fun uZ1=>bnd (List.replicate (Int.toNat (aZ0.length:Int)) (⟨0,0,0,0⟩:TFiber)) fun lZ2=>(iter (M_af aZ0) N0 (0,lZ2)).bind fun oZ12=>some oZ12
def M_bf (aZ0:TNetwork):Option TNetwork :=
 (M_cu aZ0.Nodes).bind fun rZ1=>(M_cx aZ0.Fibers).bind fun rZ2=>some (⟨rZ1,rZ2⟩:TNetwork)
def M_ah (aZ0:List Int) (sZ4:Int×List Int):Option ((Int×List Int) ⊕ (List Int)) :=
 cond (decide (sZ4.1 < (aZ0.length:Int))) ((geti aZ0 sZ4.1).bind fun yZ6=>(grd (0≤sZ4.1∧sZ4.1 < (sZ4.2.length:Int))).bind fun kZ7=>(sZ4.2[(Int.toNat sZ4.1)]?).bind fun yZ8=>bnd (sZ4.2.set (Int.toNat sZ4.1) yZ6) fun lZ9=>some (.inl (IntKind.wrap .i64 (sZ4.1+1),lZ9))) (some (.inr sZ4.2))
def M_bg (aZ0:List Int):Option (List Int) :=
 (grd (0≤(aZ0.length:Int)∧(aZ0.length:Int)≤(aZ0.length:Int)∧(aZ0.length:Int) * ((8:Nat):Int)≤140737488355328∧(aZ0.length:Int)≤9223372036854775807)).bind fun uZ1=>bnd (List.replicate (Int.toNat (aZ0.length:Int)) 0) fun lZ2=>(iter (M_ah aZ0) N0 (0,lZ2)).bind fun oZ11=>some oZ11
def M_b (xZ0:Int) (aZ0:Int) (bZ0:Int):Option Bool :=
 cond (decide (aZ0≤xZ0)) (some (decide (xZ0≤bZ0))) (some false)
def M_co (bZ0:Int):Option Bool :=
 cond (decide (97≤bZ0)) (cond (decide (bZ0≤122)) (some true) (cond (decide (48≤bZ0)) (some (decide (bZ0≤57))) (some false))) (cond (decide (48≤bZ0)) (some (decide (bZ0≤57))) (some false))
def M_w (sZ0:ByteArray) (sZ7:Int):Option (Int ⊕ (Unit ⊕ Bool)) :=
 cond (decide (sZ7 < (sZ0.size:Int))) ((getz sZ0 sZ7).bind fun yZ9=>(M_co (yZ9.toNat:Int)).bind fun rZ10=>cond (!rZ10) (some (.inr (.inr false))) (some (.inl (IntKind.wrap .i64 (sZ7+1))))) (some (.inr (.inl ())))
def M_cp (sZ0:ByteArray):Option Bool :=
 ((M_b (sZ0.size:Int) 1 8).bind fun rZ1=>cond (!rZ1) (some true) ((getz sZ0 0).bind fun yZ3=>cond (decide ((yZ3.toNat:Int) < 97)) (some true) (some (decide (122 < (yZ3.toNat:Int))))):Option Bool).bind fun oZ5=>cond (oZ5) (some false) ((iter (M_w sZ0) N0 0).bind fun oZ12=>(match oZ12 with | .inl vZ13=>some true | .inr xZ14=>some xZ14))
def M_x (listZ0:List ByteArray) (nameZ0:ByteArray) (sZ1:Int):Option (Int ⊕ (Unit ⊕ Int)) :=
 cond (decide (sZ1 < (listZ0.length:Int))) ((geti listZ0 sZ1).bind fun yZ3=>cond (yZ3.toList==nameZ0.toList) (some (.inr (.inr sZ1))) (some (.inl (IntKind.wrap .i64 (sZ1+1))))) (some (.inr (.inl ())))
def M_cq (listZ0:List ByteArray) (nameZ0:ByteArray):Option Int :=
 (iter (M_x listZ0 nameZ0) N0 0).bind fun oZ5=>(match oZ5 with | .inl vZ6=>some (-1) | .inr xZ7=>some xZ7)
def M_dn (fZ0:TFiber) (nodesZ0:Int):Option Bool :=
 (M_b fZ0.A 0 (IntKind.wrap .i64 (nodesZ0 - 1))).bind fun rZ1=>cond (rZ1) ((M_b fZ0.B (IntKind.wrap .i64 (fZ0.A+1)) (IntKind.wrap .i64 (nodesZ0 - 1))).bind fun rZ3=>cond (rZ3) ((M_b fZ0.Length 1 5000).bind fun rZ5=>cond (rZ5) ((M_b fZ0.Risk 0 9).bind fun rZ7=>some rZ7) (some false)) (some false)) (some false)
def M_do (fZ0:TFiber) (gZ0:TFiber):Option Int :=
 cond (fZ0.A != gZ0.A) (some (IntKind.wrap .i64 (fZ0.A - gZ0.A))) (cond (fZ0.B != gZ0.B) (some (IntKind.wrap .i64 (fZ0.B - gZ0.B))) (cond (fZ0.Length != gZ0.Length) (some (IntKind.wrap .i64 (fZ0.Length - gZ0.Length))) (some (IntKind.wrap .i64 (fZ0.Risk - gZ0.Risk)))))
def M_at (nZ0:TNetwork) (sZ5:Int):Option (Int ⊕ (Unit ⊕ Bool)) :=
 cond (decide (sZ5 < (nZ0.Nodes.length:Int))) (((geti nZ0.Nodes sZ5).bind fun yZ7=>(M_cp yZ7).bind fun rZ8=>cond (!rZ8) (some true) ((M_cq nZ0.Nodes yZ7).bind fun rZ10=>some (rZ10 != sZ5)):Option Bool).bind fun oZ11=>cond (oZ11) (some (.inr (.inr false))) (some (.inl (IntKind.wrap .i64 (sZ5+1))))) (some (.inr (.inl ())))
def M_au (nZ0:TNetwork) (sZ16:Int):Option (Int ⊕ (Unit ⊕ Bool)) :=
 cond (decide (sZ16 < (nZ0.Fibers.length:Int))) (((geti nZ0.Fibers sZ16).bind fun yZ18=>(M_dn yZ18 (nZ0.Nodes.length:Int)).bind fun rZ19=>cond (!rZ19) (some true) (cond (decide (0 < sZ16)) ((geti nZ0.Fibers (IntKind.wrap .i64 (sZ16 - 1))).bind fun yZ22=>(M_do yZ22 yZ18).bind fun rZ23=>some (decide (0 < rZ23))) (some false)):Option Bool).bind fun oZ24=>cond (oZ24) (some (.inr (.inr false))) (some (.inl (IntKind.wrap .i64 (sZ16+1))))) (some (.inr (.inl ())))
def M_bw (nZ0:TNetwork):Option Bool :=
 ((M_b (nZ0.Nodes.length:Int) 2 8).bind fun rZ1=>cond (!rZ1) (some true) (some (decide (14 < (nZ0.Fibers.length:Int)))):Option Bool).bind fun oZ3=>cond (oZ3) (some false) ((iter (M_at nZ0) N0 0).bind fun oZ13=>(match oZ13 with | .inl vZ14=>(iter (M_au nZ0) N0 0).bind fun oZ26=>(match oZ26 with | .inl vZ27=>some true | .inr xZ28=>some xZ28) | .inr xZ15=>some xZ15))
def M_aa (lZ0:List Int) (nZ0:Int) (sZ1:Int):Option (Int ⊕ (Unit ⊕ Bool)) :=
 cond (decide (sZ1 < (lZ0.length:Int))) ((geti lZ0 sZ1).bind fun yZ3=>cond (yZ3==nZ0) (some (.inr (.inr true))) (some (.inl (IntKind.wrap .i64 (sZ1+1))))) (some (.inr (.inl ())))
def M_a (lZ0:List Int) (nZ0:Int):Option Bool :=
 (iter (M_aa lZ0 nZ0) N0 0).bind fun oZ5=>(match oZ5 with | .inl vZ6=>some false | .inr xZ7=>some xZ7)
def M_bl (nZ0:TNetwork) (fiberZ0:Int) (nodeZ0:Int):Option Int :=
 (geti nZ0.Fibers fiberZ0).bind fun yZ1=>cond (nodeZ0==yZ1.A) (some yZ1.B) (cond (nodeZ0==yZ1.B) (some yZ1.A) (some (-1)))
def M_i (nZ0:TNetwork) (ringZ0:List Int) (sZ1:Int×Int×List Int):Option ((Int×Int×List Int) ⊕ ((Int×List Int) ⊕ (List Int×Bool))) :=
 cond (decide (sZ1.2.1 < (ringZ0.length:Int))) (((geti ringZ0 sZ1.2.1).bind fun yZ3=>(M_b yZ3 0 (IntKind.wrap .i64 ((nZ0.Fibers.length:Int) - 1))).bind fun rZ4=>cond (!rZ4) (some true) ((slT ringZ0 sZ1.2.1).bind fun lZ6=>(M_a lZ6 yZ3).bind fun rZ7=>cond (rZ7) (some true) ((M_a sZ1.2.2 sZ1.1).bind fun rZ9=>some rZ9)):Option Bool).bind fun oZ10=>cond (oZ10) (some (.inr (.inr (sZ1.2.2,false)))) (bnd ([sZ1.1]) fun lZ12=>(grd ((sZ1.2.2.length+1) * 8≤140737488355328)).bind fun uZ15=>bnd (sZ1.2.2++lZ12) fun lZ16=>(geti ringZ0 sZ1.2.1).bind fun yZ19=>(M_bl nZ0 yZ19 sZ1.1).bind fun rZ20=>cond (decide (rZ20 < 0)) (some (.inr (.inr (lZ16,false)))) (some (.inl (rZ20,IntKind.wrap .i64 (sZ1.2.1+1),lZ16))))) (some (.inr (.inl (sZ1.1,sZ1.2.2))))
def M_bq (nZ0:TNetwork) (ringZ0:List Int) (fromZ0:Int):Option (List Int×Bool) :=
 (iter (M_i nZ0 ringZ0) N0 (fromZ0,0,[])).bind fun oZ22=>(match oZ22 with | .inl vZ23=>cond (vZ23.1==fromZ0) (some (vZ23.2,(decide (1 < (ringZ0.length:Int))))) (some (vZ23.2,false)) | .inr xZ24=>some xZ24)
def M_l (ringZ0:List Int) (sZ1:Int×List Int):Option ((Int×List Int) ⊕ (List Int)) :=
 cond (decide (0≤sZ1.1)) ((geti ringZ0 sZ1.1).bind fun yZ3=>bnd ([yZ3]) fun lZ4=>(grd ((sZ1.2.length+1) * 8≤140737488355328)).bind fun uZ7=>bnd (sZ1.2++lZ4) fun lZ8=>some (.inl (IntKind.wrap .i64 (sZ1.1 - 1),lZ8))) (some (.inr sZ1.2))
def M_cd (ringZ0:List Int):Option (List Int) :=
 (iter (M_l ringZ0) N0 (IntKind.wrap .i64 ((ringZ0.length:Int) - 1),[])).bind fun oZ11=>some oZ11
def M_u (aZ0:List Int) (bZ0:List Int) (sZ2:Int):Option (Int ⊕ (Unit ⊕ Bool)) :=
 cond (decide (sZ2 < (aZ0.length:Int))) ((geti aZ0 sZ2).bind fun yZ4=>(geti bZ0 sZ2).bind fun yZ5=>cond (yZ4 != yZ5) (some (.inr (.inr (decide (yZ4 < yZ5))))) (some (.inl (IntKind.wrap .i64 (sZ2+1))))) (some (.inr (.inl ())))
def M_cl (aZ0:List Int) (bZ0:List Int):Option Bool :=
 cond ((aZ0.length:Int) != (bZ0.length:Int)) (some (decide ((aZ0.length:Int) < (bZ0.length:Int)))) ((iter (M_u aZ0 bZ0) N0 0).bind fun oZ7=>(match oZ7 with | .inl vZ8=>some false | .inr xZ9=>some xZ9))
def M_d (sZ1:Int) (rZ3:List Int×Bool) (sZ5:Bool×Int):Option ((Bool×Int) ⊕ Bool) :=
 cond (decide (sZ5.2 < (rZ3.1.length:Int))) (cond (sZ5.1) ((grd (0≤sZ5.2∧sZ5.2 < (rZ3.1.length:Int))).bind fun kZ8=>(rZ3.1[(Int.toNat sZ5.2)]?).bind fun yZ9=>some (.inl (decide (sZ1≤yZ9),IntKind.wrap .i64 (sZ5.2+1)))) (some (.inl (false,IntKind.wrap .i64 (sZ5.2+1))))) (some (.inr sZ5.1))
def M_v (nZ0:TNetwork) (ringZ0:List Int) (sZ1:Int):Option (Int ⊕ (Unit ⊕ Bool)) :=
 cond (decide (sZ1 < (nZ0.Nodes.length:Int))) ((M_bq nZ0 ringZ0 sZ1).bind fun rZ3=>cond (!rZ3.2) (some (.inl (IntKind.wrap .i64 (sZ1+1)))) ((iter (M_d sZ1 rZ3) N0 (true,0)).bind fun oZ10=>cond (oZ10) ((M_cd ringZ0).bind fun rZ12=>(M_cl rZ12 ringZ0).bind fun rZ13=>some (.inr (.inr (!rZ13)))) (some (.inr (.inr false))))) (some (.inr (.inl ())))
def M_cm (nZ0:TNetwork) (ringZ0:List Int):Option Bool :=
 (iter (M_v nZ0 ringZ0) N0 0).bind fun oZ14=>(match oZ14 with | .inl vZ15=>some false | .inr xZ16=>some xZ16)
def M_dm (nZ0:TNetwork) (ringZ0:List Int):Option Bool :=
 (M_bw nZ0).bind fun rZ1=>cond (rZ1) ((M_cm nZ0 ringZ0).bind fun rZ3=>some rZ3) (some false)
def M_av (nZ0:TNetwork) (ringZ0:List Int) (sZ1:Int):Option (Int ⊕ (Unit ⊕ (List Int))) :=
 cond (decide (sZ1 < (nZ0.Nodes.length:Int))) ((M_bq nZ0 ringZ0 sZ1).bind fun rZ3=>cond (rZ3.2) (some (.inr (.inr rZ3.1))) (some (.inl (IntKind.wrap .i64 (sZ1+1))))) (some (.inr (.inl ())))
def M_bx (nZ0:TNetwork) (ringZ0:List Int):Option (List Int) :=
 (iter (M_av nZ0 ringZ0) N0 0).bind fun oZ5=>(match oZ5 with | .inl vZ6=>some ([]) | .inr xZ7=>some xZ7)
def M_c (nZ0:TNetwork) (ringZ0:List Int) (rZ1:List Int) (sZ2:Int×List Int×List Int):Option ((Int×List Int×List Int) ⊕ (List Int×List Int)) :=
 cond (decide (sZ2.1 < (nZ0.Fibers.length:Int))) ((M_a ringZ0 sZ2.1).bind fun rZ4=>cond (rZ4) (bnd ([sZ2.1]) fun lZ6=>(grd ((sZ2.2.1.length+1) * 8≤140737488355328)).bind fun uZ9=>bnd (sZ2.2.1++lZ6) fun lZ10=>some (.inl (IntKind.wrap .i64 (sZ2.1+1),lZ10,sZ2.2.2))) (((geti nZ0.Fibers sZ2.1).bind fun yZ13=>(M_a rZ1 yZ13.A).bind fun rZ14=>cond (rZ14) ((M_a rZ1 yZ13.B).bind fun rZ16=>some rZ16) (some false):Option Bool).bind fun oZ17=>cond (oZ17) (bnd ([sZ2.1]) fun lZ19=>(grd ((sZ2.2.2.length+1) * 8≤140737488355328)).bind fun uZ22=>bnd (sZ2.2.2++lZ19) fun lZ23=>some (.inl (IntKind.wrap .i64 (sZ2.1+1),sZ2.2.1,lZ23))) (some (.inl (IntKind.wrap .i64 (sZ2.1+1),sZ2.2.1,sZ2.2.2))))) (some (.inr (sZ2.2.1,sZ2.2.2)))
def M_dp (nZ0:TNetwork) (ringZ0:List Int):Option (List Int×List Int) :=
 (M_bx nZ0 ringZ0).bind fun rZ1=>(iter (M_c nZ0 ringZ0 rZ1) N0 (0,[],[])).bind fun oZ26=>some (oZ26.1,oZ26.2)
def M_o (fromZ0:Int) (rZ1:List Int) (sZ2:Int):Option (Int ⊕ Int) :=
 (grd (0≤sZ2∧sZ2 < (rZ1.length:Int))).bind fun kZ3=>(rZ1[(Int.toNat sZ2)]?).bind fun yZ4=>cond (yZ4 != fromZ0) (some (.inl (IntKind.wrap .i64 (sZ2+1)))) (some (.inr sZ2))
def M_p (nZ0:TNetwork) (ringZ0:List Int) (toZ0:Int) (sZ7:Int×Int×List Int):Option ((Int×Int×List Int) ⊕ (List Int)) :=
 cond (sZ7.2.1 != toZ0) ((geti ringZ0 sZ7.1).bind fun yZ9=>bnd ([yZ9]) fun lZ10=>(grd ((sZ7.2.2.length+1) * 8≤140737488355328)).bind fun uZ13=>bnd (sZ7.2.2++lZ10) fun lZ14=>(M_bl nZ0 yZ9 sZ7.2.1).bind fun rZ17=>(grd ((ringZ0.length:Int) ≠ 0)).bind fun uZ18=>some (.inl (Int.tmod (IntKind.wrap .i64 (sZ7.1+1)) (ringZ0.length:Int),rZ17,lZ14))) (some (.inr sZ7.2.2))
def M_by (nZ0:TNetwork) (ringZ0:List Int) (fromZ0:Int) (toZ0:Int):Option TRoute :=
 (M_bx nZ0 ringZ0).bind fun rZ1=>(iter (M_o fromZ0 rZ1) N0 0).bind fun oZ6=>(iter (M_p nZ0 ringZ0 toZ0) N0 (oZ6,fromZ0,[])).bind fun oZ19=>some (⟨fromZ0,oZ19⟩:TRoute)
def M_q (nZ0:TNetwork) (rZ0:TRoute) (sZ8:Int×List Int):Option ((Int×List Int) ⊕ ((List Int) ⊕ (List Int×Bool))) :=
 cond (decide (sZ8.1 < (rZ0.Fibers.length:Int))) ((geti rZ0.Fibers sZ8.1).bind fun yZ10=>(M_b yZ10 0 (IntKind.wrap .i64 ((nZ0.Fibers.length:Int) - 1))).bind fun rZ11=>cond (!rZ11) (some (.inr (.inr (sZ8.2,false)))) ((grd (0≤(IntKind.wrap .i64 ((sZ8.2.length:Int) - 1))∧(IntKind.wrap .i64 ((sZ8.2.length:Int) - 1)) < (sZ8.2.length:Int))).bind fun kZ13=>(sZ8.2[(Int.toNat (IntKind.wrap .i64 ((sZ8.2.length:Int) - 1)))]?).bind fun yZ14=>(M_bl nZ0 yZ10 yZ14).bind fun rZ15=>(cond (decide (rZ15 < 0)) (some true) ((M_a sZ8.2 rZ15).bind fun rZ17=>some rZ17):Option Bool).bind fun oZ18=>cond (oZ18) (some (.inr (.inr (sZ8.2,false)))) (bnd ([rZ15]) fun lZ20=>(grd ((sZ8.2.length+1) * 8≤140737488355328)).bind fun uZ23=>bnd (sZ8.2++lZ20) fun lZ24=>some (.inl (IntKind.wrap .i64 (sZ8.1+1),lZ24))))) (some (.inr (.inl sZ8.2)))
def M_bz (nZ0:TNetwork) (rZ0:TRoute):Option (List Int×Bool) :=
 bnd ([rZ0.Start]) fun lZ1=>((M_b rZ0.Start 0 (IntKind.wrap .i64 ((nZ0.Nodes.length:Int) - 1))).bind fun rZ4=>cond (!rZ4) (some true) (some ((rZ0.Fibers.length:Int)==0)):Option Bool).bind fun oZ6=>cond (oZ6) (some (lZ1,false)) ((iter (M_q nZ0 rZ0) N0 (0,lZ1)).bind fun oZ27=>(match oZ27 with | .inl vZ28=>some (vZ28,true) | .inr xZ29=>some xZ29))
def M_dw (nZ0:TNetwork) (rZ0:TRoute):Option Bool :=
 (M_bw nZ0).bind fun rZ1=>cond (!rZ1) (some false) ((M_bz nZ0 rZ0).bind fun rZ3=>some rZ3.2)
def M_dx (nZ0:TNetwork) (rZ0:TRoute):Option (List Int) :=
 (M_bz nZ0 rZ0).bind fun rZ1=>some rZ1.1
def M_dy (nZ0:TNetwork) (rZ0:TRoute):Option Int :=
 (M_dx nZ0 rZ0).bind fun rZ1=>(grd (0≤(IntKind.wrap .i64 ((rZ1.length:Int) - 1))∧(IntKind.wrap .i64 ((rZ1.length:Int) - 1)) < (rZ1.length:Int))).bind fun kZ2=>(rZ1[(Int.toNat (IntKind.wrap .i64 ((rZ1.length:Int) - 1)))]?).bind fun yZ3=>some yZ3
def M_ay (rZ0:TRoute) (sZ4:Int×List Int):Option ((Int×List Int) ⊕ (List Int)) :=
 cond (decide (0≤sZ4.1)) ((geti rZ0.Fibers sZ4.1).bind fun yZ6=>bnd ([yZ6]) fun lZ7=>(grd ((sZ4.2.length+1) * 8≤140737488355328)).bind fun uZ10=>bnd (sZ4.2++lZ7) fun lZ11=>some (.inl (IntKind.wrap .i64 (sZ4.1 - 1),lZ11))) (some (.inr sZ4.2))
def M_dq (nZ0:TNetwork) (rZ0:TRoute):Option (TRoute×Bool) :=
 (M_dw nZ0 rZ0).bind fun rZ1=>cond (!rZ1) (some ((⟨0,[]⟩:TRoute),false)) ((M_dy nZ0 rZ0).bind fun rZ3=>(iter (M_ay rZ0) N0 (IntKind.wrap .i64 ((rZ0.Fibers.length:Int) - 1),[])).bind fun oZ14=>some ((⟨rZ3,oZ14⟩:TRoute),true))
def M_bc (nZ0:TNetwork) (rZ0:TRoute) (sZ1:Int×Int):Option ((Int×Int) ⊕ Int) :=
 cond (decide (sZ1.2 < (rZ0.Fibers.length:Int))) ((geti rZ0.Fibers sZ1.2).bind fun yZ3=>(geti nZ0.Fibers yZ3).bind fun yZ4=>some (.inl (IntKind.wrap .i64 (sZ1.1+yZ4.Length),IntKind.wrap .i64 (sZ1.2+1)))) (some (.inr sZ1.1))
def M_ck (nZ0:TNetwork) (rZ0:TRoute):Option Int :=
 (iter (M_bc nZ0 rZ0) N0 (0,0)).bind fun oZ5=>some oZ5
def M_bh (xZ0:Int):Option Int :=
 cond (decide (xZ0 < 0)) (some (-1)) (cond (decide (0 < xZ0)) (some 1) (some 0))
def M_ar (aZ0:TRoute) (bZ0:TRoute) (sZ7:Int):Option (Int ⊕ (Unit ⊕ Int)) :=
 cond (decide (sZ7 < (aZ0.Fibers.length:Int))) ((geti aZ0.Fibers sZ7).bind fun yZ9=>(geti bZ0.Fibers sZ7).bind fun yZ10=>cond (yZ9 != yZ10) ((M_bh (IntKind.wrap .i64 (yZ9 - yZ10))).bind fun rZ12=>some (.inr (.inr rZ12))) (some (.inl (IntKind.wrap .i64 (sZ7+1))))) (some (.inr (.inl ())))
def M_df (nZ0:TNetwork) (aZ0:TRoute) (bZ0:TRoute):Option Int :=
 (M_ck nZ0 aZ0).bind fun rZ1=>(M_ck nZ0 bZ0).bind fun rZ2=>cond ((IntKind.wrap .i64 (rZ1 - rZ2)) != 0) ((M_bh (IntKind.wrap .i64 (rZ1 - rZ2))).bind fun rZ4=>some rZ4) (cond ((IntKind.wrap .i64 ((aZ0.Fibers.length:Int) - (bZ0.Fibers.length:Int))) != 0) ((M_bh (IntKind.wrap .i64 ((aZ0.Fibers.length:Int) - (bZ0.Fibers.length:Int)))).bind fun rZ6=>some rZ6) ((iter (M_ar aZ0 bZ0) N0 0).bind fun oZ13=>(match oZ13 with | .inl vZ14=>(M_bh (IntKind.wrap .i64 (aZ0.Start - bZ0.Start))).bind fun rZ16=>some rZ16 | .inr xZ15=>some xZ15)))
def M_dr (nZ0:TNetwork) (ringZ0:List Int) (fiberZ0:Int):Option (List TRoute×Bool) :=
 ((M_dm nZ0 ringZ0).bind fun rZ1=>cond (!rZ1) (some true) ((M_b fiberZ0 0 (IntKind.wrap .i64 ((nZ0.Fibers.length:Int) - 1))).bind fun rZ3=>some (!rZ3)):Option Bool).bind fun oZ4=>cond (oZ4) (some (([]),false)) ((M_dp nZ0 ringZ0).bind fun rZ6=>((M_a rZ6.1 fiberZ0).bind fun rZ7=>cond (!rZ7) ((M_a rZ6.2 fiberZ0).bind fun rZ9=>some (!rZ9)) (some false):Option Bool).bind fun oZ10=>cond (oZ10) (some (([]),false)) ((geti nZ0.Fibers fiberZ0).bind fun yZ12=>(M_by nZ0 ringZ0 yZ12.A yZ12.B).bind fun rZ13=>(M_by nZ0 ringZ0 yZ12.B yZ12.A).bind fun rZ14=>(M_dq nZ0 (⟨rZ14.Start,rZ14.Fibers⟩:TRoute)).bind fun rZ15=>((M_df nZ0 (⟨rZ15.1.Start,rZ15.1.Fibers⟩:TRoute) (⟨rZ13.Start,rZ13.Fibers⟩:TRoute)).bind fun rZ16=>cond (decide (rZ16 < 0)) (some (rZ15.1.Start,rZ13.Start,rZ15.1.Fibers,rZ13.Fibers)) (some (rZ13.Start,rZ15.1.Start,rZ13.Fibers,rZ15.1.Fibers)):Option (Int×Int×List Int×List Int)).bind fun oZ18=>((M_a oZ18.2.2.1 fiberZ0).bind fun rZ19=>cond (!rZ19) (bnd ([(⟨oZ18.1,oZ18.2.2.1⟩:TRoute)]) fun lZ21=>(grd (1 * 32≤140737488355328)).bind fun uZ24=>some lZ21) (some ([])):Option (List TRoute)).bind fun oZ25=>(M_a oZ18.2.2.2 fiberZ0).bind fun rZ26=>cond (!rZ26) (bnd ([(⟨oZ18.2.1,oZ18.2.2.2⟩:TRoute)]) fun lZ28=>(grd ((oZ25.length+1) * 32≤140737488355328)).bind fun uZ31=>bnd (oZ25++lZ28) fun lZ32=>some (lZ32,true)) (some (oZ25,true))))
def M_ba (nZ0:Int) (lowZ0:Int) (highZ0:Int):Option Bool :=
 cond (decide (lowZ0≤nZ0)) (some (decide (nZ0≤highZ0))) (some false)
def M_h (sZ0:ByteArray) (sZ1:Int):Option (Int ⊕ (Unit ⊕ Bool)) :=
 cond (decide (sZ1 < (sZ0.size:Int))) (((getz sZ0 sZ1).bind fun yZ3=>cond (decide (97≤(yZ3.toNat:Int))) (cond (decide (48≤(yZ3.toNat:Int))) (some (decide ((yZ3.toNat:Int)≤122),decide ((yZ3.toNat:Int)≤57))) (some (decide ((yZ3.toNat:Int)≤122),false))) (cond (decide (48≤(yZ3.toNat:Int))) (some (false,decide ((yZ3.toNat:Int)≤57))) (some (false,false))):Option (Bool×Bool)).bind fun oZ7=>cond (!oZ7.1) (cond (!oZ7.2) (some (.inr (.inr false))) (cond (sZ1==0) (some (.inr (.inr false))) (some (.inl (IntKind.wrap .i64 (sZ1+1)))))) (some (.inl (IntKind.wrap .i64 (sZ1+1))))) (some (.inr (.inl ())))
def M_cn (sZ0:ByteArray):Option Bool :=
 (iter (M_h sZ0) N0 0).bind fun oZ11=>(match oZ11 with | .inl vZ12=>(M_ba (sZ0.size:Int) 1 8).bind fun rZ14=>some rZ14 | .inr xZ13=>some xZ13)
def M_y (sZ0:List ByteArray) (vZ0:ByteArray) (sZ1:Int):Option (Int ⊕ (Unit ⊕ Int)) :=
 cond (decide (sZ1 < (sZ0.length:Int))) ((geti sZ0 sZ1).bind fun yZ3=>cond (vZ0.toList==yZ3.toList) (some (.inr (.inr sZ1))) (some (.inl (IntKind.wrap .i64 (sZ1+1))))) (some (.inr (.inl ())))
def M_dv (sZ0:List ByteArray) (vZ0:ByteArray):Option Int :=
 (iter (M_y sZ0 vZ0) N0 0).bind fun oZ5=>(match oZ5 with | .inl vZ6=>some (-1) | .inr xZ7=>some xZ7)
def M_cr (sZ0:List ByteArray) (vZ0:ByteArray):Option Bool :=
 (M_dv sZ0 vZ0).bind fun rZ1=>some (decide (0≤rZ1))
def M_ce (xZ0:Int):Option Bool :=
 some (xZ0 != xZ0)
def M_z (xZ0:Int) (yZ0:Int):Option Int :=
 (M_ce xZ0).bind fun rZ1=>(M_ce yZ0).bind fun rZ2=>cond (rZ1) (cond (rZ2) (some 0) (some (-1))) (cond (rZ2) (some 1) (cond (decide (xZ0 < yZ0)) (some (-1)) (cond (decide (yZ0 < xZ0)) (some 1) (some 0))))
def M_f (valsZ0:List Int) (sZ1:Int):Option (Int ⊕ (Unit ⊕ Int)) :=
 cond (decide (sZ1 < (valsZ0.length:Int))) ((geti valsZ0 sZ1).bind fun yZ3=>cond (yZ3 != 0) (some (.inr (.inr yZ3))) (some (.inl (IntKind.wrap .i64 (sZ1+1))))) (some (.inr (.inl ())))
def M_bo (valsZ0:List Int):Option Int :=
 (iter (M_f valsZ0) N0 0).bind fun oZ5=>(match oZ5 with | .inl vZ6=>some 0 | .inr xZ7=>some xZ7)
def M_cs (aZ0:TFiber) (bZ0:TFiber):Option Int :=
 (M_z aZ0.A bZ0.A).bind fun rZ1=>(M_z aZ0.B bZ0.B).bind fun rZ2=>(M_z aZ0.Length bZ0.Length).bind fun rZ3=>(M_z aZ0.Risk bZ0.Risk).bind fun rZ4=>bnd ([rZ1,rZ2,rZ3,rZ4]) fun lZ5=>(M_bo lZ5).bind fun rZ9=>some rZ9
def M_aw (nZ0:TNetwork) (sZ1:Int):Option (Int ⊕ (Unit ⊕ Bool)) :=
 cond (decide (sZ1 < (nZ0.Nodes.length:Int))) ((geti nZ0.Nodes sZ1).bind fun yZ3=>(M_cn yZ3).bind fun rZ4=>cond (!rZ4) (some (.inr (.inr false))) ((slT nZ0.Nodes sZ1).bind fun lZ6=>(M_cr lZ6 yZ3).bind fun rZ7=>cond (rZ7) (some (.inr (.inr false))) (some (.inl (IntKind.wrap .i64 (sZ1+1)))))) (some (.inr (.inl ())))
def M_j (nZ0:TNetwork) (sZ12:Int):Option (Int ⊕ (Unit ⊕ Bool)) :=
 cond (decide (sZ12 < (nZ0.Fibers.length:Int))) ((geti nZ0.Fibers sZ12).bind fun yZ14=>cond (decide (yZ14.A < 0)) (some (.inr (.inr false))) (cond (decide (yZ14.B≤yZ14.A)) (some (.inr (.inr false))) (cond (decide ((nZ0.Nodes.length:Int)≤yZ14.B)) (some (.inr (.inr false))) ((M_ba yZ14.Length 1 5000).bind fun rZ18=>cond (!rZ18) (some (.inr (.inr false))) ((M_ba yZ14.Risk 0 9).bind fun rZ20=>cond (!rZ20) (some (.inr (.inr false))) (cond (decide (0 < sZ12)) ((geti nZ0.Fibers (IntKind.wrap .i64 (sZ12 - 1))).bind fun yZ23=>(M_cs yZ23 yZ14).bind fun rZ24=>cond (decide (0 < rZ24)) (some (.inr (.inr false))) (some (.inl (IntKind.wrap .i64 (sZ12+1))))) (some (.inl (IntKind.wrap .i64 (sZ12+1)))))))))) (some (.inr (.inl ())))
def M_ds (nZ0:TNetwork):Option Bool :=
 (iter (M_aw nZ0) N0 0).bind fun oZ9=>(match oZ9 with | .inl vZ10=>(iter (M_j nZ0) N0 0).bind fun oZ26=>(match oZ26 with | .inl vZ27=>(M_ba (nZ0.Nodes.length:Int) 2 8).bind fun rZ29=>cond (rZ29) (some (decide ((nZ0.Fibers.length:Int)≤14))) (some false) | .inr xZ28=>some xZ28) | .inr xZ11=>some xZ11)
def M_g (sZ0:List Int) (vZ0:Int) (sZ1:Int):Option (Int ⊕ (Unit ⊕ Int)) :=
 cond (decide (sZ1 < (sZ0.length:Int))) ((geti sZ0 sZ1).bind fun yZ3=>cond (vZ0==yZ3) (some (.inr (.inr sZ1))) (some (.inl (IntKind.wrap .i64 (sZ1+1))))) (some (.inr (.inl ())))
def M_bi (sZ0:List Int) (vZ0:Int):Option Int :=
 (iter (M_g sZ0 vZ0) N0 0).bind fun oZ5=>(match oZ5 with | .inl vZ6=>some (-1) | .inr xZ7=>some xZ7)
def M_bn (sZ0:List Int) (vZ0:Int):Option Bool :=
 (M_bi sZ0 vZ0).bind fun rZ1=>some (decide (0≤rZ1))
def M_dt (fZ0:TFiber) (nodeZ0:Int):Option Int :=
 cond (nodeZ0==fZ0.A) (some fZ0.B) (cond (nodeZ0==fZ0.B) (some fZ0.A) (some (-1)))
def M_k (nZ0:TNetwork) (ringZ0:List Int) (sZ1:Int×Int×List Int):Option ((Int×Int×List Int) ⊕ ((Int×List Int) ⊕ (List Int×Int×Bool))) :=
 cond (decide (sZ1.2.1 < (ringZ0.length:Int))) ((geti ringZ0 sZ1.2.1).bind fun yZ3=>((M_ba yZ3 0 (IntKind.wrap .i64 ((nZ0.Fibers.length:Int) - 1))).bind fun rZ4=>cond (!rZ4) (some true) ((slT ringZ0 sZ1.2.1).bind fun lZ6=>(M_bn lZ6 yZ3).bind fun rZ7=>some rZ7):Option Bool).bind fun oZ8=>cond (oZ8) (some (.inr (.inr (([]),0,false)))) (bnd ([sZ1.1]) fun lZ10=>(grd ((sZ1.2.2.length+1) * 8≤140737488355328)).bind fun uZ13=>bnd (sZ1.2.2++lZ10) fun lZ14=>(geti nZ0.Fibers yZ3).bind fun yZ17=>(M_dt yZ17 sZ1.1).bind fun rZ18=>cond (decide (rZ18 < 0)) (some (.inr (.inr (([]),0,false)))) (some (.inl (rZ18,IntKind.wrap .i64 (sZ1.2.1+1),lZ14))))) (some (.inr (.inl (sZ1.1,sZ1.2.2))))
def M_dg (nZ0:TNetwork) (startZ0:Int) (ringZ0:List Int):Option (List Int×Int×Bool) :=
 (iter (M_k nZ0 ringZ0) N0 (startZ0,0,[])).bind fun oZ20=>(match oZ20 with | .inl vZ21=>some (vZ21.2,vZ21.1,true) | .inr xZ22=>some xZ22)
def M_as (xZ0:List Int) (sZ3:Int×Int):Option ((Int×Int) ⊕ Int) :=
 cond (decide (sZ3.2 < (xZ0.length:Int))) ((geti xZ0 sZ3.2).bind fun yZ5=>some (.inl ((if yZ5 < sZ3.1 then yZ5 else sZ3.1),IntKind.wrap .i64 (sZ3.2+1)))) (some (.inr sZ3.1))
def M_dh (xZ0:List Int):Option Int :=
 cond (decide ((xZ0.length:Int) < 1)) (none) ((geti xZ0 0).bind fun yZ2=>(iter (M_as xZ0) N0 (yZ2,1)).bind fun oZ6=>some oZ6)
def M_di (sZ0:List Int):Option (List Int) :=
 cond (sZ0.isEmpty) (amb (some ([])) ((grd (sZ0.length * 8≤140737488355328)).bind fun uZ2=>some sZ0)) ((grd (sZ0.length * 8≤140737488355328)).bind fun uZ3=>some sZ0)
def M_m (sZ1:Int×Int×List Int):Option ((Int×Int×List Int) ⊕ (List Int)) :=
 cond (decide (sZ1.1 < sZ1.2.1)) ((grd (0≤sZ1.2.1∧sZ1.2.1 < (sZ1.2.2.length:Int))).bind fun kZ3=>(sZ1.2.2[(Int.toNat sZ1.2.1)]?).bind fun yZ4=>(grd (0≤sZ1.1∧sZ1.1 < (sZ1.2.2.length:Int))).bind fun kZ5=>(sZ1.2.2[(Int.toNat sZ1.1)]?).bind fun yZ6=>bnd (sZ1.2.2.set (Int.toNat sZ1.1) yZ4) fun lZ7=>(lZ7[(Int.toNat sZ1.2.1)]?).bind fun yZ9=>bnd (lZ7.set (Int.toNat sZ1.2.1) yZ6) fun lZ10=>some (.inl (IntKind.wrap .i64 (sZ1.1+1),IntKind.wrap .i64 (sZ1.2.1 - 1),lZ10))) (some (.inr sZ1.2.2))
def M_dj (aaZ0:List Int):Option (List Int) :=
 (iter (M_m) N0 (0,IntKind.wrap .i64 ((aaZ0.length:Int) - 1),aaZ0)).bind fun oZ12=>some oZ12
def M_e (s1Z0:List Int) (s2Z0:List Int) (sZ1:Int):Option (Int ⊕ (Unit ⊕ Int)) :=
 cond (decide (sZ1 < (s1Z0.length:Int))) ((geti s1Z0 sZ1).bind fun yZ3=>cond (decide ((s2Z0.length:Int)≤sZ1)) (some (.inr (.inr 1))) ((geti s2Z0 sZ1).bind fun yZ5=>(M_z yZ3 yZ5).bind fun rZ6=>cond (rZ6 != 0) (some (.inr (.inr rZ6))) (some (.inl (IntKind.wrap .i64 (sZ1+1)))))) (some (.inr (.inl ())))
def M_bk (s1Z0:List Int) (s2Z0:List Int):Option Int :=
 (iter (M_e s1Z0 s2Z0) N0 0).bind fun oZ8=>(match oZ8 with | .inl vZ9=>cond (decide ((s1Z0.length:Int) < (s2Z0.length:Int))) (some (-1)) (some 0) | .inr xZ10=>some xZ10)
def M_n (rZ8:List Int×Int×Bool) (sZ14:Int):Option (Int ⊕ (Unit ⊕ (List Int×Bool))) :=
 cond (decide (sZ14 < (rZ8.1.length:Int))) ((grd (0≤sZ14∧sZ14 < (rZ8.1.length:Int))).bind fun kZ16=>(rZ8.1[(Int.toNat sZ14)]?).bind fun yZ17=>(grd (True∧0≤sZ14∧True∧Int.toNat sZ14≤rZ8.1.length)).bind fun uZ18=>bnd (subT rZ8.1 0 (Int.toNat sZ14)) fun lZ19=>(M_bn lZ19 yZ17).bind fun rZ21=>cond (rZ21) (some (.inr (.inr (([]),false)))) (some (.inl (IntKind.wrap .i64 (sZ14+1))))) (some (.inr (.inl ())))
def M_bv (nZ0:TNetwork) (ringZ0:List Int):Option (List Int×Bool) :=
 (cond (decide ((ringZ0.length:Int) < 2)) (some true) ((geti ringZ0 0).bind fun yZ2=>(M_ba yZ2 0 (IntKind.wrap .i64 ((nZ0.Fibers.length:Int) - 1))).bind fun rZ3=>some (!rZ3)):Option Bool).bind fun oZ4=>cond (oZ4) (some (([]),false)) ((geti ringZ0 0).bind fun yZ6=>(geti nZ0.Fibers yZ6).bind fun yZ7=>(M_dg nZ0 yZ7.A ringZ0).bind fun rZ8=>(cond (!rZ8.2.2) (some true) (cond (rZ8.2.1 != yZ7.A) (some true) ((M_dh rZ8.1).bind fun rZ11=>some (rZ11 != yZ7.A))):Option Bool).bind fun oZ12=>cond (oZ12) (some (([]),false)) ((iter (M_n rZ8) N0 0).bind fun oZ23=>(match oZ23 with | .inl vZ24=>(M_di ringZ0).bind fun rZ26=>(M_dj rZ26).bind fun rZ27=>bnd (subT rZ27 0 rZ26.length) fun lZ28=>(M_bk ringZ0 lZ28).bind fun rZ30=>some (rZ8.1,(decide (rZ30 < 0))) | .inr xZ25=>some xZ25)))
def M_dk (nZ0:TNetwork) (ringZ0:List Int):Option (List Int×Bool) :=
 (M_ds nZ0).bind fun rZ1=>cond (!rZ1) (some (([]),false)) ((M_bv nZ0 ringZ0).bind fun rZ3=>cond (!rZ3.2) (some (([]),false)) (some (rZ3.1,true)))
def M_dl (nZ0:TNetwork) (ringZ0:List Int):Option Bool :=
 (M_dk nZ0 ringZ0).bind fun rZ1=>some rZ1.2
def M_bb (aaZ0:TRoute) (abZ0:Int):Option (Bool×Int) :=
 (M_bn ((aaZ0).Fibers) abZ0).bind fun rZ1=>some (rZ1,abZ0)
def M_az {τq:Type} (vwZ0:τq→TRoute) (tzZ0:τq) (aaZ0:List τq) (sZ1:Int×Int):Option ((Int×Int) ⊕ (Int ⊕ (Int×List τq×Int))) :=
 cond (decide (sZ1.1 < (aaZ0.length:Int))) ((grd (0≤sZ1.1∧sZ1.1 < (aaZ0.length:Int))).bind fun kZ3=>(aaZ0[(Int.toNat sZ1.1)]?).bind fun yZ4=>(M_bb (vwZ0 yZ4) sZ1.2).bind fun rZ5=>cond (rZ5.1) (some (.inr (.inr (sZ1.1,aaZ0,rZ5.2)))) (some (.inl (IntKind.wrap .i64 (sZ1.1+1),rZ5.2)))) (some (.inr (.inl sZ1.2)))
def M_ca {τq:Type} (vwZ0:τq→TRoute) (tzZ0:τq) (aaZ0:List τq) (abZ0:Int):Option (Int×List τq×Int) :=
 (iter (M_az vwZ0 tzZ0 aaZ0) N0 (0,abZ0)).bind fun oZ7=>(match oZ7 with | .inl vZ8=>some ((-1),aaZ0,vZ8) | .inr xZ9=>some xZ9)
def M_r {τq:Type} (vwZ0:τq→TRoute) (tzZ0:τq) (aaZ0:List τq) (sZ3:Int×Int×List τq×Int):Option ((Int×Int×List τq×Int) ⊕ (Int×List τq×Int)) :=
 cond (decide (sZ3.2.1 < (aaZ0.length:Int))) ((grd (0≤sZ3.2.1∧sZ3.2.1 < (aaZ0.length:Int))).bind fun kZ5=>(sZ3.2.2.1[(Int.toNat sZ3.2.1)]?).bind fun yZ6=>(M_bb (vwZ0 yZ6) sZ3.2.2.2).bind fun rZ7=>cond (!rZ7.1) ((grd (0≤sZ3.1∧sZ3.1 < (aaZ0.length:Int))).bind fun kZ9=>(sZ3.2.2.1[(Int.toNat sZ3.1)]?).bind fun yZ10=>bnd (sZ3.2.2.1.set (Int.toNat sZ3.1) yZ6) fun lZ11=>some (.inl (IntKind.wrap .i64 (sZ3.1+1),IntKind.wrap .i64 (sZ3.2.1+1),lZ11,rZ7.2))) (some (.inl (sZ3.1,IntKind.wrap .i64 (sZ3.2.1+1),sZ3.2.2.1,rZ7.2)))) (some (.inr (sZ3.1,sZ3.2.2.1,sZ3.2.2.2)))
def M_bj {τq:Type} (vwZ0:τq→TRoute) (tzZ0:τq) (aaZ0:List τq) (abZ0:Int):Option (Nat×Nat×List τq×Int) :=
 (M_ca vwZ0 tzZ0 aaZ0 abZ0).bind fun rZ1=>cond (rZ1.1==(-1)) (some (0,aaZ0.length,rZ1.2.1,rZ1.2.2)) ((iter (M_r vwZ0 tzZ0 aaZ0) N0 (rZ1.1,IntKind.wrap .i64 (rZ1.1+1),rZ1.2.1,rZ1.2.2)).bind fun oZ13=>(grd (0≤oZ13.1∧True∧Int.toNat oZ13.1≤aaZ0.length∧True)).bind fun uZ14=>bnd (over oZ13.2.1 (Int.toNat oZ13.1) (List.replicate (aaZ0.length - (Int.toNat oZ13.1)) tzZ0)) fun lZ15=>(grd (True∧0≤oZ13.1∧True∧Int.toNat oZ13.1≤aaZ0.length)).bind fun uZ18=>some (0,(Int.toNat oZ13.1),lZ15,oZ13.2.2))
def M_aq (nZ0:TNetwork) (rZ0:TRoute) (sZ1:Int×Int):Option ((Int×Int) ⊕ Int) :=
 cond (decide (sZ1.2 < (rZ0.Fibers.length:Int))) ((geti rZ0.Fibers sZ1.2).bind fun yZ3=>(geti nZ0.Fibers yZ3).bind fun yZ4=>some (.inl (IntKind.wrap .i64 (sZ1.1+yZ4.Length),IntKind.wrap .i64 (sZ1.2+1)))) (some (.inr sZ1.1))
def M_bp (nZ0:TNetwork) (rZ0:TRoute):Option Int :=
 (iter (M_aq nZ0 rZ0) N0 (0,0)).bind fun oZ5=>some oZ5
def M_de (nZ0:TNetwork) (aZ0:TRoute) (bZ0:TRoute):Option Int :=
 (M_bp nZ0 aZ0).bind fun rZ1=>(M_bp nZ0 bZ0).bind fun rZ2=>(M_z rZ1 rZ2).bind fun rZ3=>(M_z (aZ0.Fibers.length:Int) (bZ0.Fibers.length:Int)).bind fun rZ4=>(M_bk aZ0.Fibers bZ0.Fibers).bind fun rZ5=>(M_z aZ0.Start bZ0.Start).bind fun rZ6=>bnd ([rZ3,rZ4,rZ5,rZ6]) fun lZ7=>(M_bo lZ7).bind fun rZ11=>some rZ11
def M_cb (aZ0:TRoute) (bZ0:TRoute) (p2Z0:TNetwork):Option Int :=
 (M_de p2Z0 aZ0 bZ0).bind fun rZ1=>some rZ1
def M_s (ringZ0:List Int) (rZ9:Int) (sZ13:Int×List Int):Option ((Int×List Int) ⊕ (List Int)) :=
 cond (sZ13.1 != rZ9) ((geti ringZ0 sZ13.1).bind fun yZ15=>bnd ([yZ15]) fun lZ16=>(grd ((sZ13.2.length+1) * 8≤140737488355328)).bind fun uZ19=>bnd (sZ13.2++lZ16) fun lZ20=>(grd ((ringZ0.length:Int) ≠ 0)).bind fun uZ23=>some (.inl (Int.tmod (IntKind.wrap .i64 (sZ13.1+1)) (ringZ0.length:Int),lZ20))) (some (.inr sZ13.2))
def M_t (ringZ0:List Int) (rZ9:Int) (sZ25:Int×List Int):Option ((Int×List Int) ⊕ (List Int)) :=
 cond (sZ25.1 != rZ9) ((grd ((ringZ0.length:Int) ≠ 0)).bind fun uZ27=>(geti ringZ0 (Int.tmod (IntKind.wrap .i64 ((IntKind.wrap .i64 (sZ25.1+(ringZ0.length:Int))) - 1)) (ringZ0.length:Int))).bind fun yZ28=>bnd ([yZ28]) fun lZ29=>(grd ((sZ25.2.length+1) * 8≤140737488355328)).bind fun uZ32=>bnd (sZ25.2++lZ29) fun lZ33=>(grd ((ringZ0.length:Int) ≠ 0)).bind fun uZ36=>some (.inl (Int.tmod (IntKind.wrap .i64 ((IntKind.wrap .i64 (sZ25.1+(ringZ0.length:Int))) - 1)) (ringZ0.length:Int),lZ33))) (some (.inr sZ25.2))
def M_cc (nZ0:TNetwork) (ringZ0:List Int) (fiberZ0:Int):Option (List TRoute×Bool) :=
 ((M_dl nZ0 ringZ0).bind fun rZ1=>cond (!rZ1) (some true) ((M_ba fiberZ0 0 (IntKind.wrap .i64 ((nZ0.Fibers.length:Int) - 1))).bind fun rZ3=>some (!rZ3)):Option Bool).bind fun oZ4=>cond (oZ4) (some (([]),false)) ((M_bv nZ0 ringZ0).bind fun rZ6=>(geti nZ0.Fibers fiberZ0).bind fun yZ7=>(M_bi rZ6.1 yZ7.A).bind fun rZ8=>(M_bi rZ6.1 yZ7.B).bind fun rZ9=>(cond (decide (rZ8 < 0)) (some true) (some (decide (rZ9 < 0))):Option Bool).bind fun oZ11=>cond (oZ11) (some (([]),false)) ((iter (M_s ringZ0 rZ9) N0 (rZ8,[])).bind fun oZ24=>(iter (M_t ringZ0 rZ9) N0 (rZ8,[])).bind fun oZ37=>bnd ([(⟨yZ7.A,oZ24⟩:TRoute),(⟨yZ7.A,oZ37⟩:TRoute)]) fun lZ38=>(M_bj id (⟨0,[]⟩:TRoute) lZ38 fiberZ0).bind fun rZ41=>bnd (subT rZ41.2.2.1 rZ41.1 rZ41.2.1) fun lZ42=>(sortX (fun x0 x1=>M_cb x0 x1 nZ0) lZ42).bind fun lZ44=>bnd (over rZ41.2.2.1 rZ41.1 lZ44) fun lZ45=>bnd (subT lZ45 rZ41.1 rZ41.2.1) fun lZ47=>some (lZ47,true)))
def M_ai (aZ0:List Int) (bZ0:List Int) (sZ2:Int):Option (Int ⊕ (Unit ⊕ Bool)) :=
 cond (decide (sZ2 < (aZ0.length:Int))) ((geti aZ0 sZ2).bind fun yZ4=>(geti bZ0 sZ2).bind fun yZ5=>cond (yZ4 != yZ5) (some (.inr (.inr false))) (some (.inl (IntKind.wrap .i64 (sZ2+1))))) (some (.inr (.inl ())))
def M_bs (aZ0:List Int) (bZ0:List Int):Option Bool :=
 cond ((aZ0.length:Int) != (bZ0.length:Int)) (some false) ((iter (M_ai aZ0 bZ0) N0 0).bind fun oZ7=>(match oZ7 with | .inl vZ8=>some true | .inr xZ9=>some xZ9))
def M_ch (aZ0:TRoute) (bZ0:TRoute):Option Bool :=
 cond (aZ0.Start != bZ0.Start) (some false) ((M_bs aZ0.Fibers bZ0.Fibers).bind fun rZ2=>cond (!rZ2) (some false) (some true))
def M_aj (aZ0:List TRoute) (bZ0:List TRoute) (sZ2:Int):Option (Int ⊕ (Unit ⊕ Bool)) :=
 cond (decide (sZ2 < (aZ0.length:Int))) ((geti aZ0 sZ2).bind fun yZ4=>(geti bZ0 sZ2).bind fun yZ5=>(M_ch yZ4 yZ5).bind fun rZ6=>cond (!rZ6) (some (.inr (.inr false))) (some (.inl (IntKind.wrap .i64 (sZ2+1))))) (some (.inr (.inl ())))
def M_bm (aZ0:List TRoute) (bZ0:List TRoute):Option Bool :=
 cond ((aZ0.length:Int) != (bZ0.length:Int)) (some false) ((iter (M_aj aZ0 bZ0) N0 0).bind fun oZ8=>(match oZ8 with | .inl vZ9=>some true | .inr xZ10=>some xZ10))
def M_ae (aZ0:List ByteArray) (bZ0:List ByteArray) (sZ2:Int):Option (Int ⊕ (Unit ⊕ Bool)) :=
 cond (decide (sZ2 < (aZ0.length:Int))) ((geti aZ0 sZ2).bind fun yZ4=>(geti bZ0 sZ2).bind fun yZ5=>cond (!(yZ4.toList==yZ5.toList)) (some (.inr (.inr false))) (some (.inl (IntKind.wrap .i64 (sZ2+1))))) (some (.inr (.inl ())))
def M_cv (aZ0:List ByteArray) (bZ0:List ByteArray):Option Bool :=
 cond ((aZ0.length:Int) != (bZ0.length:Int)) (some false) ((iter (M_ae aZ0 bZ0) N0 0).bind fun oZ7=>(match oZ7 with | .inl vZ8=>some true | .inr xZ9=>some xZ9))
def M_cg (aZ0:TFiber) (bZ0:TFiber):Option Bool :=
 cond (aZ0.A != bZ0.A) (some false) (cond (aZ0.B != bZ0.B) (some false) (cond (aZ0.Length != bZ0.Length) (some false) (cond (aZ0.Risk != bZ0.Risk) (some false) (some true))))
def M_ag (aZ0:List TFiber) (bZ0:List TFiber) (sZ2:Int):Option (Int ⊕ (Unit ⊕ Bool)) :=
 cond (decide (sZ2 < (aZ0.length:Int))) ((geti aZ0 sZ2).bind fun yZ4=>(geti bZ0 sZ2).bind fun yZ5=>(M_cg yZ4 yZ5).bind fun rZ6=>cond (!rZ6) (some (.inr (.inr false))) (some (.inl (IntKind.wrap .i64 (sZ2+1))))) (some (.inr (.inl ())))
def M_cy (aZ0:List TFiber) (bZ0:List TFiber):Option Bool :=
 cond ((aZ0.length:Int) != (bZ0.length:Int)) (some false) ((iter (M_ag aZ0 bZ0) N0 0).bind fun oZ8=>(match oZ8 with | .inl vZ9=>some true | .inr xZ10=>some xZ10))
def M_da (aZ0:TNetwork) (bZ0:TNetwork):Option Bool :=
 (M_cv aZ0.Nodes bZ0.Nodes).bind fun rZ1=>cond (!rZ1) (some false) ((M_cy aZ0.Fibers bZ0.Fibers).bind fun rZ3=>cond (!rZ3) (some false) (some true))
def M_ab (sZ2:Int×ByteArray):Option ((Int×ByteArray) ⊕ ByteArray) :=
 cond (decide (0 < sZ2.1)) ((grd (10 ≠ 0)).bind fun uZ4=>bnd ([IntKind.wrap .u8 (IntKind.wrap .i64 (48+(Int.tmod sZ2.1 10)))]) fun lZ5=>(grd ((b2s lZ5).size+sZ2.2.size≤9223372036854775807)).bind fun uZ9=>(grd (10 ≠ 0)).bind fun uZ10=>some (.inl (IntKind.wrap .i64 (Int.tdiv sZ2.1 10),(b2s lZ5)++sZ2.2))) (some (.inr sZ2.2))
def M_br (kZ0:Int):Option ByteArray :=
 cond (decide (kZ0≤0)) (some (⟨#[109,48]⟩:ByteArray)) ((iter (M_ab) N0 (kZ0,(⟨#[]⟩:ByteArray))).bind fun oZ11=>(grd ((⟨#[109]⟩:ByteArray).size+oZ11.size≤9223372036854775807)).bind fun uZ12=>some ((⟨#[109]⟩:ByteArray)++oZ11))
def M_ak (sZ1:Int×Int×List ByteArray):Option ((Int×Int×List ByteArray) ⊕ (Int×List ByteArray)) :=
 cond (decide (sZ1.2.1 < (sZ1.2.2.length:Int))) ((M_br sZ1.1).bind fun rZ3=>(grd (0≤sZ1.2.1∧sZ1.2.1 < (sZ1.2.2.length:Int))).bind fun kZ4=>(sZ1.2.2[(Int.toNat sZ1.2.1)]?).bind fun yZ5=>bnd (sZ1.2.2.set (Int.toNat sZ1.2.1) rZ3) fun lZ6=>some (.inl (IntKind.wrap .i64 (sZ1.1+1),IntKind.wrap .i64 (sZ1.2.1+1),lZ6))) (some (.inr (sZ1.1,sZ1.2.2)))
def M_db (aaZ0:Int) (abZ0:List ByteArray):Option (Int×List ByteArray) :=
 (iter (M_ak) N0 (aaZ0,0,abZ0)).bind fun oZ8=>some (oZ8.1,oZ8.2)
def M_al (sZ1:Int×Int×List TFiber):Option ((Int×Int×List TFiber) ⊕ (Int×List TFiber)) :=
 cond (decide (sZ1.2.1 < (sZ1.2.2.length:Int))) ((grd (0≤sZ1.2.1∧sZ1.2.1 < (sZ1.2.2.length:Int))).bind fun kZ3=>(sZ1.2.2[(Int.toNat sZ1.2.1)]?).bind fun yZ4=>bnd (sZ1.2.2.set (Int.toNat sZ1.2.1) (⟨sZ1.1,yZ4.B,yZ4.Length,yZ4.Risk⟩:TFiber)) fun lZ5=>(lZ5[(Int.toNat sZ1.2.1)]?).bind fun yZ7=>bnd (lZ5.set (Int.toNat sZ1.2.1) (⟨yZ7.A,IntKind.wrap .i64 (sZ1.1+1),yZ7.Length,yZ7.Risk⟩:TFiber)) fun lZ8=>(lZ8[(Int.toNat sZ1.2.1)]?).bind fun yZ10=>bnd (lZ8.set (Int.toNat sZ1.2.1) (⟨yZ10.A,yZ10.B,IntKind.wrap .i64 ((IntKind.wrap .i64 (sZ1.1+1))+1),yZ10.Risk⟩:TFiber)) fun lZ11=>(lZ11[(Int.toNat sZ1.2.1)]?).bind fun yZ13=>bnd (lZ11.set (Int.toNat sZ1.2.1) (⟨yZ13.A,yZ13.B,yZ13.Length,IntKind.wrap .i64 ((IntKind.wrap .i64 ((IntKind.wrap .i64 (sZ1.1+1))+1))+1)⟩:TFiber)) fun lZ14=>some (.inl (IntKind.wrap .i64 ((IntKind.wrap .i64 ((IntKind.wrap .i64 ((IntKind.wrap .i64 (sZ1.1+1))+1))+1))+1),IntKind.wrap .i64 (sZ1.2.1+1),lZ14))) (some (.inr (sZ1.1,sZ1.2.2)))
def M_dc (aaZ0:Int) (abZ0:List TFiber):Option (Int×List TFiber) :=
 (iter (M_al) N0 (aaZ0,0,abZ0)).bind fun oZ16=>some (oZ16.1,oZ16.2)
def M_dd (aaZ0:Int) (abZ0:List ByteArray) (acZ0:List TFiber):Option (Int×List ByteArray×List TFiber) :=
 (M_db aaZ0 abZ0).bind fun rZ1=>(M_dc rZ1.1 acZ0).bind fun rZ2=>some (rZ2.1,rZ1.2,rZ2.2)
def M_am (sZ1:Int×Int×List Int):Option ((Int×Int×List Int) ⊕ (Int×List Int)) :=
 cond (decide (sZ1.2.1 < (sZ1.2.2.length:Int))) ((grd (0≤sZ1.2.1∧sZ1.2.1 < (sZ1.2.2.length:Int))).bind fun kZ3=>(sZ1.2.2[(Int.toNat sZ1.2.1)]?).bind fun yZ4=>bnd (sZ1.2.2.set (Int.toNat sZ1.2.1) sZ1.1) fun lZ5=>some (.inl (IntKind.wrap .i64 (sZ1.1+1),IntKind.wrap .i64 (sZ1.2.1+1),lZ5))) (some (.inr (sZ1.1,sZ1.2.2)))
def M_bt (aaZ0:Int) (abZ0:List Int):Option (Int×List Int) :=
 (iter (M_am) N0 (aaZ0,0,abZ0)).bind fun oZ7=>some (oZ7.1,oZ7.2)
def M_ao (sZ1:Int×Int×List TRoute):Option ((Int×Int×List TRoute) ⊕ (Int×List TRoute)) :=
 cond (decide (sZ1.2.1 < (sZ1.2.2.length:Int))) ((grd (0≤sZ1.2.1∧sZ1.2.1 < (sZ1.2.2.length:Int))).bind fun kZ3=>(sZ1.2.2[(Int.toNat sZ1.2.1)]?).bind fun yZ4=>bnd (sZ1.2.2.set (Int.toNat sZ1.2.1) (⟨sZ1.1,yZ4.Fibers⟩:TRoute)) fun lZ5=>(lZ5[(Int.toNat sZ1.2.1)]?).bind fun yZ7=>(M_bt (IntKind.wrap .i64 (sZ1.1+1)) yZ7.Fibers).bind fun rZ8=>bnd (lZ5.set (Int.toNat sZ1.2.1) (⟨yZ7.Start,rZ8.2⟩:TRoute)) fun lZ9=>some (.inl (rZ8.1,IntKind.wrap .i64 (sZ1.2.1+1),lZ9))) (some (.inr (sZ1.1,sZ1.2.2)))
def M_cj (aaZ0:Int) (abZ0:List TRoute):Option (Int×List TRoute) :=
 (iter (M_ao) N0 (aaZ0,0,abZ0)).bind fun oZ11=>some (oZ11.1,oZ11.2)
def M_an (aZ0:List Int) (sZ1:Int×Int):Option ((Int×Int) ⊕ (Int ⊕ Int)) :=
 cond (decide (sZ1.2 < (aZ0.length:Int))) ((geti aZ0 sZ1.2).bind fun yZ3=>cond (yZ3 != sZ1.1) (some (.inr (.inr (-1)))) (some (.inl (IntKind.wrap .i64 (sZ1.1+1),IntKind.wrap .i64 (sZ1.2+1))))) (some (.inr (.inl sZ1.1)))
def M_ci (aZ0:List Int) (kZ0:Int):Option Int :=
 (iter (M_an aZ0) N0 (kZ0,0)).bind fun oZ5=>(match oZ5 with | .inl vZ6=>some vZ6 | .inr xZ7=>some xZ7)
def M_ap (aZ0:List TRoute) (sZ1:Int×Int):Option ((Int×Int) ⊕ (Int ⊕ Int)) :=
 cond (decide (sZ1.2 < (aZ0.length:Int))) ((geti aZ0 sZ1.2).bind fun yZ3=>cond (yZ3.Start != sZ1.1) (some (.inr (.inr (-1)))) ((M_ci yZ3.Fibers (IntKind.wrap .i64 (sZ1.1+1))).bind fun rZ5=>cond (decide (rZ5 < 0)) (some (.inr (.inr (-1)))) (some (.inl (rZ5,IntKind.wrap .i64 (sZ1.2+1)))))) (some (.inr (.inl sZ1.1)))
def M_bu (aZ0:List TRoute) (kZ0:Int):Option Int :=
 (iter (M_ap aZ0) N0 (kZ0,0)).bind fun oZ7=>(match oZ7 with | .inl vZ8=>some vZ8 | .inr xZ9=>some xZ9)
def M_du (aNZ0:TNetwork) (aRingZ0:List Int) (aFiberZ0:Int):Option Bool :=
 cond (decide (1048576 < (aRingZ0.length:Int))) (some true) ((M_cz aNZ0 1048576).bind fun rZ2=>cond (decide (rZ2 < 0)) (some true) ((M_bf aNZ0).bind fun rZ4=>(M_bg aRingZ0).bind fun rZ5=>(M_dr (⟨rZ4.Nodes,rZ4.Fibers⟩:TNetwork) rZ5 aFiberZ0).bind fun rZ6=>(M_bf aNZ0).bind fun rZ7=>(M_bg aRingZ0).bind fun rZ8=>(M_cc (⟨rZ7.Nodes,rZ7.Fibers⟩:TNetwork) rZ8 aFiberZ0).bind fun rZ9=>((M_bm rZ9.1 rZ6.1).bind fun rZ10=>cond (!rZ10) (some true) (some (!(rZ9.2==rZ6.2))):Option Bool).bind fun oZ12=>cond (oZ12) (some false) ((M_bf aNZ0).bind fun rZ14=>(M_da (⟨rZ7.Nodes,rZ7.Fibers⟩:TNetwork) (⟨rZ14.Nodes,rZ14.Fibers⟩:TNetwork)).bind fun rZ15=>cond (!rZ15) (some false) ((M_bg aRingZ0).bind fun rZ17=>(M_bs rZ8 rZ17).bind fun rZ18=>cond (!rZ18) (some false) ((M_dd 1 rZ7.Nodes rZ7.Fibers).bind fun rZ20=>(M_bt rZ20.1 rZ8).bind fun rZ21=>(cond (decide (rZ21.1 < 0)) (some true) ((M_bm rZ9.1 rZ6.1).bind fun rZ23=>cond (!rZ23) (some true) (some (!(rZ9.2==rZ6.2)))):Option Bool).bind fun oZ25=>cond (oZ25) (some false) ((M_cj 1 rZ9.1).bind fun rZ27=>bnd (subT rZ27.2 0 rZ9.1.length) fun lZ28=>(M_bu lZ28 1).bind fun rZ30=>cond (decide (rZ30 < 0)) (some false) (cond (rZ30 != rZ27.1) (some false) ((M_bf aNZ0).bind fun rZ33=>(M_bg aRingZ0).bind fun rZ34=>(M_cc (⟨rZ33.Nodes,rZ33.Fibers⟩:TNetwork) rZ34 aFiberZ0).bind fun rZ35=>((M_bm rZ35.1 rZ6.1).bind fun rZ36=>cond (!rZ36) (some true) (some (!(rZ35.2==rZ6.2))):Option Bool).bind fun oZ38=>cond (oZ38) (some false) ((M_bu lZ28 1).bind fun rZ40=>cond (decide (rZ40 < 0)) (some false) (cond (rZ40 != rZ27.1) (some false) (some true)))))))))))
end Vs

namespace Vs
open Go
theorem d_slices_DeleteFunc_RouteM1 {τq:Type} (vw:τq→TRoute) (tz:τq) (X:List τq) (a:Int):M_bj vw tz X a=delF (fun t s=>M_bb (vw t) s) tz X a:=by
 have h1:M_az vw tz X=idxL (fun t s=>M_bb (vw t) s) X:=rfl
 have h2:M_r vw tz X=delL (fun t s=>M_bb (vw t) s) X:=rfl
 have h3:M_ca vw tz X a=idxF (fun t s=>M_bb (vw t) s) X a:=by
  unfold M_ca idxF
  rw [h1]
  congr 1
  funext o; cases o <;> rfl
 unfold M_bj delF
 rw [h2,h3]
theorem p_slices_DeleteFunc_RouteM1 {H:World→Prop} (XZ0:List (Tok H e_TRoute 2)) (abZ0:Int) {r:Nat×Nat×List TRoute×Int} (h:M_bj id (⟨0,[]⟩:TRoute) (XZ0.map Tok.x) abZ0=some r) :
 ∃ YZ0:List (Tok H e_TRoute 2),M_bj Tok.x tz_TRoute XZ0 abZ0=some (r.1,r.2.1,YZ0,r.2.2.2)∧Sel XZ0 YZ0∧YZ0.map Tok.x=r.2.2.1:=by
 rw [d_slices_DeleteFunc_RouteM1] at h ⊢
 exact del_par (p:=fun t s=>M_bb t s) rfl tz_TRoute_F h
end Vs

namespace Vs
open Go Go.Proofs
theorem hmix:Try.prog.follows .mixedOrders=true:=Try.checked.mixed
def lay68_ren:Go.Shelf.Ren:=⟨fun | 6=>68 | 15=>106 | 14=>105 | 28=>125 | 29=>126 | 20=>117 | 21=>118 | 22=>119 | 23=>120 | 24=>121 | 25=>122 | 26=>123 | 27=>124 | 46=>144 | 47=>145 | 48=>146 | 49=>147 | 50=>148 | 57=>155 | n=>n,fun | 22=>53 | 24=>79 | 25=>87 | 3=>3 | 39=>120 | 0=>0 | 53=>136 | 55=>138 | 4=>4 | 46=>130 | 45=>129 | 50=>41 | 5=>5 | 9=>9 | 66=>150 | 70=>154 | 76=>160 | 77=>161 | n=>n,fun | n=>n⟩
theorem lay68:Go.Proofs.SlLaysF0.n6 Try.prog lay68_ren:={
 mixed:=by kernel_rfl
 f6:=⟨Try.f68.name,by decide,Try.func68.trans (congrArg some (by kernel_rfl))⟩
 f14:=⟨Try.f105.name,by decide,Try.func105.trans (congrArg some (by kernel_rfl))⟩
 f15:=Try.func106.trans (congrArg some (by kernel_rfl))
 f20:=⟨Try.f117.name,by decide,Try.func117.trans (congrArg some (by kernel_rfl))⟩
 f21:=⟨Try.f118.name,by decide,Try.func118.trans (congrArg some (by kernel_rfl))⟩
 f22:=⟨Try.f119.name,by decide,Try.func119.trans (congrArg some (by kernel_rfl))⟩
 f23:=⟨Try.f120.name,by decide,Try.func120.trans (congrArg some (by kernel_rfl))⟩
 f24:=⟨Try.f121.name,by decide,Try.func121.trans (congrArg some (by kernel_rfl))⟩
 f25:=⟨Try.f122.name,by decide,Try.func122.trans (congrArg some (by kernel_rfl))⟩
 f26:=⟨Try.f123.name,by decide,Try.func123.trans (congrArg some (by kernel_rfl))⟩
 f27:=⟨Try.f124.name,by decide,Try.func124.trans (congrArg some (by kernel_rfl))⟩
 f28:=Try.func125.trans (congrArg some (by kernel_rfl))
 f29:=Try.func126.trans (congrArg some (by kernel_rfl))
 f46:=⟨Try.f144.name,by decide,Try.func144.trans (congrArg some (by kernel_rfl))⟩
 f47:=Try.func145.trans (congrArg some (by kernel_rfl))
 f48:=Try.func146.trans (congrArg some (by kernel_rfl))
 f49:=⟨Try.f147.name,by decide,Try.func147.trans (congrArg some (by kernel_rfl))⟩
 f50:=⟨Try.f148.name,by decide,Try.func148.trans (congrArg some (by kernel_rfl))⟩
 f57:=⟨Try.f155.name,by decide,Try.func155.trans (congrArg some (by kernel_rfl))⟩
 t0:=Try.underlying0
 a0:=Try.isAgg0
 z0:=Try.sizeOf0
 v0:=Try.zeroValue0
 t3:=Try.underlying3
 a3:=Try.isAgg3
 z3:=Try.sizeOf3
 v3:=Try.zeroValue3
 t4:=Try.underlying4
 a4:=Try.isAgg4
 z4:=Try.sizeOf4
 v4:=Try.zeroValue4
 t5:=Try.underlying5
 a5:=Try.isAgg5
 z5:=Try.sizeOf5
 v5:=Try.zeroValue5
 t9:=Try.underlying9
 a9:=Try.isAgg9
 z9:=Try.sizeOf9
 v9:=Try.zeroValue9
 t22:=Try.underlying53
 a22:=Try.isAgg53
 z22:=Try.sizeOf53
 v22:=Try.zeroValue53
 t25:=Try.underlying87
 a25:=Try.isAgg87
 z25:=Try.sizeOf87
 v25:=Try.zeroValue87
 t39:=Try.underlying120
 a39:=Try.isAgg120
 z39:=Try.sizeOf120
 v39:=Try.zeroValue120
 t45:=Try.underlying129
 a45:=Try.isAgg129
 z45:=Try.sizeOf129
 v45:=Try.zeroValue129
 t46:=Try.underlying130
 a46:=Try.isAgg130
 z46:=Try.sizeOf130
 v46:=Try.zeroValue130
 t50:=Try.underlying41
 a50:=Try.isAgg41
 z50:=Try.sizeOf41
 v50:=Try.zeroValue41
 t53:=Try.underlying136
 a53:=Try.isAgg136
 z53:=Try.sizeOf136
 v53:=Try.zeroValue136
 t55:=Try.underlying138
 a55:=Try.isAgg138
 z55:=Try.sizeOf138
 v55:=Try.zeroValue138
 t66:=Try.underlying150
 a66:=Try.isAgg150
 z66:=Try.sizeOf150
 v66:=Try.zeroValue150
 t70:=Try.underlying154
 a70:=Try.isAgg154
 z70:=Try.sizeOf154
 v70:=Try.zeroValue154
 t76:=Try.underlying160
 a76:=Try.isAgg160
 z76:=Try.sizeOf160
 v76:=Try.zeroValue160
 t77:=Try.underlying161
 a77:=Try.isAgg161
 z77:=Try.sizeOf161
 v77:=Try.zeroValue161 }
theorem sort68:SortC Try.prog 68 2 (shK 2):=sortCK (ρ:=lay68_ren) lay68 2 (by decide) Try.isAgg79 Try.sizeOf79 (AnyF.slices_SortFunc_none lay68) ⟨_,Try.func68,by kernel_rfl,by kernel_rfl⟩
def A38L1:ACode:=(.seq (.seq (.reg [Zm 12 5,Zm 13 0,Zk 14 13,Zb 15 .lss 12 14] []) (.cond (Zt 15) .skip (.exit 0))) (.seq (.blk 1 (.seq (.reg [Zm 18 1,Zm 19 0,Zm 20 5,Zx 21 1 19 20,Zl 22 21,Zo 23 (.lenz (Zt 22)),Zb 24 .sub 18 23,Zm 1 24] []) (.seq (.reg [Zm 25 1,Zd 26 .lss 25 0] []) (.cond (Zt 26) (.seq (.reg [Zn 4 (-1)] []) .ret) .skip)))) (.reg [Zm 16 5,Zd 17 .add 16 1,Zm 5 17] [])))
def A38R2:ACode:=(.seq (.reg [Zm 27 1,Zm 4 27] []) .ret)
def A38:ACode:=(.seq (.reg [Zn 4 0] []) (.seq (.reg [Zm 6 1,Zm 7 0,Zk 8 7,Zb 9 .sub 6 8,Zm 1 9] []) (.seq (.seq (.reg [Zm 10 1,Zd 11 .lss 10 0] []) (.cond (Zt 11) (.seq (.reg [Zn 4 (-1)] []) .ret) .skip)) (.seqa (.reg [Zn 5 0] []) (.blk 0 (.loop A38L1)) [1] [] A38R2))))
def V38:List RV:=[.t 4]
theorem m38:mtcF Try.prog 38 2 A38 V38=true:=by kernel_rfl
def A39:ACode:=(.seq (.reg [Zn 4 0] []) (.seq (.reg [Zm 5 1,Zm 6 0,Zk 7 6,Zb 8 .sub 5 7,Zm 1 8] []) (.seq (.seq (.reg [Zm 9 1,Zd 10 .lss 9 0] []) (.cond (Zt 10) (.seq (.reg [Zn 4 (-1)] []) .ret) .skip)) (.seq (.reg [Zm 11 1,Zm 4 11] []) .ret))))
def V39:List RV:=[.t 4]
theorem m39:mtcF Try.prog 39 2 A39 V39=true:=by kernel_rfl
def A10:ACode:=(.seq (.reg [Zo 2 (.box 2 (Zt 0)),Zn 4 0] []) (.seq (.reg [Za 5 0 2,Zl 6 5,Zm 7 1,Zo 8 (.call 38 [(Zt 6),(Zt 7)]),Zm 1 8] []) (.seq (.seq (.reg [Zm 9 1,Zd 10 .lss 9 0] []) (.cond (Zt 10) (.seq (.reg [Zn 4 (-1)] []) .ret) .skip)) (.seq (.reg [Za 11 1 2,Zl 12 11,Zm 13 1,Zo 14 (.call 39 [(Zt 12),(Zt 13)]),Zm 1 14] []) (.seq (.seq (.reg [Zm 15 1,Zd 16 .lss 15 0] []) (.cond (Zt 16) (.seq (.reg [Zn 4 (-1)] []) .ret) .skip)) (.seq (.reg [Zm 17 1,Zm 4 17] []) .ret))))))
def V10:List RV:=[.t 4]
theorem m10:mtcF Try.prog 10 2 A10 V10=true:=by kernel_rfl
def A42L1:ACode:=(.seq (.seq (.reg [Zm 8 4,Zm 9 0,Zk 10 9,Zb 11 .lss 8 10] []) (.cond (Zt 11) .skip (.exit 0))) (.seq (.blk 1 (.reg [Zm 14 3,Zm 15 4,Zm 16 0,Zm 17 4,Zx 18 1 16 17,Zl 19 18,Zx 20 1 14 15,⟨none,.store 1 (Zt 20) (Zt 19),none⟩] [])) (.reg [Zm 12 4,Zd 13 .add 12 1,Zm 4 13] [])))
def A42R2:ACode:=(.seq (.reg [Zm 21 3,Zm 2 21] [.s 2]) .ret)
def A42:ACode:=(.seq (.reg [Zo 2 (.mv (.c (.lst .u 1 [])))] [.s 2]) (.seq (.reg [Zm 5 0,Zk 6 5,Zo 7 (.mks 1 (.z ⟨#[]⟩) 16 (Zt 6) (Zt 6)),Zm 3 7] [.s 3]) (.seqa (.reg [Zn 4 0] []) (.blk 0 (.loop A42L1)) [3] [3] A42R2)))
def V42:List RV:=[.t 2]
theorem m42:mtcF Try.prog 42 1 A42 V42=true:=by kernel_rfl
def A79:ACode:=(.seq (.reg [Zo 1 (.box 4 (Zt 0)),Zo 2 (.alloc (.agg [.i 0,.i 0,.i 0,.i 0]))] []) (.seq (.reg [Zo 3 (.alloc (.agg [.i 0,.i 0,.i 0,.i 0]))] []) (.seq (.reg [Za 4 0 1,Zl 5 4,Za 6 0 3,⟨none,.store 1 (Zt 6) (Zt 5),none⟩] []) (.seq (.reg [Za 7 1 1,Zl 8 7,Za 9 1 3,⟨none,.store 1 (Zt 9) (Zt 8),none⟩] []) (.seq (.reg [Za 10 2 1,Zl 11 10,Za 12 2 3,⟨none,.store 1 (Zt 12) (Zt 11),none⟩] []) (.seq (.reg [Za 13 3 1,Zl 14 13,Za 15 3 3,⟨none,.store 1 (Zt 15) (Zt 14),none⟩] []) (.seq (.reg [Zo 16 (.load 4 true (Zt 3)),⟨none,.store 4 (Zt 2) (Zt 16),none⟩] []) .ret)))))))
def V79:List RV:=[.c 2 4 true]
theorem m79:mtcF Try.prog 79 1 A79 V79=true:=by kernel_rfl
def A43L1:ACode:=(.seq (.seq (.reg [Zm 8 4,Zm 9 0,Zk 10 9,Zb 11 .lss 8 10] []) (.cond (Zt 11) .skip (.exit 0))) (.seq (.blk 1 (.reg [Zm 14 3,Zm 15 4,Zm 16 0,Zm 17 4,Zx 18 4 16 17,Zo 19 (.load 4 true (Zt 18)),Zo 20 (.call 79 [(Zt 19)]),Zx 21 4 14 15,⟨none,.store 4 (Zt 21) (Zt 20),none⟩] [])) (.reg [Zm 12 4,Zd 13 .add 12 1,Zm 4 13] [])))
def A43R2:ACode:=(.seq (.reg [Zm 22 3,Zm 2 22] [.s 2]) .ret)
def A43:ACode:=(.seq (.reg [Zo 2 (.mv (.c (.lst .u 4 [])))] [.s 2]) (.seq (.reg [Zm 5 0,Zk 6 5,Zo 7 (.mks 4 (.agg [.i 0,.i 0,.i 0,.i 0]) 32 (Zt 6) (Zt 6)),Zm 3 7] [.s 3]) (.seqa (.reg [Zn 4 0] []) (.blk 0 (.loop A43L1)) [3] [3] A43R2)))
def V43:List RV:=[.t 2]
theorem m43:mtcF Try.prog 43 1 A43 V43=true:=by kernel_rfl
def A12:ACode:=(.seq (.reg [Zo 1 (.box 2 (Zt 0)),Zo 2 (.alloc (.agg [.lst .u 1 [],.lst .u 4 []]))] []) (.seq (.reg [Zo 3 (.alloc (.agg [.lst .u 1 [],.lst .u 4 []]))] []) (.seq (.reg [Za 4 0 1,Zl 5 4,Zo 6 (.call 42 [(Zt 5)]),Za 7 0 3,⟨none,.store 1 (Zt 7) (Zt 6),none⟩] []) (.seq (.reg [Za 8 1 1,Zl 9 8,Zo 10 (.call 43 [(Zt 9)]),Za 11 1 3,⟨none,.store 1 (Zt 11) (Zt 10),none⟩] []) (.seq (.reg [Zo 12 (.load 2 true (Zt 3)),⟨none,.store 2 (Zt 2) (Zt 12),none⟩] []) .ret)))))
def V12:List RV:=[.c 2 2 true]
theorem m12:mtcF Try.prog 12 1 A12 V12=true:=by kernel_rfl
def A13L1:ACode:=(.seq (.seq (.reg [Zm 8 4,Zm 9 0,Zk 10 9,Zb 11 .lss 8 10] []) (.cond (Zt 11) .skip (.exit 0))) (.seq (.blk 1 (.reg [Zm 14 3,Zm 15 4,Zm 16 0,Zm 17 4,Zx 18 1 16 17,Zl 19 18,Zx 20 1 14 15,⟨none,.store 1 (Zt 20) (Zt 19),none⟩] [])) (.reg [Zm 12 4,Zd 13 .add 12 1,Zm 4 13] [])))
def A13R2:ACode:=(.seq (.reg [Zm 21 3,Zm 2 21] [.s 2]) .ret)
def A13:ACode:=(.seq (.reg [Zo 2 (.mv (.c (.lst .u 1 [])))] [.s 2]) (.seq (.reg [Zm 5 0,Zk 6 5,Zo 7 (.mks 1 (.i 0) 8 (Zt 6) (Zt 6)),Zm 3 7] [.s 3]) (.seqa (.reg [Zn 4 0] []) (.blk 0 (.loop A13L1)) [3] [3] A13R2)))
def V13:List RV:=[.t 2]
theorem m13:mtcF Try.prog 13 1 A13 V13=true:=by kernel_rfl
def A53:ACode:=(.seq (.reg [Zo 6 (.mv (.c (.b false)))] []) (.seq (.reg [Zm 7 0,Zm 8 1,Zb 9 .geq 7 8,Zm 10 9,⟨(some 11),.mv (Zt 0),(some (10,true))⟩,⟨(some 12),.mv (Zt 2),(some (10,true))⟩,⟨(some 13),.bin .leq (Zt 11) (Zt 12),(some (10,true))⟩,Zo 14 (.pick (Zt 10) (Zt 13) (.c (.b false))),Zm 6 14] []) .ret))
def V53:List RV:=[.t 6]
theorem m53:mtcF Try.prog 53 3 A53 V53=true:=by kernel_rfl
def A108:ACode:=(.seq (.reg [Zo 2 (.mv (.c (.b false)))] []) (.seq (.reg [Zm 3 0,Zo 4 (.bin .geq (Zt 3) (.c (.sc (.int .u8 97)))),Zm 5 4,⟨(some 6),.mv (Zt 0),(some (5,true))⟩,⟨(some 7),.bin .leq (Zt 6) (.c (.sc (.int .u8 122))),(some (5,true))⟩,Zo 8 (.pick (Zt 5) (Zt 7) (.c (.b false))),Zm 9 8,⟨(some 10),.mv (Zt 0),(some (9,false))⟩,⟨(some 11),.bin .geq (Zt 10) (.c (.sc (.int .u8 48))),(some (9,false))⟩,⟨(some 12),.mv (Zt 11),(some (9,false))⟩,⟨(some 13),.mv (Zt 0),(some (12,true))⟩,⟨(some 14),.bin .leq (Zt 13) (.c (.sc (.int .u8 57))),(some (12,true))⟩,⟨(some 15),.pick (Zt 12) (Zt 14) (.c (.b false)),(some (9,false))⟩,Zo 16 (.pick (Zt 9) (.c (.b true)) (Zt 15)),Zm 2 16] []) .ret))
def V108:List RV:=[.t 2]
theorem m108:mtcF Try.prog 108 1 A108 V108=true:=by kernel_rfl
def A72R1:ACode:=(.cond (Zt 17) (.seq (.reg [Zo 2 (.mv (.c (.b false)))] []) .ret) .skip)
def A72L2:ACode:=(.seq (.seq (.reg [Zm 18 3,Zm 19 0,Zo 20 (.lenz (Zt 19)),Zb 21 .lss 18 20] []) (.cond (Zt 21) .skip (.exit 0))) (.seq (.blk 1 (.seq (.reg [Zm 24 0,Zm 25 3,Zo 26 (.stri (Zt 24) (Zt 25)),Zo 27 (.call 108 [(Zt 26)]),Zo 28 (.un .not (Zt 27))] []) (.cond (Zt 28) (.seq (.reg [Zo 2 (.mv (.c (.b false)))] []) .ret) .skip))) (.reg [Zm 22 3,Zd 23 .add 22 1,Zm 3 23] [])))
def A72R3:ACode:=(.seq (.reg [Zo 2 (.mv (.c (.b true)))] []) .ret)
def A72:ACode:=(.seq (.reg [Zo 2 (.mv (.c (.b false)))] []) (.seq (.seqr (.reg [Zm 4 0,Zo 5 (.lenz (Zt 4)),Zo 6 (.call 53 [(Zt 5),(.c (.i 1)),(.c (.i 8))]),Zo 7 (.un .not (Zt 6)),Zm 8 7,⟨(some 9),.mv (Zt 0),(some (8,false))⟩,⟨(some 10),.stri (Zt 9) (.c (.i 0)),(some (8,false))⟩,⟨(some 11),.bin .lss (Zt 10) (.c (.sc (.int .u8 97))),(some (8,false))⟩,Zo 12 (.pick (Zt 8) (.c (.b true)) (Zt 11)),Zm 13 12,⟨(some 14),.mv (Zt 0),(some (13,false))⟩,⟨(some 15),.stri (Zt 14) (.c (.i 0)),(some (13,false))⟩,⟨(some 16),.bin .gtr (Zt 15) (.c (.sc (.int .u8 122))),(some (13,false))⟩,Zo 17 (.pick (Zt 13) (.c (.b true)) (Zt 16))] []) [0,17] [] A72R1) (.seqa (.reg [Zn 3 0] []) (.blk 0 (.loop A72L2)) [] [] A72R3)))
def V72:List RV:=[.t 2]
theorem m72:mtcF Try.prog 72 1 A72 V72=true:=by kernel_rfl
def A73L1:ACode:=(.seq (.seq (.reg [Zm 6 5,Zm 7 0,Zk 8 7,Zb 9 .lss 6 8] []) (.cond (Zt 9) .skip (.exit 0))) (.seq (.blk 1 (.seq (.reg [Zm 12 0,Zm 13 5,Zx 14 1 12 13,Zl 15 14,Zm 16 1,Zb 17 .eql 15 16] []) (.cond (Zt 17) (.seq (.reg [Zm 18 5,Zm 4 18] []) .ret) .skip))) (.reg [Zm 10 5,Zd 11 .add 10 1,Zm 5 11] [])))
def A73R2:ACode:=(.seq (.reg [Zn 4 (-1)] []) .ret)
def A73:ACode:=(.seq (.reg [Zn 4 0] []) (.seqa (.reg [Zn 5 0] []) (.blk 0 (.loop A73L1)) [] [] A73R2))
def V73:List RV:=[.t 4]
theorem m73:mtcF Try.prog 73 2 A73 V73=true:=by kernel_rfl
def A74:ACode:=(.seq (.reg [Zo 2 (.box 4 (Zt 0)),Zo 4 (.mv (.c (.b false)))] []) (.seq (.reg [Za 5 0 2,Zl 6 5,Zm 7 1,Zd 8 .sub 7 1,Zo 9 (.call 53 [(Zt 6),(.c (.i 0)),(Zt 8)]),Zm 10 9,⟨(some 11),.fad 1 (Zt 2),(some (10,true))⟩,⟨(some 12),.load 1 false (Zt 11),(some (10,true))⟩,⟨(some 13),.fad 0 (Zt 2),(some (10,true))⟩,⟨(some 14),.load 1 false (Zt 13),(some (10,true))⟩,⟨(some 15),.bin .add (Zt 14) (.c (.i 1)),(some (10,true))⟩,⟨(some 16),.mv (Zt 1),(some (10,true))⟩,⟨(some 17),.bin .sub (Zt 16) (.c (.i 1)),(some (10,true))⟩,⟨(some 18),.call 53 [(Zt 12),(Zt 15),(Zt 17)],(some (10,true))⟩,Zo 19 (.pick (Zt 10) (Zt 18) (.c (.b false))),Zm 20 19,⟨(some 21),.fad 2 (Zt 2),(some (20,true))⟩,⟨(some 22),.load 1 false (Zt 21),(some (20,true))⟩,⟨(some 23),.call 53 [(Zt 22),(.c (.i 1)),(.c (.i 5000))],(some (20,true))⟩,Zo 24 (.pick (Zt 20) (Zt 23) (.c (.b false))),Zm 25 24,⟨(some 26),.fad 3 (Zt 2),(some (25,true))⟩,⟨(some 27),.load 1 false (Zt 26),(some (25,true))⟩,⟨(some 28),.call 53 [(Zt 27),(.c (.i 0)),(.c (.i 9))],(some (25,true))⟩,Zo 29 (.pick (Zt 25) (Zt 28) (.c (.b false))),Zm 4 29] []) .ret))
def V74:List RV:=[.t 4]
theorem m74:mtcF Try.prog 74 2 A74 V74=true:=by kernel_rfl
def A75:ACode:=(.seq (.reg [Zo 2 (.box 4 (Zt 0)),Zo 3 (.box 4 (Zt 1)),Zn 4 0] []) (.seq (.blk 0 (.seq (.reg [Za 6 0 2,Zl 7 6,Za 8 0 3,Zl 9 8,Zb 10 .neq 7 9,Zm 5 10] []) (.cond (Zt 5) (.seq (.reg [Za 11 0 2,Zl 12 11,Za 13 0 3,Zl 14 13,Zb 15 .sub 12 14,Zm 4 15] []) .ret) (.seq (.reg [Za 17 1 2,Zl 18 17,Za 19 1 3,Zl 20 19,Zb 21 .neq 18 20,Zm 16 21] []) (.cond (Zt 16) (.seq (.reg [Za 22 1 2,Zl 23 22,Za 24 1 3,Zl 25 24,Zb 26 .sub 23 25,Zm 4 26] []) .ret) (.seq (.reg [Za 28 2 2,Zl 29 28,Za 30 2 3,Zl 31 30,Zb 32 .neq 29 31,Zm 27 32] []) (.cond (Zt 27) (.seq (.reg [Za 33 2 2,Zl 34 33,Za 35 2 3,Zl 36 35,Zb 37 .sub 34 36,Zm 4 37] []) .ret) .skip))))))) (.seq (.reg [Za 38 3 2,Zl 39 38,Za 40 3 3,Zl 41 40,Zb 42 .sub 39 41,Zm 4 42] []) .ret)))
def V75:List RV:=[.t 4]
theorem m75:mtcF Try.prog 75 2 A75 V75=true:=by kernel_rfl
def A40R1:ACode:=(.cond (Zt 15) (.seq (.reg [Zo 2 (.mv (.c (.b false)))] []) .ret) .skip)
def A40R2:ACode:=(.cond (Zt 41) (.seq (.reg [Zo 2 (.mv (.c (.b false)))] []) .ret) .skip)
def A40L3:ACode:=(.seq (.seq (.reg [Zm 16 3,Za 17 0 1,Zl 18 17,Zk 19 18,Zb 20 .lss 16 19] []) (.cond (Zt 20) .skip (.exit 0))) (.seq (.blk 1 (.seqr (.drw [Za 23 0 1,Zl 24 23,Zm 25 3,Zx 26 1 24 25,Zl 27 26,Zo 28 (.call 72 [(Zt 27)]),Zo 29 (.un .not (Zt 28)),Zm 30 29,⟨(some 31),.fad 0 (Zt 1),(some (30,false))⟩,⟨(some 32),.load 1 false (Zt 31),(some (30,false))⟩,⟨(some 33),.fad 0 (Zt 1),(some (30,false))⟩,⟨(some 34),.load 1 false (Zt 33),(some (30,false))⟩,⟨(some 35),.mv (Zt 3),(some (30,false))⟩,⟨(some 36),.idx 1 (Zt 34) (Zt 35),(some (30,false))⟩,⟨(some 37),.load 1 false (Zt 36),(some (30,false))⟩,⟨(some 38),.call 73 [(Zt 32),(Zt 37)],(some (30,false))⟩,⟨(some 39),.mv (Zt 3),(some (30,false))⟩,⟨(some 40),.bin .neq (Zt 38) (Zt 39),(some (30,false))⟩,Zo 41 (.pick (Zt 30) (.c (.b true)) (Zt 40))] []) [1,3,41] [1] A40R2)) (.reg [Zm 21 3,Zd 22 .add 21 1,Zm 3 22] [])))
def A40R5:ACode:=(.cond (Zt 77) (.seq (.reg [Zo 2 (.mv (.c (.b false)))] []) .ret) .skip)
def A40L6:ACode:=(.seq (.seq (.reg [Zm 42 4,Za 43 1 1,Zl 44 43,Zk 45 44,Zb 46 .lss 42 45] []) (.cond (Zt 46) .skip (.exit 2))) (.seq (.blk 3 (.seqr (.drw [Za 49 1 1,Zl 50 49,Zm 51 4,Zx 52 4 50 51,Zo 53 (.load 4 true (Zt 52)),Za 54 0 1,Zl 55 54,Zk 56 55,Zo 57 (.call 74 [(Zt 53),(Zt 56)]),Zo 58 (.un .not (Zt 57)),Zm 59 58,⟨(some 60),.mv (Zt 4),(some (59,false))⟩,⟨(some 61),.bin .gtr (Zt 60) (.c (.i 0)),(some (59,false))⟩,⟨(some 62),.mv (Zt 61),(some (59,false))⟩,⟨(some 63),.fad 1 (Zt 1),(some (62,true))⟩,⟨(some 64),.load 1 false (Zt 63),(some (62,true))⟩,⟨(some 65),.mv (Zt 4),(some (62,true))⟩,⟨(some 66),.bin .sub (Zt 65) (.c (.i 1)),(some (62,true))⟩,⟨(some 67),.idx 4 (Zt 64) (Zt 66),(some (62,true))⟩,⟨(some 68),.load 4 true (Zt 67),(some (62,true))⟩,⟨(some 69),.fad 1 (Zt 1),(some (62,true))⟩,⟨(some 70),.load 1 false (Zt 69),(some (62,true))⟩,⟨(some 71),.mv (Zt 4),(some (62,true))⟩,⟨(some 72),.idx 4 (Zt 70) (Zt 71),(some (62,true))⟩,⟨(some 73),.load 4 true (Zt 72),(some (62,true))⟩,⟨(some 74),.call 75 [(Zt 68),(Zt 73)],(some (62,true))⟩,⟨(some 75),.bin .gtr (Zt 74) (.c (.i 0)),(some (62,true))⟩,⟨(some 76),.pick (Zt 62) (Zt 75) (.c (.b false)),(some (59,false))⟩,Zo 77 (.pick (Zt 59) (.c (.b true)) (Zt 76))] []) [1,4,77] [1] A40R5)) (.reg [Zm 47 4,Zd 48 .add 47 1,Zm 4 48] [])))
def A40R7:ACode:=(.seq (.reg [Zo 2 (.mv (.c (.b true)))] []) .ret)
def A40R4:ACode:=(.seqa (.reg [Zn 4 0] []) (.blk 2 (.loop A40L6)) [] [] A40R7)
def A40:ACode:=(.seq (.reg [Zo 1 (.box 2 (Zt 0)),Zo 2 (.mv (.c (.b false)))] []) (.seq (.seqr (.reg [Za 5 0 1,Zl 6 5,Zk 7 6,Zo 8 (.call 53 [(Zt 7),(.c (.i 2)),(.c (.i 8))]),Zo 9 (.un .not (Zt 8)),Zm 10 9,⟨(some 11),.fad 1 (Zt 1),(some (10,false))⟩,⟨(some 12),.load 1 false (Zt 11),(some (10,false))⟩,⟨(some 13),.len (Zt 12),(some (10,false))⟩,⟨(some 14),.bin .gtr (Zt 13) (.c (.i 14)),(some (10,false))⟩,Zo 15 (.pick (Zt 10) (.c (.b true)) (Zt 14))] []) [1,15] [1] A40R1) (.seqa (.reg [Zn 3 0] []) (.blk 0 (.loop A40L3)) [1] [1] A40R4)))
def V40:List RV:=[.t 2]
theorem m40:mtcF Try.prog 40 1 A40 V40=true:=by kernel_rfl
def A60L1:ACode:=(.seq (.seq (.reg [Zm 6 5,Zm 7 0,Zk 8 7,Zb 9 .lss 6 8] []) (.cond (Zt 9) .skip (.exit 0))) (.seq (.blk 1 (.seq (.reg [Zm 12 0,Zm 13 5,Zx 14 1 12 13,Zl 15 14,Zm 16 1,Zb 17 .eql 15 16] []) (.cond (Zt 17) (.seq (.reg [Zo 4 (.mv (.c (.b true)))] []) .ret) .skip))) (.reg [Zm 10 5,Zd 11 .add 10 1,Zm 5 11] [])))
def A60R2:ACode:=(.seq (.reg [Zo 4 (.mv (.c (.b false)))] []) .ret)
def A60:ACode:=(.seq (.reg [Zo 4 (.mv (.c (.b false)))] []) (.seqa (.reg [Zn 5 0] []) (.blk 0 (.loop A60L1)) [] [] A60R2))
def V60:List RV:=[.t 4]
theorem m60:mtcF Try.prog 60 2 A60 V60=true:=by kernel_rfl
def A99:ACode:=(.seq (.reg [Zo 3 (.box 2 (Zt 0)),Zn 6 0] []) (.seq (.reg [Za 8 1 3,Zl 9 8,Zm 10 1,Zx 11 4 9 10,Zo 12 (.load 4 true (Zt 11)),Zo 7 (.alloc (.agg [.i 0,.i 0,.i 0,.i 0])),⟨none,.store 4 (Zt 7) (Zt 12),none⟩] []) (.seq (.seq (.reg [Zm 13 2] []) (.blk 0 (.seq (.reg [Za 15 0 7,Zl 16 15,Zb 17 .eql 13 16,Zm 14 17] []) (.cond (Zt 14) (.seq (.reg [Za 18 1 7,Zl 19 18,Zm 6 19] []) .ret) (.seq (.reg [Za 21 1 7,Zl 22 21,Zb 23 .eql 13 22,Zm 20 23] []) (.cond (Zt 20) (.seq (.reg [Za 24 0 7,Zl 25 24,Zm 6 25] []) .ret) .skip)))))) (.seq (.reg [Zn 6 (-1)] []) .ret))))
def V99:List RV:=[.t 6]
theorem m99:mtcF Try.prog 99 3 A99 V99=true:=by kernel_rfl
def A76R1:ACode:=(.cond (Zt 43) (.seq (.reg [Zm 44 8,Zm 6 44,Zo 7 (.mv (.c (.b false)))] [.s 6]) .ret) .skip)
def A76L2:ACode:=(.seq (.seq (.reg [Zm 13 10,Zm 14 1,Zk 15 14,Zb 16 .lss 13 15] []) (.cond (Zt 16) .skip (.exit 0))) (.seq (.blk 1 (.seq (.seqr (.drw [Zm 19 1,Zm 20 10,Zx 21 1 19 20,Zl 22 21,Za 23 1 3,Zl 24 23,Zk 25 24,Zd 26 .sub 25 1,Zo 27 (.call 53 [(Zt 22),(.c (.i 0)),(Zt 26)]),Zo 28 (.un .not (Zt 27)),Zm 29 28,⟨(some 30),.mv (Zt 1),(some (29,false))⟩,⟨(some 31),.mv (Zt 10),(some (29,false))⟩,⟨(some 32),.slc 1 (Zt 30) none (some (Zt 31)) none,(some (29,false))⟩,⟨(some 33),.mv (Zt 1),(some (29,false))⟩,⟨(some 34),.mv (Zt 10),(some (29,false))⟩,⟨(some 35),.idx 1 (Zt 33) (Zt 34),(some (29,false))⟩,⟨(some 36),.load 1 false (Zt 35),(some (29,false))⟩,⟨(some 37),.call 60 [(Zt 32),(Zt 36)],(some (29,false))⟩,Zo 38 (.pick (Zt 29) (.c (.b true)) (Zt 37)),Zm 39 38,⟨(some 40),.mv (Zt 8),(some (39,false))⟩,⟨(some 41),.mv (Zt 9),(some (39,false))⟩,⟨(some 42),.call 60 [(Zt 40),(Zt 41)],(some (39,false))⟩,Zo 43 (.pick (Zt 39) (.c (.b true)) (Zt 42))] []) [1,2,3,8,9,10,43] [3,8] A76R1) (.seq (.reg [Zm 45 8,Zm 46 9,Zo 47 (.bsl 1 false [(Zt 46)]),Zo 48 (.app 1 8 true (Zt 45) (Zt 47)),Zm 8 48] [.s 8]) (.seq (.drw [Zo 49 (.load 2 true (Zt 3)),Zm 50 1,Zm 51 10,Zx 52 1 50 51,Zl 53 52,Zm 54 9,Zo 55 (.call 99 [(Zt 49),(Zt 53),(Zt 54)]),Zm 9 55] []) (.seq (.reg [Zm 56 9,Zd 57 .lss 56 0] []) (.cond (Zt 57) (.seq (.reg [Zm 58 8,Zm 6 58,Zo 7 (.mv (.c (.b false)))] [.s 6]) .ret) .skip)))))) (.reg [Zm 17 10,Zd 18 .add 17 1,Zm 10 18] [])))
def A76R3:ACode:=(.seq (.reg [Zm 59 8,Zm 60 9,Zm 61 2,Zb 62 .eql 60 61,Zm 63 62,⟨(some 64),.mv (Zt 1),(some (63,true))⟩,⟨(some 65),.len (Zt 64),(some (63,true))⟩,⟨(some 66),.bin .gtr (Zt 65) (.c (.i 1)),(some (63,true))⟩,Zo 67 (.pick (Zt 63) (Zt 66) (.c (.b false))),Zm 6 59,Zm 7 67] [.s 6]) .ret)
def A76:ACode:=(.seq (.reg [Zo 3 (.box 2 (Zt 0)),Zo 6 (.mv (.c (.lst .u 1 []))),Zo 7 (.mv (.c (.b false)))] [.s 6]) (.seq (.reg [Zo 11 (.bsl 1 false []),Zm 8 11] [.s 8]) (.seq (.reg [Zm 12 2,Zm 9 12] []) (.seqa (.reg [Zn 10 0] []) (.blk 0 (.loop A76L2)) [1,2,8,9] [8] A76R3))))
def V76:List RV:=[.t 6,.t 7]
theorem m76:mtcF Try.prog 76 3 A76 V76=true:=by kernel_rfl
def A78L1:ACode:=(.seq (.seq (.reg [Zm 9 4,Zd 10 .geq 9 0] []) (.cond (Zt 10) .skip (.exit 0))) (.seq (.blk 1 (.reg [Zm 13 3,Zm 14 0,Zm 15 4,Zx 16 1 14 15,Zl 17 16,Zo 18 (.bsl 1 false [(Zt 17)]),Zo 19 (.app 1 8 true (Zt 13) (Zt 18)),Zm 3 19] [.s 3])) (.reg [Zm 11 4,Zd 12 .sub 11 1,Zm 4 12] [])))
def A78R2:ACode:=(.seq (.reg [Zm 20 3,Zm 2 20] [.s 2]) .ret)
def A78:ACode:=(.seq (.reg [Zo 2 (.mv (.c (.lst .u 1 [])))] [.s 2]) (.seq (.reg [Zo 5 (.bsl 1 false []),Zm 3 5] [.s 3]) (.seqa (.reg [Zm 6 0,Zk 7 6,Zd 8 .sub 7 1,Zm 4 8] []) (.blk 0 (.loop A78L1)) [3] [3] A78R2)))
def V78:List RV:=[.t 2]
theorem m78:mtcF Try.prog 78 1 A78 V78=true:=by kernel_rfl
def A77L1:ACode:=(.seq (.seq (.reg [Zm 16 5,Zm 17 0,Zk 18 17,Zb 19 .lss 16 18] []) (.cond (Zt 19) .skip (.exit 0))) (.seq (.blk 1 (.seq (.drw [Zm 22 0,Zm 23 5,Zx 24 1 22 23,Zl 25 24,Zm 26 1,Zm 27 5,Zx 28 1 26 27,Zl 29 28,Zb 30 .neq 25 29] []) (.cond (Zt 30) (.seq (.drw [Zm 31 0,Zm 32 5,Zx 33 1 31 32,Zl 34 33,Zm 35 1,Zm 36 5,Zx 37 1 35 36,Zl 38 37,Zb 39 .lss 34 38,Zm 4 39] []) .ret) .skip))) (.reg [Zm 20 5,Zd 21 .add 20 1,Zm 5 21] [])))
def A77R2:ACode:=(.seq (.reg [Zo 4 (.mv (.c (.b false)))] []) .ret)
def A77:ACode:=(.seq (.reg [Zo 4 (.mv (.c (.b false)))] []) (.seq (.seq (.reg [Zm 6 0,Zk 7 6,Zm 8 1,Zk 9 8,Zb 10 .neq 7 9] []) (.cond (Zt 10) (.seq (.reg [Zm 11 0,Zk 12 11,Zm 13 1,Zk 14 13,Zb 15 .lss 12 14,Zm 4 15] []) .ret) .skip)) (.seqa (.reg [Zn 5 0] []) (.blk 0 (.loop A77L1)) [] [] A77R2)))
def V77:List RV:=[.t 4]
theorem m77:mtcF Try.prog 77 2 A77 V77=true:=by kernel_rfl
def A41L1:ACode:=(.seq (.seq (.reg [Zm 26 9,Zm 27 6,Zk 28 27,Zb 29 .lss 26 28] []) (.cond (Zt 29) .skip (.exit 2))) (.seq (.blk 3 (.reg [Zm 32 8,Zm 33 32,⟨(some 34),.mv (Zt 6),(some (33,true))⟩,⟨(some 35),.mv (Zt 9),(some (33,true))⟩,⟨(some 36),.idx 1 (Zt 34) (Zt 35),(some (33,true))⟩,⟨(some 37),.load 1 false (Zt 36),(some (33,true))⟩,⟨(some 38),.mv (Zt 5),(some (33,true))⟩,⟨(some 39),.bin .geq (Zt 37) (Zt 38),(some (33,true))⟩,Zo 40 (.pick (Zt 33) (Zt 39) (.c (.b false))),Zm 8 40] [])) (.reg [Zm 30 9,Zd 31 .add 30 1,Zm 9 31] [])))
def A41R2:ACode:=(.seq (.reg [Zm 41 8,Zm 42 41,⟨(some 43),.mv (Zt 1),(some (42,true))⟩,⟨(some 44),.call 78 [(Zt 43)],(some (42,true))⟩,⟨(some 45),.mv (Zt 1),(some (42,true))⟩,⟨(some 46),.call 77 [(Zt 44),(Zt 45)],(some (42,true))⟩,⟨(some 47),.un .not (Zt 46),(some (42,true))⟩,Zo 48 (.pick (Zt 42) (Zt 47) (.c (.b false))),Zm 4 48] []) .ret)
def A41L3:ACode:=(.seq (.seq (.reg [Zm 10 5,Za 11 0 2,Zl 12 11,Zk 13 12,Zb 14 .lss 10 13] []) (.cond (Zt 14) .skip (.exit 0))) (.seq (.blk 1 (.seq (.reg [Zo 18 (.load 2 true (Zt 2)),Zm 19 1,Zm 20 5,Zo 21 (.call 76 [(Zt 18),(Zt 19),(Zt 20)]),Zm 17 21,Ze 22 17 0,Ze 23 17 1,Zm 6 22,Zm 7 23] [.s 6]) (.seq (.seq (.reg [Zm 24 7,Zo 25 (.un .not (Zt 24))] []) (.cond (Zt 25) (.exit 1) .skip)) (.seq (.reg [Zo 8 (.mv (.c (.b true)))] []) (.seqa (.reg [Zn 9 0] []) (.blk 2 (.loop A41L1)) [1,8] [] A41R2))))) (.reg [Zm 15 5,Zd 16 .add 15 1,Zm 5 16] [])))
def A41R4:ACode:=(.seq (.reg [Zo 4 (.mv (.c (.b false)))] []) .ret)
def A41:ACode:=(.seq (.reg [Zo 2 (.box 2 (Zt 0)),Zo 4 (.mv (.c (.b false)))] []) (.seqa (.reg [Zn 5 0] []) (.blk 0 (.loop A41L3)) [] [] A41R4))
def V41:List RV:=[.t 4]
theorem m41:mtcF Try.prog 41 2 A41 V41=true:=by kernel_rfl
def A11:ACode:=(.seq (.reg [Zo 2 (.box 2 (Zt 0)),Zo 4 (.mv (.c (.b false)))] []) (.seq (.reg [Zo 5 (.load 2 true (Zt 2)),Zo 6 (.call 40 [(Zt 5)]),Zm 7 6,⟨(some 8),.load 2 true (Zt 2),(some (7,true))⟩,⟨(some 9),.mv (Zt 1),(some (7,true))⟩,⟨(some 10),.call 41 [(Zt 8),(Zt 9)],(some (7,true))⟩,Zo 11 (.pick (Zt 7) (Zt 10) (.c (.b false))),Zm 4 11] []) .ret))
def V11:List RV:=[.t 4]
theorem m11:mtcF Try.prog 11 2 A11 V11=true:=by kernel_rfl
def A46L1:ACode:=(.seq (.seq (.reg [Zm 8 5,Za 9 0 2,Zl 10 9,Zk 11 10,Zb 12 .lss 8 11] []) (.cond (Zt 12) .skip (.exit 0))) (.seq (.blk 1 (.seq (.reg [Zo 16 (.load 2 true (Zt 2)),Zm 17 1,Zm 18 5,Zo 19 (.call 76 [(Zt 16),(Zt 17),(Zt 18)]),Zm 15 19,Ze 20 15 0,Ze 21 15 1,Zm 6 20,Zm 7 21] [.s 6]) (.seq (.reg [Zm 22 7] []) (.cond (Zt 22) (.seq (.reg [Zm 23 6,Zm 4 23] [.s 4]) .ret) .skip)))) (.reg [Zm 13 5,Zd 14 .add 13 1,Zm 5 14] [])))
def A46R2:ACode:=(.seq (.reg [Zo 24 (.bsl 1 false []),Zm 4 24] [.s 4]) .ret)
def A46:ACode:=(.seq (.reg [Zo 2 (.box 2 (Zt 0)),Zo 4 (.mv (.c (.lst .u 1 [])))] [.s 4]) (.seqa (.reg [Zn 5 0] []) (.blk 0 (.loop A46L1)) [] [] A46R2))
def V46:List RV:=[.t 4]
theorem m46:mtcF Try.prog 46 2 A46 V46=true:=by kernel_rfl
def A51R1:ACode:=(.cond (Zt 30) (.reg [Zm 49 7,Zm 50 9,Zo 51 (.bsl 1 false [(Zt 50)]),Zo 52 (.app 1 8 true (Zt 49) (Zt 51)),Zm 7 52] [.s 7]) .skip)
def A51L2:ACode:=(.seq (.seq (.reg [Zm 15 9,Za 16 1 2,Zl 17 16,Zk 18 17,Zb 19 .lss 15 18] []) (.cond (Zt 19) .skip (.exit 0))) (.seq (.blk 1 (.blk 2 (.seq (.reg [Zm 23 1,Zm 24 9,Zo 25 (.call 60 [(Zt 23),(Zt 24)]),Zm 22 25] []) (.cond (Zt 22) (.reg [Zm 26 6,Zm 27 9,Zo 28 (.bsl 1 false [(Zt 27)]),Zo 29 (.app 1 8 true (Zt 26) (Zt 28)),Zm 6 29] [.s 6]) (.seqr (.reg [Zm 31 8,Za 32 1 2,Zl 33 32,Zm 34 9,Zx 35 4 33 34,Za 36 0 35,Zl 37 36,Zo 38 (.call 60 [(Zt 31),(Zt 37)]),Zm 39 38,⟨(some 40),.mv (Zt 8),(some (39,true))⟩,⟨(some 41),.fad 1 (Zt 2),(some (39,true))⟩,⟨(some 42),.load 1 false (Zt 41),(some (39,true))⟩,⟨(some 43),.mv (Zt 9),(some (39,true))⟩,⟨(some 44),.idx 4 (Zt 42) (Zt 43),(some (39,true))⟩,⟨(some 45),.fad 1 (Zt 44),(some (39,true))⟩,⟨(some 46),.load 1 false (Zt 45),(some (39,true))⟩,⟨(some 47),.call 60 [(Zt 40),(Zt 46)],(some (39,true))⟩,Zo 48 (.pick (Zt 39) (Zt 47) (.c (.b false))),Zm 30 48] []) [1,2,6,7,8,9,30] [2,6,7,8] A51R1))))) (.reg [Zm 20 9,Zd 21 .add 20 1,Zm 9 21] [])))
def A51R3:ACode:=(.seq (.reg [Zm 53 6,Zm 54 7,Zm 4 53,Zm 5 54] [.s 4,.s 5]) .ret)
def A51:ACode:=(.seq (.reg [Zo 2 (.box 2 (Zt 0)),Zo 4 (.mv (.c (.lst .u 1 []))),Zo 5 (.mv (.c (.lst .u 1 [])))] [.s 4,.s 5]) (.seq (.reg [Zo 10 (.bsl 1 false []),Zo 11 (.bsl 1 false []),Zm 6 10,Zm 7 11] [.s 6,.s 7]) (.seq (.reg [Zo 12 (.load 2 true (Zt 2)),Zm 13 1,Zo 14 (.call 46 [(Zt 12),(Zt 13)]),Zm 8 14] [.s 8]) (.seqa (.reg [Zn 9 0] []) (.blk 0 (.loop A51L2)) [6,7] [6,7] A51R3))))
def V51:List RV:=[.t 4,.t 5]
theorem m51:mtcF Try.prog 51 2 A51 V51=true:=by kernel_rfl
def A61L1:ACode:=(.seq (.seq (.reg [Zm 16 9,Zm 17 10,Zx 18 1 16 17,Zl 19 18,Zm 20 2,Zb 21 .neq 19 20] []) (.cond (Zt 21) .skip (.exit 0))) (.blk 1 (.reg [Zm 22 10,Zd 23 .add 22 1,Zm 10 23] [])))
def A61L3:ACode:=(.seq (.seq (.reg [Zm 27 12,Zm 28 3,Zb 29 .neq 27 28] []) (.cond (Zt 29) .skip (.exit 2))) (.blk 3 (.seq (.drw [Za 30 1 11,Zl 31 30,Zm 32 1,Zm 33 10,Zx 34 1 32 33,Zl 35 34,Zo 36 (.bsl 1 true [(Zt 35)]),Zo 37 (.app 1 8 true (Zt 31) (Zt 36)),Za 38 1 11,⟨none,.store 1 (Zt 38) (Zt 37),none⟩] [.f false 500000705 11 1]) (.seq (.drw [Zo 39 (.load 2 true (Zt 4)),Zm 40 1,Zm 41 10,Zx 42 1 40 41,Zl 43 42,Zm 44 12,Zo 45 (.call 99 [(Zt 39),(Zt 43),(Zt 44)]),Zm 12 45] []) (.reg [Zm 46 10,Zd 47 .add 46 1,Zm 48 1,Zk 49 48,Zb 50 .rem 47 49,Zm 10 50] [])))))
def A61R4:ACode:=(.seq (.reg [Zo 51 (.load 2 true (Zt 11)),⟨none,.store 2 (Zt 8) (Zt 51),none⟩] [.f false 500000513 8 1]) .ret)
def A61R2:ACode:=(.seq (.reg [Zm 24 2,Zo 25 (.build [.i 0,.lst .u 1 []] [(0,1,(Zt 24))]),Zo 11 (.alloc (.agg [.i 0,.lst .u 1 []])),⟨none,.store 2 (Zt 11) (Zt 25),none⟩] [.f false 500000705 11 1]) (.seq (.reg [Zm 26 2,Zm 12 26] []) (.seqr (.blk 2 (.loop A61L3)) [8,11] [8,11,500000705] A61R4)))
def A61:ACode:=(.seq (.reg [Zo 4 (.box 2 (Zt 0)),Zo 8 (.alloc (.agg [.i 0,.lst .u 1 []]))] []) (.seq (.reg [Zo 13 (.load 2 true (Zt 4)),Zm 14 1,Zo 15 (.call 46 [(Zt 13),(Zt 14)]),Zm 9 15] [.s 9]) (.seq (.reg [Zn 10 0] []) (.seqr (.blk 0 (.loop A61L1)) [1,2,3,4,8,10] [4,8] A61R2))))
def V61:List RV:=[.c 8 2 true]
theorem m61:mtcF Try.prog 61 4 A61 V61=true:=by kernel_rfl
def A115R1:ACode:=(.cond (Zt 25) (.seq (.reg [Zm 26 6,Zm 4 26,Zo 5 (.mv (.c (.b false)))] [.s 4]) .ret) .skip)
def A115R2:ACode:=(.cond (Zt 65) (.seq (.reg [Zm 66 6,Zm 4 66,Zo 5 (.mv (.c (.b false)))] [.s 4]) .ret) .skip)
def A115L3:ACode:=(.seq (.seq (.reg [Zm 27 7,Za 28 1 3,Zl 29 28,Zk 30 29,Zb 31 .lss 27 30] []) (.cond (Zt 31) .skip (.exit 0))) (.seq (.blk 1 (.seq (.seq (.drw [Za 34 1 3,Zl 35 34,Zm 36 7,Zx 37 1 35 36,Zl 38 37,Za 39 1 2,Zl 40 39,Zk 41 40,Zd 42 .sub 41 1,Zo 43 (.call 53 [(Zt 38),(.c (.i 0)),(Zt 42)]),Zo 44 (.un .not (Zt 43))] []) (.cond (Zt 44) (.seq (.reg [Zm 45 6,Zm 4 45,Zo 5 (.mv (.c (.b false)))] [.s 4]) .ret) .skip)) (.seq (.drw [Zo 46 (.load 2 true (Zt 2)),Za 47 1 3,Zl 48 47,Zm 49 7,Zx 50 1 48 49,Zl 51 50,Zm 52 6,Zm 53 6,Zk 54 53,Zd 55 .sub 54 1,Zx 56 1 52 55,Zl 57 56,Zo 58 (.call 99 [(Zt 46),(Zt 51),(Zt 57)]),Zm 8 58] []) (.seq (.seqr (.reg [Zm 59 8,Zd 60 .lss 59 0,Zm 61 60,⟨(some 62),.mv (Zt 6),(some (61,false))⟩,⟨(some 63),.mv (Zt 8),(some (61,false))⟩,⟨(some 64),.call 60 [(Zt 62),(Zt 63)],(some (61,false))⟩,Zo 65 (.pick (Zt 61) (.c (.b true)) (Zt 64))] []) [2,3,6,7,8,65] [2,3,6] A115R2) (.reg [Zm 67 6,Zm 68 8,Zo 69 (.bsl 1 false [(Zt 68)]),Zo 70 (.app 1 8 true (Zt 67) (Zt 69)),Zm 6 70] [.s 6]))))) (.reg [Zm 32 7,Zd 33 .add 32 1,Zm 7 33] [])))
def A115R4:ACode:=(.seq (.reg [Zm 71 6,Zm 4 71,Zo 5 (.mv (.c (.b true)))] [.s 4]) .ret)
def A115:ACode:=(.seq (.reg [Zo 2 (.box 2 (Zt 0)),Zo 3 (.box 2 (Zt 1)),Zo 4 (.mv (.c (.lst .u 1 []))),Zo 5 (.mv (.c (.b false)))] [.s 4]) (.seq (.reg [Za 9 0 3,Zl 10 9,Zo 11 (.bsl 1 false [(Zt 10)]),Zm 6 11] [.s 6]) (.seq (.seqr (.reg [Za 12 0 3,Zl 13 12,Za 14 0 2,Zl 15 14,Zk 16 15,Zd 17 .sub 16 1,Zo 18 (.call 53 [(Zt 13),(.c (.i 0)),(Zt 17)]),Zo 19 (.un .not (Zt 18)),Zm 20 19,⟨(some 21),.fad 1 (Zt 3),(some (20,false))⟩,⟨(some 22),.load 1 false (Zt 21),(some (20,false))⟩,⟨(some 23),.len (Zt 22),(some (20,false))⟩,⟨(some 24),.bin .eql (Zt 23) (.c (.i 0)),(some (20,false))⟩,Zo 25 (.pick (Zt 20) (.c (.b true)) (Zt 24))] []) [2,3,6,25] [2,3,6] A115R1) (.seqa (.reg [Zn 7 0] []) (.blk 0 (.loop A115L3)) [6] [6] A115R4))))
def V115:List RV:=[.t 4,.t 5]
theorem m115:mtcF Try.prog 115 2 A115 V115=true:=by kernel_rfl
def A100:ACode:=(.seq (.reg [Zo 2 (.box 2 (Zt 0)),Zo 3 (.box 2 (Zt 1)),Zo 4 (.mv (.c (.b false)))] []) (.seq (.seq (.reg [Zo 7 (.load 2 true (Zt 2)),Zo 8 (.call 40 [(Zt 7)]),Zo 9 (.un .not (Zt 8))] []) (.cond (Zt 9) (.seq (.reg [Zo 4 (.mv (.c (.b false)))] []) .ret) .skip)) (.seq (.reg [Zo 11 (.load 2 true (Zt 2)),Zo 12 (.load 2 true (Zt 3)),Zo 13 (.call 115 [(Zt 11),(Zt 12)]),Zm 10 13,Ze 14 10 0,Ze 15 10 1,Zm 5 14,Zm 6 15] [.s 5]) (.seq (.reg [Zm 16 6,Zm 4 16] []) .ret))))
def V100:List RV:=[.t 4]
theorem m100:mtcF Try.prog 100 2 A100 V100=true:=by kernel_rfl
def A116:ACode:=(.seq (.reg [Zo 2 (.box 2 (Zt 0)),Zo 3 (.box 2 (Zt 1)),Zo 4 (.mv (.c (.lst .u 1 [])))] [.s 4]) (.seq (.reg [Zo 8 (.load 2 true (Zt 2)),Zo 9 (.load 2 true (Zt 3)),Zo 10 (.call 115 [(Zt 8),(Zt 9)]),Zm 7 10,Ze 11 7 0,Ze 12 7 1,Zm 5 11,Zm 6 12] [.s 5]) (.seq (.reg [Zm 13 5,Zm 4 13] [.s 4]) .ret)))
def V116:List RV:=[.t 4]
theorem m116:mtcF Try.prog 116 2 A116 V116=true:=by kernel_rfl
def A101:ACode:=(.seq (.reg [Zo 2 (.box 2 (Zt 0)),Zo 3 (.box 2 (Zt 1)),Zn 4 0] []) (.seq (.reg [Zo 6 (.load 2 true (Zt 2)),Zo 7 (.load 2 true (Zt 3)),Zo 8 (.call 116 [(Zt 6),(Zt 7)]),Zm 5 8] [.s 5]) (.seq (.reg [Zm 9 5,Zm 10 5,Zk 11 10,Zd 12 .sub 11 1,Zx 13 1 9 12,Zl 14 13,Zm 4 14] []) .ret)))
def V101:List RV:=[.t 4]
theorem m101:mtcF Try.prog 101 2 A101 V101=true:=by kernel_rfl
def A62L1:ACode:=(.seq (.seq (.reg [Zm 21 7,Zd 22 .geq 21 0] []) (.cond (Zt 22) .skip (.exit 0))) (.seq (.blk 1 (.drw [Za 25 1 6,Zl 26 25,Za 27 1 3,Zl 28 27,Zm 29 7,Zx 30 1 28 29,Zl 31 30,Zo 32 (.bsl 1 true [(Zt 31)]),Zo 33 (.app 1 8 true (Zt 26) (Zt 32)),Za 34 1 6,⟨none,.store 1 (Zt 34) (Zt 33),none⟩] [.f false 500000385 6 1])) (.reg [Zm 23 7,Zd 24 .sub 23 1,Zm 7 24] [])))
def A62R2:ACode:=(.seq (.reg [Zo 35 (.load 2 true (Zt 6)),⟨none,.store 2 (Zt 4) (Zt 35),none⟩,Zo 5 (.mv (.c (.b true)))] [.f false 500000257 4 1]) .ret)
def A62:ACode:=(.seq (.reg [Zo 2 (.box 2 (Zt 0)),Zo 3 (.box 2 (Zt 1)),Zo 4 (.alloc (.agg [.i 0,.lst .u 1 []])),Zo 5 (.mv (.c (.b false)))] []) (.seq (.seq (.reg [Zo 8 (.load 2 true (Zt 2)),Zo 9 (.load 2 true (Zt 3)),Zo 10 (.call 100 [(Zt 8),(Zt 9)]),Zo 11 (.un .not (Zt 10))] []) (.cond (Zt 11) (.seq (.reg [Zo 12 (.build [.i 0,.lst .u 1 []] []),⟨none,.store 2 (Zt 4) (Zt 12),none⟩,Zo 5 (.mv (.c (.b false)))] [.f false 500000257 4 1]) .ret) .skip)) (.seq (.reg [Zo 13 (.load 2 true (Zt 2)),Zo 14 (.load 2 true (Zt 3)),Zo 15 (.call 101 [(Zt 13),(Zt 14)]),Zo 16 (.build [.i 0,.lst .u 1 []] [(0,1,(Zt 15))]),Zo 6 (.alloc (.agg [.i 0,.lst .u 1 []])),⟨none,.store 2 (Zt 6) (Zt 16),none⟩] [.f false 500000385 6 1]) (.seqa (.reg [Za 17 1 3,Zl 18 17,Zk 19 18,Zd 20 .sub 19 1,Zm 7 20] []) (.blk 0 (.loop A62L1)) [4,6] [4,6,500000385] A62R2))))
def V62:List RV:=[.c 4 2 true,.t 5]
theorem m62:mtcF Try.prog 62 2 A62 V62=true:=by kernel_rfl
def A102L1:ACode:=(.seq (.seq (.reg [Zm 7 6,Za 8 1 3,Zl 9 8,Zk 10 9,Zb 11 .lss 7 10] []) (.cond (Zt 11) .skip (.exit 0))) (.seq (.blk 1 (.drw [Zm 14 5,Za 15 1 2,Zl 16 15,Za 17 1 3,Zl 18 17,Zm 19 6,Zx 20 1 18 19,Zl 21 20,Zx 22 4 16 21,Za 23 2 22,Zl 24 23,Zb 25 .add 14 24,Zm 5 25] [])) (.reg [Zm 12 6,Zd 13 .add 12 1,Zm 6 13] [])))
def A102R2:ACode:=(.seq (.reg [Zm 26 5,Zm 4 26] []) .ret)
def A102:ACode:=(.seq (.reg [Zo 2 (.box 2 (Zt 0)),Zo 3 (.box 2 (Zt 1)),Zn 4 0] []) (.seq (.reg [Zn 5 0] []) (.seqa (.reg [Zn 6 0] []) (.blk 0 (.loop A102L1)) [5] [] A102R2)))
def V102:List RV:=[.t 4]
theorem m102:mtcF Try.prog 102 2 A102 V102=true:=by kernel_rfl
def A103:ACode:=(.seq (.reg [Zn 2 0] []) (.seq (.blk 0 (.seq (.reg [Zm 4 0,Zd 5 .lss 4 0,Zm 3 5] []) (.cond (Zt 3) (.seq (.reg [Zn 2 (-1)] []) .ret) (.seq (.reg [Zm 7 0,Zd 8 .gtr 7 0,Zm 6 8] []) (.cond (Zt 6) (.seq (.reg [Zn 2 1] []) .ret) .skip))))) (.seq (.reg [Zn 2 0] []) .ret)))
def V103:List RV:=[.t 2]
theorem m103:mtcF Try.prog 103 1 A103 V103=true:=by kernel_rfl
def A63L1:ACode:=(.seq (.seq (.reg [Zm 32 9,Za 33 1 4,Zl 34 33,Zk 35 34,Zb 36 .lss 32 35] []) (.cond (Zt 36) .skip (.exit 0))) (.seq (.blk 1 (.seq (.drw [Za 39 1 4,Zl 40 39,Zm 41 9,Zx 42 1 40 41,Zl 43 42,Za 44 1 5,Zl 45 44,Zm 46 9,Zx 47 1 45 46,Zl 48 47,Zb 49 .neq 43 48] []) (.cond (Zt 49) (.seq (.drw [Za 50 1 4,Zl 51 50,Zm 52 9,Zx 53 1 51 52,Zl 54 53,Za 55 1 5,Zl 56 55,Zm 57 9,Zx 58 1 56 57,Zl 59 58,Zb 60 .sub 54 59,Zo 61 (.call 103 [(Zt 60)]),Zm 6 61] []) .ret) .skip))) (.reg [Zm 37 9,Zd 38 .add 37 1,Zm 9 38] [])))
def A63R2:ACode:=(.seq (.reg [Za 62 0 4,Zl 63 62,Za 64 0 5,Zl 65 64,Zb 66 .sub 63 65,Zo 67 (.call 103 [(Zt 66)]),Zm 6 67] []) .ret)
def A63:ACode:=(.seq (.reg [Zo 3 (.box 2 (Zt 0)),Zo 4 (.box 2 (Zt 1)),Zo 5 (.box 2 (Zt 2)),Zn 6 0] []) (.seq (.seq (.drw [Zo 10 (.load 2 true (Zt 3)),Zo 11 (.load 2 true (Zt 4)),Zo 12 (.call 102 [(Zt 10),(Zt 11)]),Zo 13 (.load 2 true (Zt 3)),Zo 14 (.load 2 true (Zt 5)),Zo 15 (.call 102 [(Zt 13),(Zt 14)]),Zb 16 .sub 12 15,Zm 7 16] []) (.seq (.reg [Zm 17 7,Zd 18 .neq 17 0] []) (.cond (Zt 18) (.seq (.reg [Zm 19 7,Zo 20 (.call 103 [(Zt 19)]),Zm 6 20] []) .ret) .skip))) (.seq (.seq (.reg [Za 21 1 4,Zl 22 21,Zk 23 22,Za 24 1 5,Zl 25 24,Zk 26 25,Zb 27 .sub 23 26,Zm 8 27] []) (.seq (.reg [Zm 28 8,Zd 29 .neq 28 0] []) (.cond (Zt 29) (.seq (.reg [Zm 30 8,Zo 31 (.call 103 [(Zt 30)]),Zm 6 31] []) .ret) .skip))) (.seqa (.reg [Zn 9 0] []) (.blk 0 (.loop A63L1)) [4,5] [4,5] A63R2))))
def V63:List RV:=[.t 6]
theorem m63:mtcF Try.prog 63 3 A63 V63=true:=by kernel_rfl
def A33R1:ACode:=(.cond (Zt 29) (.seq (.reg [Zm 30 8,Zm 6 30,Zo 7 (.mv (.c (.b false)))] [.s 6]) .ret) .skip)
def A33R2:ACode:=(.cond (Zt 46) (.seq (.reg [Zm 47 8,Zm 6 47,Zo 7 (.mv (.c (.b false)))] [.s 6]) .ret) .skip)
def A33R4:ACode:=(.seq (.seq (.reg [Za 89 1 13,Zl 90 89,Zm 91 2,Zo 92 (.call 60 [(Zt 90),(Zt 91)]),Zo 93 (.un .not (Zt 92))] []) (.cond (Zt 93) (.reg [Zm 94 8,Zo 95 (.load 2 true (Zt 13)),Zo 96 (.bsl 2 false [(Zt 95)]),Zo 97 (.app 2 32 true (Zt 94) (Zt 96)),Zm 8 97] [.s 8]) .skip)) (.seq (.reg [Zm 98 8,Zm 6 98,Zo 7 (.mv (.c (.b true)))] [.s 6]) .ret))
def A33R3:ACode:=(.seqr (.seq (.reg [Za 80 1 12,Zl 81 80,Zm 82 2,Zo 83 (.call 60 [(Zt 81),(Zt 82)]),Zo 84 (.un .not (Zt 83))] []) (.cond (Zt 84) (.reg [Zm 85 8,Zo 86 (.load 2 true (Zt 12)),Zo 87 (.bsl 2 false [(Zt 86)]),Zo 88 (.app 2 32 true (Zt 85) (Zt 87)),Zm 8 88] [.s 8]) .skip)) [2,8,13] [8,13,500000833] A33R4)
def A33:ACode:=(.seq (.reg [Zo 3 (.box 2 (Zt 0)),Zo 6 (.mv (.c (.lst .u 2 []))),Zo 7 (.mv (.c (.b false)))] [.s 6]) (.seq (.reg [Zo 16 (.bsl 2 false []),Zm 8 16] [.s 8]) (.seq (.seqr (.reg [Zo 17 (.load 2 true (Zt 3)),Zm 18 1,Zo 19 (.call 11 [(Zt 17),(Zt 18)]),Zo 20 (.un .not (Zt 19)),Zm 21 20,⟨(some 22),.mv (Zt 2),(some (21,false))⟩,⟨(some 23),.fad 1 (Zt 3),(some (21,false))⟩,⟨(some 24),.load 1 false (Zt 23),(some (21,false))⟩,⟨(some 25),.len (Zt 24),(some (21,false))⟩,⟨(some 26),.bin .sub (Zt 25) (.c (.i 1)),(some (21,false))⟩,⟨(some 27),.call 53 [(Zt 22),(.c (.i 0)),(Zt 26)],(some (21,false))⟩,⟨(some 28),.un .not (Zt 27),(some (21,false))⟩,Zo 29 (.pick (Zt 21) (.c (.b true)) (Zt 28))] []) [1,2,3,8,29] [3,8] A33R1) (.seq (.reg [Zo 32 (.load 2 true (Zt 3)),Zm 33 1,Zo 34 (.call 51 [(Zt 32),(Zt 33)]),Zm 31 34,Ze 35 31 0,Ze 36 31 1,Zm 9 35,Zm 10 36] [.s 9,.s 10]) (.seq (.seqr (.reg [Zm 37 9,Zm 38 2,Zo 39 (.call 60 [(Zt 37),(Zt 38)]),Zo 40 (.un .not (Zt 39)),Zm 41 40,⟨(some 42),.mv (Zt 10),(some (41,true))⟩,⟨(some 43),.mv (Zt 2),(some (41,true))⟩,⟨(some 44),.call 60 [(Zt 42),(Zt 43)],(some (41,true))⟩,⟨(some 45),.un .not (Zt 44),(some (41,true))⟩,Zo 46 (.pick (Zt 41) (Zt 45) (.c (.b false)))] []) [1,2,3,8,46] [3,8] A33R2) (.seq (.reg [Za 48 1 3,Zl 49 48,Zm 50 2,Zx 51 4 49 50,Zo 52 (.load 4 true (Zt 51)),Zo 11 (.alloc (.agg [.i 0,.i 0,.i 0,.i 0])),⟨none,.store 4 (Zt 11) (Zt 52),none⟩] []) (.seq (.reg [Zo 53 (.load 2 true (Zt 3)),Zm 54 1,Za 55 0 11,Zl 56 55,Za 57 1 11,Zl 58 57,Zo 59 (.call 61 [(Zt 53),(Zt 54),(Zt 56),(Zt 58)]),Zo 12 (.alloc (.agg [.i 0,.lst .u 1 []])),⟨none,.store 2 (Zt 12) (Zt 59),none⟩] [.f false 500000769 12 1]) (.seq (.drw [Zo 61 (.load 2 true (Zt 3)),Zo 62 (.load 2 true (Zt 3)),Zm 63 1,Za 64 1 11,Zl 65 64,Za 66 0 11,Zl 67 66,Zo 68 (.call 61 [(Zt 62),(Zt 63),(Zt 65),(Zt 67)]),Zo 69 (.call 62 [(Zt 61),(Zt 68)]),Zm 60 69,Ze 70 60 0,Ze 71 60 1,Zo 13 (.alloc (.agg [.i 0,.lst .u 1 []])),⟨none,.store 2 (Zt 13) (Zt 70),none⟩,Zm 14 71] [.f false 500000833 13 1]) (.seqr (.seq (.reg [Zo 72 (.load 2 true (Zt 3)),Zo 73 (.load 2 true (Zt 13)),Zo 74 (.load 2 true (Zt 12)),Zo 75 (.call 63 [(Zt 72),(Zt 73),(Zt 74)]),Zd 76 .lss 75 0] []) (.cond (Zt 76) (.seq (.reg [Zo 77 (.load 2 true (Zt 12)),Zo 15 (.alloc (.agg [.i 0,.lst .u 1 []])),⟨none,.store 2 (Zt 15) (Zt 77),none⟩] [.f false 500000961 15 1]) (.seq (.reg [Zo 78 (.load 2 true (Zt 13)),⟨none,.store 2 (Zt 12) (Zt 78),none⟩] [.f false 500000769 12 1]) (.reg [Zo 79 (.load 2 true (Zt 15)),⟨none,.store 2 (Zt 13) (Zt 79),none⟩] [.f false 500000833 13 1]))) .skip)) [2,8,12,13] [8,12,13,500000769,500000833] A33R3)))))))))
def V33:List RV:=[.t 6,.t 7]
theorem m33:mtcF Try.prog 33 3 A33 V33=true:=by kernel_rfl
def A57:ACode:=(.seq (.reg [Zo 6 (.mv (.c (.b false)))] []) (.seq (.reg [Zm 7 1,Zm 8 0,Zb 9 .leq 7 8,Zm 10 9,⟨(some 11),.mv (Zt 0),(some (10,true))⟩,⟨(some 12),.mv (Zt 2),(some (10,true))⟩,⟨(some 13),.bin .leq (Zt 11) (Zt 12),(some (10,true))⟩,Zo 14 (.pick (Zt 10) (Zt 13) (.c (.b false))),Zm 6 14] []) .ret))
def V57:List RV:=[.t 6]
theorem m57:mtcF Try.prog 57 3 A57 V57=true:=by kernel_rfl
def A81R1:ACode:=(.seq (.reg [Zm 31 4,Zo 32 (.un .not (Zt 31)),Zm 33 32,⟨(some 34),.mv (Zt 5),(some (33,true))⟩,⟨(some 35),.un .not (Zt 34),(some (33,true))⟩,⟨(some 36),.mv (Zt 35),(some (33,true))⟩,⟨(some 37),.mv (Zt 3),(some (36,false))⟩,⟨(some 38),.bin .eql (Zt 37) (.c (.i 0)),(some (36,false))⟩,⟨(some 39),.pick (Zt 36) (.c (.b true)) (Zt 38),(some (33,true))⟩,Zo 40 (.pick (Zt 33) (Zt 39) (.c (.b false)))] []) (.cond (Zt 40) (.seq (.reg [Zo 2 (.mv (.c (.b false)))] []) .ret) .skip))
def A81L2:ACode:=(.seq (.reg [Zb 9 .lss 8 7] []) (.seq (.cond (Zt 9) .skip (.exit 0)) (.seq (.blk 1 (.seq (.reg [Zm 10 8,Zm 3 10] []) (.seqr (.drw [Zm 11 0,Zm 12 3,Zo 13 (.stri (Zt 11) (Zt 12)),Zo 14 (.bin .geq (Zt 13) (.c (.sc (.int .u8 97)))),Zm 15 14,⟨(some 16),.mv (Zt 0),(some (15,true))⟩,⟨(some 17),.mv (Zt 3),(some (15,true))⟩,⟨(some 18),.stri (Zt 16) (Zt 17),(some (15,true))⟩,⟨(some 19),.bin .leq (Zt 18) (.c (.sc (.int .u8 122))),(some (15,true))⟩,Zo 20 (.pick (Zt 15) (Zt 19) (.c (.b false))),Zm 21 0,Zm 22 3,Zo 23 (.stri (Zt 21) (Zt 22)),Zo 24 (.bin .geq (Zt 23) (.c (.sc (.int .u8 48)))),Zm 25 24,⟨(some 26),.mv (Zt 0),(some (25,true))⟩,⟨(some 27),.mv (Zt 3),(some (25,true))⟩,⟨(some 28),.stri (Zt 26) (Zt 27),(some (25,true))⟩,⟨(some 29),.bin .leq (Zt 28) (.c (.sc (.int .u8 57))),(some (25,true))⟩,Zo 30 (.pick (Zt 25) (Zt 29) (.c (.b false))),Zm 4 20,Zm 5 30] []) [0,3,4,5,7,8] [] A81R1))) (.reg [Zd 41 .add 8 1,Zm 8 41] []))))
def A81R3:ACode:=(.seq (.reg [Zm 42 0,Zo 43 (.lenz (Zt 42)),Zo 44 (.call 57 [(Zt 43),(.c (.i 1)),(.c (.i 8))]),Zm 2 44] []) .ret)
def A81:ACode:=(.seq (.reg [Zo 2 (.mv (.c (.b false)))] []) (.seqa (.reg [Zm 6 0,Zo 7 (.lenz (Zt 6)),Zn 8 0] []) (.blk 0 (.loop A81L2)) [0] [] A81R3))
def V81:List RV:=[.t 2]
theorem m81:mtcF Try.prog 81 1 A81 V81=true:=by kernel_rfl
def A109L1:ACode:=(.seq (.reg [Zb 9 .lss 8 7] []) (.seq (.cond (Zt 9) .skip (.exit 0)) (.seq (.blk 1 (.seq (.reg [Zm 10 8,Zm 5 10] []) (.seq (.reg [Zm 11 1,Zm 12 0,Zm 13 5,Zx 14 1 12 13,Zl 15 14,Zb 16 .eql 11 15] []) (.cond (Zt 16) (.seq (.reg [Zm 17 5,Zm 4 17] []) .ret) .skip)))) (.reg [Zd 18 .add 8 1,Zm 8 18] []))))
def A109R2:ACode:=(.seq (.reg [Zn 4 (-1)] []) .ret)
def A109:ACode:=(.seq (.reg [Zn 4 0] []) (.seqa (.reg [Zm 6 0,Zk 7 6,Zn 8 0] []) (.blk 0 (.loop A109L1)) [] [] A109R2))
def V109:List RV:=[.t 4]
theorem m109:mtcF Try.prog 109 2 A109 V109=true:=by kernel_rfl
def A82:ACode:=(.seq (.reg [Zo 4 (.mv (.c (.b false)))] []) (.seq (.reg [Zm 5 0,Zm 6 1,Zo 7 (.call 109 [(Zt 5),(Zt 6)]),Zd 8 .geq 7 0,Zm 4 8] []) .ret))
def V82:List RV:=[.t 4]
theorem m82:mtcF Try.prog 82 2 A82 V82=true:=by kernel_rfl
def A114:ACode:=(.seq (.reg [Zo 2 (.mv (.c (.b false)))] []) (.seq (.reg [Zm 3 0,Zm 4 0,Zb 5 .neq 3 4,Zm 2 5] []) .ret))
def V114:List RV:=[.t 2]
theorem m114:mtcF Try.prog 114 1 A114 V114=true:=by kernel_rfl
def A98:ACode:=(.seq (.reg [Zn 4 0] []) (.seq (.reg [Zm 7 0,Zo 8 (.call 114 [(Zt 7)]),Zm 5 8] []) (.seq (.reg [Zm 9 1,Zo 10 (.call 114 [(Zt 9)]),Zm 6 10] []) (.seq (.seq (.reg [Zm 11 5] []) (.cond (Zt 11) (.seq (.seq (.reg [Zm 12 6] []) (.cond (Zt 12) (.seq (.reg [Zn 4 0] []) .ret) .skip)) (.seq (.reg [Zn 4 (-1)] []) .ret)) .skip)) (.seq (.seq (.reg [Zm 13 6] []) (.cond (Zt 13) (.seq (.reg [Zn 4 1] []) .ret) .skip)) (.seq (.seq (.reg [Zm 14 0,Zm 15 1,Zb 16 .lss 14 15] []) (.cond (Zt 16) (.seq (.reg [Zn 4 (-1)] []) .ret) .skip)) (.seq (.seq (.reg [Zm 17 0,Zm 18 1,Zb 19 .gtr 17 18] []) (.cond (Zt 19) (.seq (.reg [Zn 4 1] []) .ret) .skip)) (.seq (.reg [Zn 4 0] []) .ret))))))))
def V98:List RV:=[.t 4]
theorem m98:mtcF Try.prog 98 2 A98 V98=true:=by kernel_rfl
def A97L1:ACode:=(.seq (.reg [Zb 9 .lss 8 7] []) (.seq (.cond (Zt 9) .skip (.exit 0)) (.seq (.blk 1 (.seq (.reg [Zx 10 1 6 8,Zl 11 10,Zm 5 11] []) (.seq (.reg [Zm 12 5,Zm 13 3,Zb 14 .neq 12 13] []) (.cond (Zt 14) (.seq (.reg [Zm 15 5,Zm 2 15] []) .ret) .skip)))) (.reg [Zd 16 .add 8 1,Zm 8 16] []))))
def A97R2:ACode:=(.seq (.reg [Zm 17 3,Zm 2 17] []) .ret)
def A97:ACode:=(.seq (.reg [Zn 2 0] []) (.seq (.reg [Zn 3 0] []) (.seqa (.reg [Zm 6 0,Zk 7 6,Zn 8 0] []) (.blk 0 (.loop A97L1)) [3] [] A97R2)))
def V97:List RV:=[.t 2]
theorem m97:mtcF Try.prog 97 1 A97 V97=true:=by kernel_rfl
def A83:ACode:=(.seq (.reg [Zo 2 (.box 4 (Zt 0)),Zo 3 (.box 4 (Zt 1)),Zn 4 0] []) (.seq (.drw [Za 5 0 2,Zl 6 5,Za 7 0 3,Zl 8 7,Zo 9 (.call 98 [(Zt 6),(Zt 8)]),Za 10 1 2,Zl 11 10,Za 12 1 3,Zl 13 12,Zo 14 (.call 98 [(Zt 11),(Zt 13)]),Za 15 2 2,Zl 16 15,Za 17 2 3,Zl 18 17,Zo 19 (.call 98 [(Zt 16),(Zt 18)]),Za 20 3 2,Zl 21 20,Za 22 3 3,Zl 23 22,Zo 24 (.call 98 [(Zt 21),(Zt 23)]),Zo 25 (.bsl 1 true [(Zt 9),(Zt 14),(Zt 19),(Zt 24)]),Zo 26 (.call 97 [(Zt 25)]),Zm 4 26] []) .ret))
def V83:List RV:=[.t 4]
theorem m83:mtcF Try.prog 83 2 A83 V83=true:=by kernel_rfl
def A47L1:ACode:=(.seq (.reg [Zb 11 .lss 10 9] []) (.seq (.cond (Zt 11) .skip (.exit 0)) (.seq (.blk 1 (.seq (.reg [Zm 12 10,Zx 13 1 8 10,Zl 14 13,Zm 3 12,Zm 4 14] []) (.seq (.reg [Zm 15 4,Zo 16 (.call 81 [(Zt 15)]),Zo 17 (.un .not (Zt 16)),Zm 18 17,⟨(some 19),.fad 0 (Zt 1),(some (18,false))⟩,⟨(some 20),.load 1 false (Zt 19),(some (18,false))⟩,⟨(some 21),.mv (Zt 3),(some (18,false))⟩,⟨(some 22),.slc 1 (Zt 20) none (some (Zt 21)) none,(some (18,false))⟩,⟨(some 23),.mv (Zt 4),(some (18,false))⟩,⟨(some 24),.call 82 [(Zt 22),(Zt 23)],(some (18,false))⟩,Zo 25 (.pick (Zt 18) (.c (.b true)) (Zt 24))] []) (.cond (Zt 25) (.seq (.reg [Zo 2 (.mv (.c (.b false)))] []) .ret) .skip)))) (.reg [Zd 26 .add 10 1,Zm 10 26] []))))
def A47L3:ACode:=(.seq (.reg [Zb 31 .lss 30 29] []) (.seq (.cond (Zt 31) .skip (.exit 2)) (.seq (.blk 3 (.seq (.reg [Zm 32 30,Zx 33 4 28 30,Zo 34 (.load 4 true (Zt 33)),Zo 6 (.alloc (.agg [.i 0,.i 0,.i 0,.i 0])),Zm 5 32,⟨none,.store 4 (Zt 6) (Zt 34),none⟩] []) (.seq (.drw [Za 35 0 6,Zl 36 35,Zd 37 .lss 36 0,Zm 38 37,⟨(some 39),.fad 0 (Zt 6),(some (38,false))⟩,⟨(some 40),.load 1 false (Zt 39),(some (38,false))⟩,⟨(some 41),.fad 1 (Zt 6),(some (38,false))⟩,⟨(some 42),.load 1 false (Zt 41),(some (38,false))⟩,⟨(some 43),.bin .geq (Zt 40) (Zt 42),(some (38,false))⟩,Zo 44 (.pick (Zt 38) (.c (.b true)) (Zt 43)),Zm 45 44,⟨(some 46),.fad 1 (Zt 6),(some (45,false))⟩,⟨(some 47),.load 1 false (Zt 46),(some (45,false))⟩,⟨(some 48),.fad 0 (Zt 1),(some (45,false))⟩,⟨(some 49),.load 1 false (Zt 48),(some (45,false))⟩,⟨(some 50),.len (Zt 49),(some (45,false))⟩,⟨(some 51),.bin .geq (Zt 47) (Zt 50),(some (45,false))⟩,Zo 52 (.pick (Zt 45) (.c (.b true)) (Zt 51)),Zm 53 52,⟨(some 54),.fad 2 (Zt 6),(some (53,false))⟩,⟨(some 55),.load 1 false (Zt 54),(some (53,false))⟩,⟨(some 56),.call 57 [(Zt 55),(.c (.i 1)),(.c (.i 5000))],(some (53,false))⟩,⟨(some 57),.un .not (Zt 56),(some (53,false))⟩,Zo 58 (.pick (Zt 53) (.c (.b true)) (Zt 57)),Zm 59 58,⟨(some 60),.fad 3 (Zt 6),(some (59,false))⟩,⟨(some 61),.load 1 false (Zt 60),(some (59,false))⟩,⟨(some 62),.call 57 [(Zt 61),(.c (.i 0)),(.c (.i 9))],(some (59,false))⟩,⟨(some 63),.un .not (Zt 62),(some (59,false))⟩,Zo 64 (.pick (Zt 59) (.c (.b true)) (Zt 63)),Zm 65 64,⟨(some 66),.mv (Zt 5),(some (65,false))⟩,⟨(some 67),.bin .gtr (Zt 66) (.c (.i 0)),(some (65,false))⟩,⟨(some 68),.mv (Zt 67),(some (65,false))⟩,⟨(some 69),.fad 1 (Zt 1),(some (68,true))⟩,⟨(some 70),.load 1 false (Zt 69),(some (68,true))⟩,⟨(some 71),.mv (Zt 5),(some (68,true))⟩,⟨(some 72),.bin .sub (Zt 71) (.c (.i 1)),(some (68,true))⟩,⟨(some 73),.idx 4 (Zt 70) (Zt 72),(some (68,true))⟩,⟨(some 74),.load 4 true (Zt 73),(some (68,true))⟩,⟨(some 75),.load 4 true (Zt 6),(some (68,true))⟩,⟨(some 76),.call 83 [(Zt 74),(Zt 75)],(some (68,true))⟩,⟨(some 77),.bin .gtr (Zt 76) (.c (.i 0)),(some (68,true))⟩,⟨(some 78),.pick (Zt 68) (Zt 77) (.c (.b false)),(some (65,false))⟩,Zo 79 (.pick (Zt 65) (.c (.b true)) (Zt 78))] []) (.cond (Zt 79) (.seq (.reg [Zo 2 (.mv (.c (.b false)))] []) .ret) .skip)))) (.reg [Zd 80 .add 30 1,Zm 30 80] []))))
def A47R4:ACode:=(.seq (.reg [Za 81 0 1,Zl 82 81,Zk 83 82,Zo 84 (.call 57 [(Zt 83),(.c (.i 2)),(.c (.i 8))]),Zm 85 84,⟨(some 86),.fad 1 (Zt 1),(some (85,true))⟩,⟨(some 87),.load 1 false (Zt 86),(some (85,true))⟩,⟨(some 88),.len (Zt 87),(some (85,true))⟩,⟨(some 89),.bin .leq (Zt 88) (.c (.i 14)),(some (85,true))⟩,Zo 90 (.pick (Zt 85) (Zt 89) (.c (.b false))),Zm 2 90] []) .ret)
def A47R2:ACode:=(.seqa (.reg [Za 27 1 1,Zl 28 27,Zk 29 28,Zn 30 0] []) (.blk 2 (.loop A47L3)) [1] [1] A47R4)
def A47:ACode:=(.seq (.reg [Zo 1 (.box 2 (Zt 0)),Zo 2 (.mv (.c (.b false)))] []) (.seqa (.reg [Za 7 0 1,Zl 8 7,Zk 9 8,Zn 10 0] []) (.blk 0 (.loop A47L1)) [1] [1] A47R2))
def V47:List RV:=[.t 2]
theorem m47:mtcF Try.prog 47 1 A47 V47=true:=by kernel_rfl
def A64L1:ACode:=(.seq (.reg [Zb 9 .lss 8 7] []) (.seq (.cond (Zt 9) .skip (.exit 0)) (.seq (.blk 1 (.seq (.reg [Zm 10 8,Zm 5 10] []) (.seq (.reg [Zm 11 1,Zm 12 0,Zm 13 5,Zx 14 1 12 13,Zl 15 14,Zb 16 .eql 11 15] []) (.cond (Zt 16) (.seq (.reg [Zm 17 5,Zm 4 17] []) .ret) .skip)))) (.reg [Zd 18 .add 8 1,Zm 8 18] []))))
def A64R2:ACode:=(.seq (.reg [Zn 4 (-1)] []) .ret)
def A64:ACode:=(.seq (.reg [Zn 4 0] []) (.seqa (.reg [Zm 6 0,Zk 7 6,Zn 8 0] []) (.blk 0 (.loop A64L1)) [] [] A64R2))
def V64:List RV:=[.t 4]
theorem m64:mtcF Try.prog 64 2 A64 V64=true:=by kernel_rfl
def A67:ACode:=(.seq (.reg [Zo 4 (.mv (.c (.b false)))] []) (.seq (.reg [Zm 5 0,Zm 6 1,Zo 7 (.call 64 [(Zt 5),(Zt 6)]),Zd 8 .geq 7 0,Zm 4 8] []) .ret))
def V67:List RV:=[.t 4]
theorem m67:mtcF Try.prog 67 2 A67 V67=true:=by kernel_rfl
def A94:ACode:=(.seq (.reg [Zo 2 (.box 4 (Zt 0)),Zn 4 0] []) (.seq (.seq (.reg [Zm 5 1] []) (.blk 0 (.seq (.reg [Za 7 0 2,Zl 8 7,Zb 9 .eql 5 8,Zm 6 9] []) (.cond (Zt 6) (.seq (.reg [Za 10 1 2,Zl 11 10,Zm 4 11] []) .ret) (.seq (.reg [Za 13 1 2,Zl 14 13,Zb 15 .eql 5 14,Zm 12 15] []) (.cond (Zt 12) (.seq (.reg [Za 16 0 2,Zl 17 16,Zm 4 17] []) .ret) .skip)))))) (.seq (.reg [Zn 4 (-1)] []) .ret)))
def V94:List RV:=[.t 4]
theorem m94:mtcF Try.prog 94 2 A94 V94=true:=by kernel_rfl
def A84R1:ACode:=(.cond (Zt 35) (.seq (.reg [Zo 6 (.mv (.c (.lst .u 1 []))),Zn 7 0,Zo 8 (.mv (.c (.b false)))] [.s 6]) .ret) .skip)
def A84L2:ACode:=(.seq (.reg [Zb 18 .lss 17 16] []) (.seq (.cond (Zt 18) .skip (.exit 0)) (.seq (.blk 1 (.seq (.reg [Zm 19 17,Zx 20 1 15 17,Zl 21 20,Zm 11 19,Zm 12 21] []) (.seq (.seqr (.reg [Zm 22 12,Za 23 1 3,Zl 24 23,Zk 25 24,Zd 26 .sub 25 1,Zo 27 (.call 57 [(Zt 22),(.c (.i 0)),(Zt 26)]),Zo 28 (.un .not (Zt 27)),Zm 29 28,⟨(some 30),.mv (Zt 2),(some (29,false))⟩,⟨(some 31),.mv (Zt 11),(some (29,false))⟩,⟨(some 32),.slc 1 (Zt 30) none (some (Zt 31)) none,(some (29,false))⟩,⟨(some 33),.mv (Zt 12),(some (29,false))⟩,⟨(some 34),.call 67 [(Zt 32),(Zt 33)],(some (29,false))⟩,Zo 35 (.pick (Zt 29) (.c (.b true)) (Zt 34))] []) [2,3,9,10,12,15,16,17,35] [3,9] A84R1) (.seq (.reg [Zm 36 9,Zm 37 10,Zo 38 (.bsl 1 false [(Zt 37)]),Zo 39 (.app 1 8 true (Zt 36) (Zt 38)),Zm 9 39] [.s 9]) (.seq (.reg [Za 40 1 3,Zl 41 40,Zm 42 12,Zx 43 4 41 42,Zo 44 (.load 4 true (Zt 43)),Zm 45 10,Zo 46 (.call 94 [(Zt 44),(Zt 45)]),Zm 10 46] []) (.seq (.reg [Zm 47 10,Zd 48 .lss 47 0] []) (.cond (Zt 48) (.seq (.reg [Zo 6 (.mv (.c (.lst .u 1 []))),Zn 7 0,Zo 8 (.mv (.c (.b false)))] [.s 6]) .ret) .skip))))))) (.reg [Zd 49 .add 17 1,Zm 17 49] []))))
def A84R3:ACode:=(.seq (.reg [Zm 50 9,Zm 51 10,Zm 6 50,Zm 7 51,Zo 8 (.mv (.c (.b true)))] [.s 6]) .ret)
def A84:ACode:=(.seq (.reg [Zo 3 (.box 2 (Zt 0)),Zo 6 (.mv (.c (.lst .u 1 []))),Zn 7 0,Zo 8 (.mv (.c (.b false)))] [.s 6]) (.seq (.reg [Zo 13 (.bsl 1 false []),Zm 14 1,Zm 9 13,Zm 10 14] [.s 9]) (.seqa (.reg [Zm 15 2,Zk 16 15,Zn 17 0] []) (.blk 0 (.loop A84L2)) [9,10] [9] A84R3)))
def V84:List RV:=[.t 6,.t 7,.t 8]
theorem m84:mtcF Try.prog 84 3 A84 V84=true:=by kernel_rfl
def A85L1:ACode:=(.seq (.seq (.reg [Zm 12 4,Zm 13 0,Zk 14 13,Zb 15 .lss 12 14] []) (.cond (Zt 15) .skip (.exit 0))) (.seq (.blk 1 (.reg [Zm 18 3,Zm 19 0,Zm 20 4,Zx 21 1 19 20,Zl 22 21,Zo 23 (.mn (Zt 18) (Zt 22)),Zm 3 23] [])) (.reg [Zm 16 4,Zd 17 .add 16 1,Zm 4 17] [])))
def A85R2:ACode:=(.seq (.reg [Zm 24 3,Zm 2 24] []) .ret)
def A85:ACode:=(.seq (.reg [Zn 2 0] []) (.seq (.seq (.reg [Zm 5 0,Zk 6 5,Zd 7 .lss 6 1] []) (.cond (Zt 7) (.reg [Zo 8 (.bad),⟨none,.bad,none⟩] []) .skip)) (.seq (.reg [Zm 9 0,Zo 10 (.idx 1 (Zt 9) (.c (.i 0))),Zl 11 10,Zm 3 11] []) (.seqa (.reg [Zn 4 1] []) (.blk 0 (.loop A85L1)) [3] [] A85R2))))
def V85:List RV:=[.t 2]
theorem m85:mtcF Try.prog 85 1 A85 V85=true:=by kernel_rfl
def A86:ACode:=(.seq (.reg [Zo 2 (.mv (.c (.lst .u 1 [])))] [.s 2]) (.seq (.seq (.reg [Zm 3 0,Zo 4 (.isn false (Zt 3))] []) (.cond (Zt 4) (.seq (.reg [Zo 2 (.mv (.c (.lst .u 1 [])))] [.s 2]) .ret) .skip)) (.seq (.reg [Zo 5 (.bsl 1 false []),Zm 6 0,Zo 7 (.app 1 8 false (Zt 5) (Zt 6)),Zm 2 7] [.s 2]) .ret)))
def V86:List RV:=[.t 2]
theorem m86:mtcF Try.prog 86 1 A86 V86=true:=by kernel_rfl
def A87M1L1:ACode:=(.seq (.seq (.reg [Zm 7 2,Zm 8 3,Zb 9 .lss 7 8] []) (.cond (Zt 9) .skip (.exit 0))) (.seq (.blk 1 (.drw [Zm 14 0,Zm 15 2,Zm 16 0,Zm 17 3,Zm 18 0,Zm 19 3,Zx 20 1 18 19,Zl 21 20,Zm 22 0,Zm 23 2,Zx 24 1 22 23,Zl 25 24,Zx 26 1 14 15,⟨none,.store 1 (Zt 26) (Zt 21),none⟩,Zx 27 1 16 17,⟨none,.store 1 (Zt 27) (Zt 25),none⟩] [])) (.reg [Zm 10 2,Zd 11 .add 10 1,Zm 12 3,Zd 13 .sub 12 1,Zm 2 11,Zm 3 13] [])))
def A87M1:ACode:=(.seq (.reg [Zm 4 0,Zk 5 4,Zd 6 .sub 5 1,Zn 2 0,Zm 3 6] []) (.blk 0 (.loop A87M1L1)))
def V87M1:List RV:=[]
theorem m87M1:mtcF Try.prog 87 1 A87M1 V87M1=true:=by kernel_rfl
def A88L1:ACode:=(.seq (.reg [Zb 12 .lss 11 10] []) (.seq (.cond (Zt 12) .skip (.exit 0)) (.seq (.blk 1 (.seq (.reg [Zm 13 11,Zx 14 1 9 11,Zl 15 14,Zm 5 13,Zm 6 15] []) (.seq (.seq (.reg [Zm 16 5,Zm 17 1,Zk 18 17,Zb 19 .geq 16 18] []) (.cond (Zt 19) (.seq (.reg [Zn 4 1] []) .ret) .skip)) (.seq (.reg [Zm 20 1,Zm 21 5,Zx 22 1 20 21,Zl 23 22,Zm 7 23] []) (.seq (.reg [Zm 24 6,Zm 25 7,Zo 26 (.call 98 [(Zt 24),(Zt 25)]),Zm 8 26] []) (.seq (.reg [Zm 27 8,Zd 28 .neq 27 0] []) (.cond (Zt 28) (.seq (.reg [Zm 29 8,Zm 4 29] []) .ret) .skip))))))) (.reg [Zd 30 .add 11 1,Zm 11 30] []))))
def A88R2:ACode:=(.seq (.seq (.reg [Zm 31 0,Zk 32 31,Zm 33 1,Zk 34 33,Zb 35 .lss 32 34] []) (.cond (Zt 35) (.seq (.reg [Zn 4 (-1)] []) .ret) .skip)) (.seq (.reg [Zn 4 0] []) .ret))
def A88:ACode:=(.seq (.reg [Zn 4 0] []) (.seqa (.reg [Zm 9 0,Zk 10 9,Zn 11 0] []) (.blk 0 (.loop A88L1)) [0,1] [] A88R2))
def V88:List RV:=[.t 4]
theorem m88:mtcF Try.prog 88 2 A88 V88=true:=by kernel_rfl
def A48R1:ACode:=(.cond (Zt 26) (.seq (.reg [Zo 4 (.mv (.c (.lst .u 1 []))),Zo 5 (.mv (.c (.b false)))] [.s 4]) .ret) .skip)
def A48R2:ACode:=(.cond (Zt 55) (.seq (.reg [Zo 4 (.mv (.c (.lst .u 1 []))),Zo 5 (.mv (.c (.b false)))] [.s 4]) .ret) .skip)
def A48L3:ACode:=(.seq (.reg [Zb 59 .lss 58 57] []) (.seq (.cond (Zt 59) .skip (.exit 0)) (.seq (.blk 1 (.seq (.reg [Zm 60 58,Zx 61 1 56 58,Zl 62 61,Zm 10 60,Zm 11 62] []) (.seq (.reg [Zm 63 7,Zm 64 10,Zo 65 (.slc 1 (Zt 63) none (some (Zt 64)) none),Zm 66 11,Zo 67 (.call 67 [(Zt 65),(Zt 66)])] []) (.cond (Zt 67) (.seq (.reg [Zo 4 (.mv (.c (.lst .u 1 []))),Zo 5 (.mv (.c (.b false)))] [.s 4]) .ret) .skip)))) (.reg [Zd 68 .add 58 1,Zm 58 68] []))))
def A48R4:ACode:=(.seq (.reg [Zm 69 1,Zo 70 (.call 86 [(Zt 69)]),Zm 12 70] [.s 12]) (.seq (.reg [Zm 71 12,Zo 72 (.callM 87 [(Zt 71)] [12])] []) (.seq (.reg [Zm 73 7,Zm 74 1,Zm 75 12,Zo 76 (.call 88 [(Zt 74),(Zt 75)]),Zd 77 .lss 76 0,Zm 4 73,Zm 5 77] [.s 4]) .ret)))
def A48:ACode:=(.seq (.reg [Zo 2 (.box 2 (Zt 0)),Zo 4 (.mv (.c (.lst .u 1 []))),Zo 5 (.mv (.c (.b false)))] [.s 4]) (.seq (.seqr (.drw [Zm 13 1,Zk 14 13,Zd 15 .lss 14 2,Zm 16 15,⟨(some 17),.mv (Zt 1),(some (16,false))⟩,⟨(some 18),.idx 1 (Zt 17) (.c (.i 0)),(some (16,false))⟩,⟨(some 19),.load 1 false (Zt 18),(some (16,false))⟩,⟨(some 20),.fad 1 (Zt 2),(some (16,false))⟩,⟨(some 21),.load 1 false (Zt 20),(some (16,false))⟩,⟨(some 22),.len (Zt 21),(some (16,false))⟩,⟨(some 23),.bin .sub (Zt 22) (.c (.i 1)),(some (16,false))⟩,⟨(some 24),.call 57 [(Zt 19),(.c (.i 0)),(Zt 23)],(some (16,false))⟩,⟨(some 25),.un .not (Zt 24),(some (16,false))⟩,Zo 26 (.pick (Zt 16) (.c (.b true)) (Zt 25))] []) [1,2,26] [2] A48R1) (.seq (.drw [Za 27 1 2,Zl 28 27,Zm 29 1,Zo 30 (.idx 1 (Zt 29) (.c (.i 0))),Zl 31 30,Zx 32 4 28 31,Za 33 0 32,Zl 34 33,Zm 6 34] []) (.seq (.reg [Zo 36 (.load 2 true (Zt 2)),Zm 37 6,Zm 38 1,Zo 39 (.call 84 [(Zt 36),(Zt 37),(Zt 38)]),Zm 35 39,Ze 40 35 0,Ze 41 35 1,Ze 42 35 2,Zm 7 40,Zm 8 41,Zm 9 42] [.s 7]) (.seq (.seqr (.reg [Zm 43 9,Zo 44 (.un .not (Zt 43)),Zm 45 44,⟨(some 46),.mv (Zt 8),(some (45,false))⟩,⟨(some 47),.mv (Zt 6),(some (45,false))⟩,⟨(some 48),.bin .neq (Zt 46) (Zt 47),(some (45,false))⟩,Zo 49 (.pick (Zt 45) (.c (.b true)) (Zt 48)),Zm 50 49,⟨(some 51),.mv (Zt 7),(some (50,false))⟩,⟨(some 52),.call 85 [(Zt 51)],(some (50,false))⟩,⟨(some 53),.mv (Zt 6),(some (50,false))⟩,⟨(some 54),.bin .neq (Zt 52) (Zt 53),(some (50,false))⟩,Zo 55 (.pick (Zt 50) (.c (.b true)) (Zt 54))] []) [1,7,55] [7] A48R2) (.seqa (.reg [Zm 56 7,Zk 57 56,Zn 58 0] []) (.blk 0 (.loop A48L3)) [1,7] [7] A48R4))))))
def V48:List RV:=[.t 4,.t 5]
theorem m48:mtcF Try.prog 48 2 A48 V48=true:=by kernel_rfl
def A18:ACode:=(.seq (.reg [Zo 2 (.box 2 (Zt 0)),Zo 4 (.mv (.c (.lst .u 1 []))),Zo 5 (.mv (.c (.b false)))] [.s 4]) (.seq (.seq (.reg [Zo 8 (.load 2 true (Zt 2)),Zo 9 (.call 47 [(Zt 8)]),Zo 10 (.un .not (Zt 9))] []) (.cond (Zt 10) (.seq (.reg [Zo 4 (.mv (.c (.lst .u 1 []))),Zo 5 (.mv (.c (.b false)))] [.s 4]) .ret) .skip)) (.seq (.reg [Zo 12 (.load 2 true (Zt 2)),Zm 13 1,Zo 14 (.call 48 [(Zt 12),(Zt 13)]),Zm 11 14,Ze 15 11 0,Ze 16 11 1,Zm 6 15,Zm 7 16] [.s 6]) (.seq (.seq (.reg [Zm 17 7,Zo 18 (.un .not (Zt 17))] []) (.cond (Zt 18) (.seq (.reg [Zo 4 (.mv (.c (.lst .u 1 []))),Zo 5 (.mv (.c (.b false)))] [.s 4]) .ret) .skip)) (.seq (.reg [Zm 19 6,Zm 4 19,Zo 5 (.mv (.c (.b true)))] [.s 4]) .ret)))))
def V18:List RV:=[.t 4,.t 5]
theorem m18:mtcF Try.prog 18 2 A18 V18=true:=by kernel_rfl
def A14:ACode:=(.seq (.reg [Zo 2 (.box 2 (Zt 0)),Zo 4 (.mv (.c (.b false)))] []) (.seq (.reg [Zo 8 (.load 2 true (Zt 2)),Zm 9 1,Zo 10 (.call 18 [(Zt 8),(Zt 9)]),Zm 7 10,Ze 11 7 0,Ze 12 7 1,Zm 5 11,Zm 6 12] [.s 5]) (.seq (.reg [Zm 13 6,Zm 4 13] []) .ret)))
def V14:List RV:=[.t 4]
theorem m14:mtcF Try.prog 14 2 A14 V14=true:=by kernel_rfl
def A66M1:ACode:=(.seq (.reg [Zo 2 (.box 2 (Zt 0)),Zo 3 (.mv (.c (.b false)))] []) (.seq (.reg [Za 4 1 2,Zl 5 4,Zl 6 1,Zo 7 (.call 67 [(Zt 5),(Zt 6)]),Zm 3 7] []) .ret))
def V66M1:List RV:=[.t 3]
theorem m66M1:mtcF Try.prog 66 2 A66M1 V66M1=true:=by kernel_rfl
def A104M1L1:ACode:=(.seq (.reg [Zb 9 .lss 8 7] []) (.seq (.cond (Zt 9) .skip (.exit 0)) (.seq (.blk 1 (.seq (.reg [Zm 10 8,Zm 5 10] []) (.seq (.reg [Zm 11 1,Zm 12 0,Zm 13 5,Zx 14 2 12 13,Zo 15 (.load 2 true (Zt 14)),Zo 16 (.dynM (Zt 11) [(Zt 15)] [1000000001])] []) (.cond (Zt 16) (.seq (.reg [Zm 17 5,Zm 4 17] []) .ret) .skip)))) (.reg [Zd 18 .add 8 1,Zm 8 18] []))))
def A104M1R2:ACode:=(.seq (.reg [Zn 4 (-1)] []) .ret)
def A104M1:ACode:=(.seq (.reg [Zn 4 0] []) (.seqa (.reg [Zm 6 0,Zk 7 6,Zn 8 0] []) (.blk 0 (.loop A104M1L1)) [] [1000000000,1000000001] A104M1R2))
def V104M1:List RV:=[.t 4]
theorem m104M1:mtcF Try.prog 104 2 A104M1 V104M1=true:=by kernel_rfl
def A65M1L1:ACode:=(.seq (.seq (.reg [Zm 16 6,Zm 17 0,Zk 18 17,Zb 19 .lss 16 18] []) (.cond (Zt 19) .skip (.exit 0))) (.seq (.blk 1 (.seq (.reg [Zm 22 0,Zm 23 6,Zx 24 2 22 23,Zo 25 (.load 2 true (Zt 24)),Zo 7 (.alloc (.agg [.i 0,.lst .u 1 []])),⟨none,.store 2 (Zt 7) (Zt 25),none⟩] []) (.seq (.reg [Zm 26 1,Zo 27 (.load 2 true (Zt 7)),Zo 28 (.dynM (Zt 26) [(Zt 27)] [1000000001]),Zo 29 (.un .not (Zt 28))] []) (.cond (Zt 29) (.seq (.reg [Zm 30 0,Zm 31 5,Zo 32 (.load 2 true (Zt 7)),Zx 33 2 30 31,⟨none,.store 2 (Zt 33) (Zt 32),none⟩] []) (.reg [Zm 34 5,Zd 35 .add 34 1,Zm 5 35] [])) .skip)))) (.reg [Zm 20 6,Zd 21 .add 20 1,Zm 6 21] [])))
def A65M1R2:ACode:=(.seq (.reg [Zm 36 0,Zm 37 5,Zo 38 (.slc 2 (Zt 36) (some (Zt 37)) none none),⟨none,.clr 2 (.agg [.i 0,.sc (.slice none 0 0)]) (Zt 38),none⟩] []) (.seq (.reg [Zm 39 0,Zm 40 5,Zo 41 (.slc 2 (Zt 39) none (some (Zt 40)) none),Zm 4 41] [.s 4]) .ret))
def A65M1:ACode:=(.seq (.reg [Zo 4 (.mv (.c (.lst .u 2 [])))] [.s 4]) (.seq (.reg [Zm 8 0,Zm 9 1,Zo 10 (.callM 104 [(Zt 8),(Zt 9)] [1000000000,1000000001]),Zm 5 10] []) (.seq (.seq (.reg [Zm 11 5,Zd 12 .eql 11 (-1)] []) (.cond (Zt 12) (.seq (.reg [Zm 13 0,Zm 4 13] [.s 4]) .ret) .skip)) (.seqa (.reg [Zm 14 5,Zd 15 .add 14 1,Zm 6 15] []) (.blk 0 (.loop A65M1L1)) [0,5] [1000000000,1000000001] A65M1R2))))
def V65M1:List RV:=[.t 4]
theorem m65M1:mtcF Try.prog 65 2 A65M1 V65M1=true:=by kernel_rfl
def A107L1:ACode:=(.seq (.reg [Zb 12 .lss 11 10] []) (.seq (.cond (Zt 12) .skip (.exit 0)) (.seq (.blk 1 (.seq (.reg [Zx 13 1 9 11,Zl 14 13,Zm 7 14] []) (.reg [Zm 15 5,Za 16 1 2,Zl 17 16,Zm 18 7,Zx 19 4 17 18,Za 20 2 19,Zl 21 20,Zb 22 .add 15 21,Zm 5 22] []))) (.reg [Zd 23 .add 11 1,Zm 11 23] []))))
def A107R2:ACode:=(.seq (.reg [Zm 24 5,Zm 4 24] []) .ret)
def A107:ACode:=(.seq (.reg [Zo 2 (.box 2 (Zt 0)),Zo 3 (.box 2 (Zt 1)),Zn 4 0] []) (.seq (.reg [Zn 5 0] []) (.seqa (.reg [Za 8 1 3,Zl 9 8,Zk 10 9,Zn 11 0] []) (.blk 0 (.loop A107L1)) [5] [] A107R2)))
def V107:List RV:=[.t 4]
theorem m107:mtcF Try.prog 107 2 A107 V107=true:=by kernel_rfl
def A70:ACode:=(.seq (.reg [Zo 3 (.box 2 (Zt 0)),Zo 4 (.box 2 (Zt 1)),Zo 5 (.box 2 (Zt 2)),Zn 6 0] []) (.seq (.drw [Zo 7 (.load 2 true (Zt 3)),Zo 8 (.load 2 true (Zt 4)),Zo 9 (.call 107 [(Zt 7),(Zt 8)]),Zo 10 (.load 2 true (Zt 3)),Zo 11 (.load 2 true (Zt 5)),Zo 12 (.call 107 [(Zt 10),(Zt 11)]),Zo 13 (.call 98 [(Zt 9),(Zt 12)]),Za 14 1 4,Zl 15 14,Zk 16 15,Za 17 1 5,Zl 18 17,Zk 19 18,Zo 20 (.call 98 [(Zt 16),(Zt 19)]),Za 21 1 4,Zl 22 21,Za 23 1 5,Zl 24 23,Zo 25 (.call 88 [(Zt 22),(Zt 24)]),Za 26 0 4,Zl 27 26,Za 28 0 5,Zl 29 28,Zo 30 (.call 98 [(Zt 27),(Zt 29)]),Zo 31 (.bsl 1 true [(Zt 13),(Zt 20),(Zt 25),(Zt 30)]),Zo 32 (.call 97 [(Zt 31)]),Zm 6 32] []) .ret))
def V70:List RV:=[.t 6]
theorem m70:mtcF Try.prog 70 3 A70 V70=true:=by kernel_rfl
def A69:ACode:=(.seq (.reg [Zo 3 (.box 2 (Zt 0)),Zo 4 (.box 2 (Zt 1)),Zn 5 0] []) (.seq (.reg [Zo 6 (.load 2 true (Zt 2)),Zo 7 (.load 2 true (Zt 3)),Zo 8 (.load 2 true (Zt 4)),Zo 9 (.call 70 [(Zt 6),(Zt 7),(Zt 8)]),Zm 5 9] []) .ret))
def V69:List RV:=[.t 5]
theorem m69:mtcF Try.prog 69 3 A69 V69=true:=by kernel_rfl
def A34R1:ACode:=(.cond (Zt 31) (.seq (.reg [Zo 6 (.mv (.c (.lst .u 2 []))),Zo 7 (.mv (.c (.b false)))] [.s 6]) .ret) .skip)
def A34R2:ACode:=(.cond (Zt 58) (.seq (.reg [Zo 6 (.mv (.c (.lst .u 2 []))),Zo 7 (.mv (.c (.b false)))] [.s 6]) .ret) .skip)
def A34L3:ACode:=(.seq (.seq (.reg [Zm 66 16,Zm 67 13,Zb 68 .neq 66 67] []) (.cond (Zt 68) .skip (.exit 0))) (.seq (.blk 1 (.drw [Za 73 1 14,Zl 74 73,Zm 75 1,Zm 76 16,Zx 77 1 75 76,Zl 78 77,Zo 79 (.bsl 1 true [(Zt 78)]),Zo 80 (.app 1 8 true (Zt 74) (Zt 79)),Za 81 1 14,⟨none,.store 1 (Zt 81) (Zt 80),none⟩] [.f false 500000897 14 1])) (.reg [Zm 69 16,Zd 70 .add 69 1,Zm 71 11,Zb 72 .rem 70 71,Zm 16 72] [])))
def A34L5:ACode:=(.seq (.seq (.reg [Zm 83 17,Zm 84 13,Zb 85 .neq 83 84] []) (.cond (Zt 85) .skip (.exit 2))) (.seq (.blk 3 (.drw [Za 92 1 15,Zl 93 92,Zm 94 1,Zm 95 17,Zm 96 11,Zb 97 .add 95 96,Zd 98 .sub 97 1,Zm 99 11,Zb 100 .rem 98 99,Zx 101 1 94 100,Zl 102 101,Zo 103 (.bsl 1 true [(Zt 102)]),Zo 104 (.app 1 8 true (Zt 93) (Zt 103)),Za 105 1 15,⟨none,.store 1 (Zt 105) (Zt 104),none⟩] [.f false 500000961 15 1])) (.reg [Zm 86 17,Zm 87 11,Zb 88 .add 86 87,Zd 89 .sub 88 1,Zm 90 11,Zb 91 .rem 89 90,Zm 17 91] [])))
def A34R6:ACode:=(.seq (.reg [Zo 106 (.load 2 true (Zt 14)),Zo 107 (.load 2 true (Zt 15)),Zo 108 (.bsl 2 false [(Zt 106),(Zt 107)]),Zo 109 (.mkf 66 [(Zt 5)]),Zo 110 (.callM 65 [(Zt 108),(Zt 109)] [108,5]),Zm 18 110] [.s 18]) (.seq (.reg [Zm 111 18,Zo 112 (.mkf 69 [(Zt 3)]),Zo 113 (.callM 68 [(Zt 111),(Zt 112)] [18,3])] []) (.seq (.reg [Zm 114 18,Zm 6 114,Zo 7 (.mv (.c (.b true)))] [.s 6]) .ret)))
def A34R4:ACode:=(.seqa (.reg [Zm 82 12,Zm 17 82] []) (.blk 2 (.loop A34L5)) [3,5,14,15] [3,5,14,15,500000897,500000961] A34R6)
def A34:ACode:=(.seq (.reg [Zo 3 (.box 2 (Zt 0)),Zo 5 (.box 1 (Zt 2)),Zo 6 (.mv (.c (.lst .u 2 []))),Zo 7 (.mv (.c (.b false)))] [.s 6]) (.seq (.seqr (.reg [Zo 19 (.load 2 true (Zt 3)),Zm 20 1,Zo 21 (.call 14 [(Zt 19),(Zt 20)]),Zo 22 (.un .not (Zt 21)),Zm 23 22,⟨(some 24),.load 1 false (Zt 5),(some (23,false))⟩,⟨(some 25),.fad 1 (Zt 3),(some (23,false))⟩,⟨(some 26),.load 1 false (Zt 25),(some (23,false))⟩,⟨(some 27),.len (Zt 26),(some (23,false))⟩,⟨(some 28),.bin .sub (Zt 27) (.c (.i 1)),(some (23,false))⟩,⟨(some 29),.call 57 [(Zt 24),(.c (.i 0)),(Zt 28)],(some (23,false))⟩,⟨(some 30),.un .not (Zt 29),(some (23,false))⟩,Zo 31 (.pick (Zt 23) (.c (.b true)) (Zt 30))] []) [1,3,5,31] [3,5] A34R1) (.seq (.reg [Zo 33 (.load 2 true (Zt 3)),Zm 34 1,Zo 35 (.call 48 [(Zt 33),(Zt 34)]),Zm 32 35,Ze 36 32 0,Ze 37 32 1,Zm 8 36,Zm 9 37] [.s 8]) (.seq (.reg [Za 38 1 3,Zl 39 38,Zl 40 5,Zx 41 4 39 40,Zo 42 (.load 4 true (Zt 41)),Zm 43 1,Zk 44 43,Zo 10 (.alloc (.agg [.i 0,.i 0,.i 0,.i 0])),⟨none,.store 4 (Zt 10) (Zt 42),none⟩,Zm 11 44] []) (.seq (.drw [Zm 45 8,Za 46 0 10,Zl 47 46,Zo 48 (.call 64 [(Zt 45),(Zt 47)]),Zm 49 8,Za 50 1 10,Zl 51 50,Zo 52 (.call 64 [(Zt 49),(Zt 51)]),Zm 12 48,Zm 13 52] []) (.seq (.seqr (.reg [Zm 53 12,Zd 54 .lss 53 0,Zm 55 54,⟨(some 56),.mv (Zt 13),(some (55,false))⟩,⟨(some 57),.bin .lss (Zt 56) (.c (.i 0)),(some (55,false))⟩,Zo 58 (.pick (Zt 55) (.c (.b true)) (Zt 57))] []) [1,3,5,10,11,12,13,58] [3,5,10] A34R2) (.seq (.drw [Zo 59 (.fdv [] 0 (Zt 10)),Zo 60 (.ldv [] 1 false (Zt 59)),Zo 61 (.build [.i 0,.lst .u 1 []] [(0,1,(Zt 60))]),Zo 62 (.fdv [] 0 (Zt 10)),Zo 63 (.ldv [] 1 false (Zt 62)),Zo 64 (.build [.i 0,.lst .u 1 []] [(0,1,(Zt 63))]),Zo 14 (.alloc (.agg [.i 0,.lst .u 1 []])),Zo 15 (.alloc (.agg [.i 0,.lst .u 1 []])),⟨none,.stv 2 (Zt 14) (Zt 61),none⟩,⟨none,.store 2 (Zt 15) (Zt 64),none⟩] [.f false 500000897 14 1,.f false 500000961 15 1]) (.seqa (.reg [Zm 65 12,Zm 16 65] []) (.blk 0 (.loop A34L3)) [1,3,5,11,12,13,14,15] [3,5,14,15,500000897,500000961] A34R4))))))))
def V34:List RV:=[.t 6,.t 7]
theorem m34:mtcF Try.prog 34 3 A34 V34=true:=by kernel_rfl
def A16L1:ACode:=(.seq (.seq (.reg [Zm 11 5,Zm 12 0,Zk 13 12,Zb 14 .lss 11 13] []) (.cond (Zt 14) .skip (.exit 0))) (.seq (.blk 1 (.seq (.drw [Zm 17 0,Zm 18 5,Zx 19 1 17 18,Zl 20 19,Zm 21 1,Zm 22 5,Zx 23 1 21 22,Zl 24 23,Zb 25 .neq 20 24] []) (.cond (Zt 25) (.seq (.reg [Zo 4 (.mv (.c (.b false)))] []) .ret) .skip))) (.reg [Zm 15 5,Zd 16 .add 15 1,Zm 5 16] [])))
def A16R2:ACode:=(.seq (.reg [Zo 4 (.mv (.c (.b true)))] []) .ret)
def A16:ACode:=(.seq (.reg [Zo 4 (.mv (.c (.b false)))] []) (.seq (.seq (.reg [Zm 6 0,Zk 7 6,Zm 8 1,Zk 9 8,Zb 10 .neq 7 9] []) (.cond (Zt 10) (.seq (.reg [Zo 4 (.mv (.c (.b false)))] []) .ret) .skip)) (.seqa (.reg [Zn 5 0] []) (.blk 0 (.loop A16L1)) [] [] A16R2)))
def V16:List RV:=[.t 4]
theorem m16:mtcF Try.prog 16 2 A16 V16=true:=by kernel_rfl
def A71:ACode:=(.seq (.reg [Zo 2 (.box 2 (Zt 0)),Zo 3 (.box 2 (Zt 1)),Zo 4 (.mv (.c (.b false)))] []) (.seq (.seq (.reg [Za 5 0 2,Zl 6 5,Za 7 0 3,Zl 8 7,Zb 9 .neq 6 8] []) (.cond (Zt 9) (.seq (.reg [Zo 4 (.mv (.c (.b false)))] []) .ret) .skip)) (.seq (.seq (.reg [Za 10 1 2,Zl 11 10,Za 12 1 3,Zl 13 12,Zo 14 (.call 16 [(Zt 11),(Zt 13)]),Zo 15 (.un .not (Zt 14))] []) (.cond (Zt 15) (.seq (.reg [Zo 4 (.mv (.c (.b false)))] []) .ret) .skip)) (.seq (.reg [Zo 4 (.mv (.c (.b true)))] []) .ret))))
def V71:List RV:=[.t 4]
theorem m71:mtcF Try.prog 71 2 A71 V71=true:=by kernel_rfl
def A35L1:ACode:=(.seq (.seq (.reg [Zm 11 5,Zm 12 0,Zk 13 12,Zb 14 .lss 11 13] []) (.cond (Zt 14) .skip (.exit 0))) (.seq (.blk 1 (.seq (.drw [Zm 17 0,Zm 18 5,Zx 19 2 17 18,Zo 20 (.load 2 true (Zt 19)),Zm 21 1,Zm 22 5,Zx 23 2 21 22,Zo 24 (.load 2 true (Zt 23)),Zo 25 (.call 71 [(Zt 20),(Zt 24)]),Zo 26 (.un .not (Zt 25))] []) (.cond (Zt 26) (.seq (.reg [Zo 4 (.mv (.c (.b false)))] []) .ret) .skip))) (.reg [Zm 15 5,Zd 16 .add 15 1,Zm 5 16] [])))
def A35R2:ACode:=(.seq (.reg [Zo 4 (.mv (.c (.b true)))] []) .ret)
def A35:ACode:=(.seq (.reg [Zo 4 (.mv (.c (.b false)))] []) (.seq (.seq (.reg [Zm 6 0,Zk 7 6,Zm 8 1,Zk 9 8,Zb 10 .neq 7 9] []) (.cond (Zt 10) (.seq (.reg [Zo 4 (.mv (.c (.b false)))] []) .ret) .skip)) (.seqa (.reg [Zn 5 0] []) (.blk 0 (.loop A35L1)) [] [] A35R2)))
def V35:List RV:=[.t 4]
theorem m35:mtcF Try.prog 35 2 A35 V35=true:=by kernel_rfl
def A44L1:ACode:=(.seq (.seq (.reg [Zm 11 5,Zm 12 0,Zk 13 12,Zb 14 .lss 11 13] []) (.cond (Zt 14) .skip (.exit 0))) (.seq (.blk 1 (.seq (.drw [Zm 17 0,Zm 18 5,Zx 19 1 17 18,Zl 20 19,Zm 21 1,Zm 22 5,Zx 23 1 21 22,Zl 24 23,Zb 25 .neq 20 24] []) (.cond (Zt 25) (.seq (.reg [Zo 4 (.mv (.c (.b false)))] []) .ret) .skip))) (.reg [Zm 15 5,Zd 16 .add 15 1,Zm 5 16] [])))
def A44R2:ACode:=(.seq (.reg [Zo 4 (.mv (.c (.b true)))] []) .ret)
def A44:ACode:=(.seq (.reg [Zo 4 (.mv (.c (.b false)))] []) (.seq (.seq (.reg [Zm 6 0,Zk 7 6,Zm 8 1,Zk 9 8,Zb 10 .neq 7 9] []) (.cond (Zt 10) (.seq (.reg [Zo 4 (.mv (.c (.b false)))] []) .ret) .skip)) (.seqa (.reg [Zn 5 0] []) (.blk 0 (.loop A44L1)) [] [] A44R2)))
def V44:List RV:=[.t 4]
theorem m44:mtcF Try.prog 44 2 A44 V44=true:=by kernel_rfl
def A80:ACode:=(.seq (.reg [Zo 2 (.box 4 (Zt 0)),Zo 3 (.box 4 (Zt 1)),Zo 4 (.mv (.c (.b false)))] []) (.seq (.seq (.reg [Za 5 0 2,Zl 6 5,Za 7 0 3,Zl 8 7,Zb 9 .neq 6 8] []) (.cond (Zt 9) (.seq (.reg [Zo 4 (.mv (.c (.b false)))] []) .ret) .skip)) (.seq (.seq (.reg [Za 10 1 2,Zl 11 10,Za 12 1 3,Zl 13 12,Zb 14 .neq 11 13] []) (.cond (Zt 14) (.seq (.reg [Zo 4 (.mv (.c (.b false)))] []) .ret) .skip)) (.seq (.seq (.reg [Za 15 2 2,Zl 16 15,Za 17 2 3,Zl 18 17,Zb 19 .neq 16 18] []) (.cond (Zt 19) (.seq (.reg [Zo 4 (.mv (.c (.b false)))] []) .ret) .skip)) (.seq (.seq (.reg [Za 20 3 2,Zl 21 20,Za 22 3 3,Zl 23 22,Zb 24 .neq 21 23] []) (.cond (Zt 24) (.seq (.reg [Zo 4 (.mv (.c (.b false)))] []) .ret) .skip)) (.seq (.reg [Zo 4 (.mv (.c (.b true)))] []) .ret))))))
def V80:List RV:=[.t 4]
theorem m80:mtcF Try.prog 80 2 A80 V80=true:=by kernel_rfl
def A45L1:ACode:=(.seq (.seq (.reg [Zm 11 5,Zm 12 0,Zk 13 12,Zb 14 .lss 11 13] []) (.cond (Zt 14) .skip (.exit 0))) (.seq (.blk 1 (.seq (.drw [Zm 17 0,Zm 18 5,Zx 19 4 17 18,Zo 20 (.load 4 true (Zt 19)),Zm 21 1,Zm 22 5,Zx 23 4 21 22,Zo 24 (.load 4 true (Zt 23)),Zo 25 (.call 80 [(Zt 20),(Zt 24)]),Zo 26 (.un .not (Zt 25))] []) (.cond (Zt 26) (.seq (.reg [Zo 4 (.mv (.c (.b false)))] []) .ret) .skip))) (.reg [Zm 15 5,Zd 16 .add 15 1,Zm 5 16] [])))
def A45R2:ACode:=(.seq (.reg [Zo 4 (.mv (.c (.b true)))] []) .ret)
def A45:ACode:=(.seq (.reg [Zo 4 (.mv (.c (.b false)))] []) (.seq (.seq (.reg [Zm 6 0,Zk 7 6,Zm 8 1,Zk 9 8,Zb 10 .neq 7 9] []) (.cond (Zt 10) (.seq (.reg [Zo 4 (.mv (.c (.b false)))] []) .ret) .skip)) (.seqa (.reg [Zn 5 0] []) (.blk 0 (.loop A45L1)) [] [] A45R2)))
def V45:List RV:=[.t 4]
theorem m45:mtcF Try.prog 45 2 A45 V45=true:=by kernel_rfl
def A15:ACode:=(.seq (.reg [Zo 2 (.box 2 (Zt 0)),Zo 3 (.box 2 (Zt 1)),Zo 4 (.mv (.c (.b false)))] []) (.seq (.seq (.reg [Za 5 0 2,Zl 6 5,Za 7 0 3,Zl 8 7,Zo 9 (.call 44 [(Zt 6),(Zt 8)]),Zo 10 (.un .not (Zt 9))] []) (.cond (Zt 10) (.seq (.reg [Zo 4 (.mv (.c (.b false)))] []) .ret) .skip)) (.seq (.seq (.reg [Za 11 1 2,Zl 12 11,Za 13 1 3,Zl 14 13,Zo 15 (.call 45 [(Zt 12),(Zt 14)]),Zo 16 (.un .not (Zt 15))] []) (.cond (Zt 16) (.seq (.reg [Zo 4 (.mv (.c (.b false)))] []) .ret) .skip)) (.seq (.reg [Zo 4 (.mv (.c (.b true)))] []) .ret))))
def V15:List RV:=[.t 4]
theorem m15:mtcF Try.prog 15 2 A15 V15=true:=by kernel_rfl
def A89L1:ACode:=(.seq (.seq (.reg [Zm 6 0,Zd 7 .gtr 6 0] []) (.cond (Zt 7) .skip (.exit 0))) (.blk 1 (.seq (.reg [Zm 8 0,Zd 9 .rem 8 10,Zo 10 (.bin .add (.c (.i 48)) (Zt 9)),Zo 11 (.conv .u8 (Zt 10)),Zo 12 (.bsl 1 false [(Zt 11)]),Zo 13 (.b2s (Zt 12)),Zm 14 3,Zb 15 .add 13 14,Zm 3 15] []) (.reg [Zm 16 0,Zd 17 .quo 16 10,Zm 0 17] []))))
def A89R2:ACode:=(.seq (.reg [Zm 18 3,Zo 19 (.bin .add (.c (.z ⟨#[109]⟩)) (Zt 18)),Zm 2 19] []) .ret)
def A89:ACode:=(.seq (.reg [Zo 2 (.mv (.c (.z ⟨#[]⟩)))] []) (.seq (.seq (.reg [Zm 4 0,Zd 5 .leq 4 0] []) (.cond (Zt 5) (.seq (.reg [Zo 2 (.mv (.c (.z ⟨#[109,48]⟩)))] []) .ret) .skip)) (.seq (.reg [Zo 3 (.mv (.c (.z ⟨#[]⟩)))] []) (.seqr (.blk 0 (.loop A89L1)) [3] [] A89R2))))
def V89:List RV:=[.t 2]
theorem m89:mtcF Try.prog 89 1 A89 V89=true:=by kernel_rfl
def A49M1L1:ACode:=(.seq (.seq (.reg [Zm 6 5,Zm 7 0,Zk 8 7,Zb 9 .lss 6 8] []) (.cond (Zt 9) .skip (.exit 0))) (.seq (.blk 1 (.seq (.reg [Zm 12 0,Zm 13 5,Zm 14 1,Zo 15 (.call 89 [(Zt 14)]),Zx 16 1 12 13,⟨none,.store 1 (Zt 16) (Zt 15),none⟩] []) (.reg [Zm 17 1,Zd 18 .add 17 1,Zm 1 18] []))) (.reg [Zm 10 5,Zd 11 .add 10 1,Zm 5 11] [])))
def A49M1R2:ACode:=(.seq (.reg [Zm 19 1,Zm 4 19] []) .ret)
def A49M1:ACode:=(.seq (.reg [Zn 4 0] []) (.seqa (.reg [Zn 5 0] []) (.blk 0 (.loop A49M1L1)) [1] [1000000000] A49M1R2))
def V49M1:List RV:=[.t 4]
theorem m49M1:mtcF Try.prog 49 2 A49M1 V49M1=true:=by kernel_rfl
def A50M1L1:ACode:=(.seq (.seq (.reg [Zm 6 5,Zm 7 0,Zk 8 7,Zb 9 .lss 6 8] []) (.cond (Zt 9) .skip (.exit 0))) (.seq (.blk 1 (.seq (.reg [Zm 12 0,Zm 13 5,Zm 14 1,Zx 15 4 12 13,Za 16 0 15,⟨none,.store 1 (Zt 16) (Zt 14),none⟩] []) (.seq (.reg [Zm 17 1,Zd 18 .add 17 1,Zm 1 18] []) (.seq (.reg [Zm 19 0,Zm 20 5,Zm 21 1,Zx 22 4 19 20,Za 23 1 22,⟨none,.store 1 (Zt 23) (Zt 21),none⟩] []) (.seq (.reg [Zm 24 1,Zd 25 .add 24 1,Zm 1 25] []) (.seq (.reg [Zm 26 0,Zm 27 5,Zm 28 1,Zx 29 4 26 27,Za 30 2 29,⟨none,.store 1 (Zt 30) (Zt 28),none⟩] []) (.seq (.reg [Zm 31 1,Zd 32 .add 31 1,Zm 1 32] []) (.seq (.reg [Zm 33 0,Zm 34 5,Zm 35 1,Zx 36 4 33 34,Za 37 3 36,⟨none,.store 1 (Zt 37) (Zt 35),none⟩] []) (.reg [Zm 38 1,Zd 39 .add 38 1,Zm 1 39] []))))))))) (.reg [Zm 10 5,Zd 11 .add 10 1,Zm 5 11] [])))
def A50M1R2:ACode:=(.seq (.reg [Zm 40 1,Zm 4 40] []) .ret)
def A50M1:ACode:=(.seq (.reg [Zn 4 0] []) (.seqa (.reg [Zn 5 0] []) (.blk 0 (.loop A50M1L1)) [1] [1000000000] A50M1R2))
def V50M1:List RV:=[.t 4]
theorem m50M1:mtcF Try.prog 50 2 A50M1 V50M1=true:=by kernel_rfl
def A19M1:ACode:=(.seq (.reg [Zo 2 (.box 2 (Zt 0)),Zn 4 0] []) (.seq (.reg [Za 5 0 2,Zl 6 5,Zm 7 1,Zo 8 (.callM 49 [(Zt 6),(Zt 7)] [1000000000]),Zm 1 8] []) (.seq (.reg [Za 9 1 2,Zl 10 9,Zm 11 1,Zo 12 (.callM 50 [(Zt 10),(Zt 11)] [1000000001]),Zm 1 12] []) (.seq (.reg [Zm 13 1,Zm 4 13] []) .ret))))
def V19M1:List RV:=[.t 4]
theorem m19M1:mtcF Try.prog 19 2 A19M1 V19M1=true:=by kernel_rfl
def A20M1L1:ACode:=(.seq (.seq (.reg [Zm 6 5,Zm 7 0,Zk 8 7,Zb 9 .lss 6 8] []) (.cond (Zt 9) .skip (.exit 0))) (.seq (.blk 1 (.seq (.reg [Zm 12 0,Zm 13 5,Zm 14 1,Zx 15 1 12 13,⟨none,.store 1 (Zt 15) (Zt 14),none⟩] []) (.reg [Zm 16 1,Zd 17 .add 16 1,Zm 1 17] []))) (.reg [Zm 10 5,Zd 11 .add 10 1,Zm 5 11] [])))
def A20M1R2:ACode:=(.seq (.reg [Zm 18 1,Zm 4 18] []) .ret)
def A20M1:ACode:=(.seq (.reg [Zn 4 0] []) (.seqa (.reg [Zn 5 0] []) (.blk 0 (.loop A20M1L1)) [1] [1000000000] A20M1R2))
def V20M1:List RV:=[.t 4]
theorem m20M1:mtcF Try.prog 20 2 A20M1 V20M1=true:=by kernel_rfl
def A36M1L1:ACode:=(.seq (.seq (.reg [Zm 6 5,Zm 7 0,Zk 8 7,Zb 9 .lss 6 8] []) (.cond (Zt 9) .skip (.exit 0))) (.seq (.blk 1 (.seq (.reg [Zm 12 0,Zm 13 5,Zm 14 1,Zx 15 2 12 13,Za 16 0 15,⟨none,.store 1 (Zt 16) (Zt 14),none⟩] []) (.seq (.reg [Zm 17 1,Zd 18 .add 17 1,Zm 1 18] []) (.regh [Zm 19 0,Zm 20 5,Zx 21 2 19 20,Za 22 1 21] (.inn 23 2 1 (Zt 22) [(24,(Zt 1))] 25 20 [(Zt 23),(Zt 24)]) [Zm 1 25] [])))) (.reg [Zm 10 5,Zd 11 .add 10 1,Zm 5 11] [])))
def A36M1R2:ACode:=(.seq (.reg [Zm 26 1,Zm 4 26] []) .ret)
def A36M1:ACode:=(.seq (.reg [Zn 4 0] []) (.seqa (.reg [Zn 5 0] []) (.blk 0 (.loop A36M1L1)) [1] [1000000000] A36M1R2))
def V36M1:List RV:=[.t 4]
theorem m36M1:mtcF Try.prog 36 2 A36M1 V36M1=true:=by kernel_rfl
def A21L1:ACode:=(.seq (.seq (.reg [Zm 6 5,Zm 7 0,Zk 8 7,Zb 9 .lss 6 8] []) (.cond (Zt 9) .skip (.exit 0))) (.seq (.blk 1 (.seq (.seq (.reg [Zm 12 0,Zm 13 5,Zx 14 1 12 13,Zl 15 14,Zm 16 1,Zb 17 .neq 15 16] []) (.cond (Zt 17) (.seq (.reg [Zn 4 (-1)] []) .ret) .skip)) (.reg [Zm 18 1,Zd 19 .add 18 1,Zm 1 19] []))) (.reg [Zm 10 5,Zd 11 .add 10 1,Zm 5 11] [])))
def A21R2:ACode:=(.seq (.reg [Zm 20 1,Zm 4 20] []) .ret)
def A21:ACode:=(.seq (.reg [Zn 4 0] []) (.seqa (.reg [Zn 5 0] []) (.blk 0 (.loop A21L1)) [1] [] A21R2))
def V21:List RV:=[.t 4]
theorem m21:mtcF Try.prog 21 2 A21 V21=true:=by kernel_rfl
def A37L1:ACode:=(.seq (.seq (.reg [Zm 6 5,Zm 7 0,Zk 8 7,Zb 9 .lss 6 8] []) (.cond (Zt 9) .skip (.exit 0))) (.seq (.blk 1 (.seq (.seq (.reg [Zm 12 0,Zm 13 5,Zx 14 2 12 13,Za 15 0 14,Zl 16 15,Zm 17 1,Zb 18 .neq 16 17] []) (.cond (Zt 18) (.seq (.reg [Zn 4 (-1)] []) .ret) .skip)) (.seq (.reg [Zm 19 1,Zd 20 .add 19 1,Zm 1 20] []) (.seq (.reg [Zm 21 0,Zm 22 5,Zx 23 2 21 22,Za 24 1 23,Zl 25 24,Zm 26 1,Zo 27 (.call 21 [(Zt 25),(Zt 26)]),Zm 1 27] []) (.seq (.reg [Zm 28 1,Zd 29 .lss 28 0] []) (.cond (Zt 29) (.seq (.reg [Zn 4 (-1)] []) .ret) .skip)))))) (.reg [Zm 10 5,Zd 11 .add 10 1,Zm 5 11] [])))
def A37R2:ACode:=(.seq (.reg [Zm 30 1,Zm 4 30] []) .ret)
def A37:ACode:=(.seq (.reg [Zn 4 0] []) (.seqa (.reg [Zn 5 0] []) (.blk 0 (.loop A37L1)) [1] [] A37R2))
def V37:List RV:=[.t 4]
theorem m37:mtcF Try.prog 37 2 A37 V37=true:=by kernel_rfl
def A9R1:ACode:=(.cond (Zt 55) (.seq (.reg [Zo 6 (.mv (.c (.b false)))] []) .ret) .skip)
def A9R2:ACode:=(.cond (Zt 84) (.seq (.reg [Zo 6 (.mv (.c (.b false)))] []) .ret) .skip)
def A9R3:ACode:=(.cond (Zt 113) (.seq (.reg [Zo 6 (.mv (.c (.b false)))] []) .ret) .skip)
def A9:ACode:=(.seq (.reg [Zo 3 (.box 2 (Zt 0)),Zo 6 (.mv (.c (.b false)))] []) (.seq (.seq (.reg [Zm 19 1,Zk 20 19,Zd 21 .gtr 20 1048576] []) (.cond (Zt 21) (.seq (.reg [Zo 6 (.mv (.c (.b true)))] []) .ret) .skip)) (.seq (.reg [Zn 7 1048576] []) (.seq (.reg [Zo 22 (.load 2 true (Zt 3)),Zm 23 7,Zo 24 (.call 10 [(Zt 22),(Zt 23)]),Zm 7 24] []) (.seq (.seq (.reg [Zm 25 7,Zd 26 .lss 25 0] []) (.cond (Zt 26) (.seq (.reg [Zo 6 (.mv (.c (.b true)))] []) .ret) .skip)) (.seq (.reg [Zo 28 (.load 2 true (Zt 3)),Zo 29 (.call 12 [(Zt 28)]),Zm 30 1,Zo 31 (.call 13 [(Zt 30)]),Zm 32 2,Zo 33 (.call 33 [(Zt 29),(Zt 31),(Zt 32)]),Zm 27 33,Ze 34 27 0,Ze 35 27 1,Zm 8 34,Zm 9 35] [.s 8]) (.seq (.reg [Zo 36 (.load 2 true (Zt 3)),Zo 37 (.call 12 [(Zt 36)]),Zo 10 (.alloc (.agg [.lst .u 1 [],.lst .u 4 []])),⟨none,.store 2 (Zt 10) (Zt 37),none⟩] []) (.seq (.reg [Zm 38 1,Zo 39 (.call 13 [(Zt 38)]),Zm 11 39] [.s 11]) (.seq (.reg [Zo 41 (.load 2 true (Zt 10)),Zm 42 11,Zm 43 2,Zo 44 (.call 34 [(Zt 41),(Zt 42),(Zt 43)]),Zm 40 44,Ze 45 40 0,Ze 46 40 1,Zm 12 45,Zm 13 46] [.s 12]) (.seq (.seqr (.reg [Zm 47 12,Zm 48 8,Zo 49 (.call 35 [(Zt 47),(Zt 48)]),Zo 50 (.un .not (Zt 49)),Zm 51 50,⟨(some 52),.mv (Zt 13),(some (51,false))⟩,⟨(some 53),.mv (Zt 9),(some (51,false))⟩,⟨(some 54),.beq true (Zt 52) (Zt 53),(some (51,false))⟩,Zo 55 (.pick (Zt 51) (.c (.b true)) (Zt 54))] []) [1,2,3,8,9,10,11,12,13,55] [3,8,10,11,12,37,1037] A9R1) (.seq (.seq (.drw [Zo 56 (.load 2 true (Zt 10)),Zo 57 (.load 2 true (Zt 3)),Zo 58 (.call 12 [(Zt 57)]),Zo 59 (.call 15 [(Zt 56),(Zt 58)]),Zo 60 (.un .not (Zt 59))] []) (.cond (Zt 60) (.seq (.reg [Zo 6 (.mv (.c (.b false)))] []) .ret) .skip)) (.seq (.seq (.reg [Zm 61 11,Zm 62 1,Zo 63 (.call 13 [(Zt 62)]),Zo 64 (.call 16 [(Zt 61),(Zt 63)]),Zo 65 (.un .not (Zt 64))] []) (.cond (Zt 65) (.seq (.reg [Zo 6 (.mv (.c (.b false)))] []) .ret) .skip)) (.seq (.reg [Zn 14 1] []) (.seq (.reg [Zo 66 (.load 2 true (Zt 10)),Zm 67 14,Zo 68 (.callM 19 [(Zt 66),(Zt 67)] [37,1037]),Zm 14 68] []) (.seq (.reg [Zm 69 11,Zm 70 14,Zo 71 (.callM 20 [(Zt 69),(Zt 70)] [11]),Zm 14 71] []) (.seq (.seqr (.reg [Zm 72 14,Zd 73 .lss 72 0,Zm 74 73,⟨(some 75),.mv (Zt 12),(some (74,false))⟩,⟨(some 76),.mv (Zt 8),(some (74,false))⟩,⟨(some 77),.call 35 [(Zt 75),(Zt 76)],(some (74,false))⟩,⟨(some 78),.un .not (Zt 77),(some (74,false))⟩,Zo 79 (.pick (Zt 74) (.c (.b true)) (Zt 78)),Zm 80 79,⟨(some 81),.mv (Zt 13),(some (80,false))⟩,⟨(some 82),.mv (Zt 9),(some (80,false))⟩,⟨(some 83),.beq true (Zt 81) (Zt 82),(some (80,false))⟩,Zo 84 (.pick (Zt 80) (.c (.b true)) (Zt 83))] []) [1,2,3,8,9,12,84] [3,8,12] A9R2) (.seq (.reg [Zn 15 1] []) (.seq (.regh [Zm 85 12,Zm 86 15] (.har 87 36 [(Zt 85),(Zt 86)] [12]) [Zm 15 87] []) (.seq (.reg [Zn 16 1] []) (.seq (.reg [Zm 88 12,Zm 89 16,Zo 90 (.call 37 [(Zt 88),(Zt 89)]),Zm 16 90] []) (.seq (.seq (.reg [Zm 91 16,Zd 92 .lss 91 0] []) (.cond (Zt 92) (.seq (.reg [Zo 6 (.mv (.c (.b false)))] []) .ret) .skip)) (.seq (.seq (.reg [Zm 93 16,Zm 94 15,Zb 95 .neq 93 94] []) (.cond (Zt 95) (.seq (.reg [Zo 6 (.mv (.c (.b false)))] []) .ret) .skip)) (.seq (.reg [Zo 97 (.load 2 true (Zt 3)),Zo 98 (.call 12 [(Zt 97)]),Zm 99 1,Zo 100 (.call 13 [(Zt 99)]),Zm 101 2,Zo 102 (.call 34 [(Zt 98),(Zt 100),(Zt 101)]),Zm 96 102,Ze 103 96 0,Ze 104 96 1,Zm 17 103,Zm 18 104] [.s 17]) (.seq (.seqr (.reg [Zm 105 17,Zm 106 8,Zo 107 (.call 35 [(Zt 105),(Zt 106)]),Zo 108 (.un .not (Zt 107)),Zm 109 108,⟨(some 110),.mv (Zt 18),(some (109,false))⟩,⟨(some 111),.mv (Zt 9),(some (109,false))⟩,⟨(some 112),.beq true (Zt 110) (Zt 111),(some (109,false))⟩,Zo 113 (.pick (Zt 109) (.c (.b true)) (Zt 112))] []) [12,15,113] [12] A9R3) (.seq (.reg [Zn 16 1] []) (.seq (.reg [Zm 114 12,Zm 115 16,Zo 116 (.call 37 [(Zt 114),(Zt 115)]),Zm 16 116] []) (.seq (.seq (.reg [Zm 117 16,Zd 118 .lss 117 0] []) (.cond (Zt 118) (.seq (.reg [Zo 6 (.mv (.c (.b false)))] []) .ret) .skip)) (.seq (.seq (.reg [Zm 119 16,Zm 120 15,Zb 121 .neq 119 120] []) (.cond (Zt 121) (.seq (.reg [Zo 6 (.mv (.c (.b false)))] []) .ret) .skip)) (.seq (.reg [Zo 6 (.mv (.c (.b true)))] []) .ret)))))))))))))))))))))))))))))
def V9:List RV:=[.t 6]
theorem m9:mtcF Try.prog 9 3 A9 V9=true:=by kernel_rfl
end Vs

