/-
  Part of the proof that the law FnExactAllRings returns true at every input; no condition beside the row's own.
-/
import Derived.Test.YteilpiddonoikaaQe
import Derived.Test.YteilpiddonoikaaChecked
import Derived.KernelRfl
import Derived.Shelf.SlSortCmp.NoneTotal
set_option linter.defProp false
set_option linter.unusedSimpArgs false
set_option linter.unusedVariables false
namespace Vs
open Go
structure TFiber where
 A:Int
 B:Int
 Length:Int
 Risk:Int
 deriving DecidableEq
def e_TFiber (f:Fl) (x:TFiber):AV:=.agg [.i x.A,.i x.B,.i x.Length,.i x.Risk]
theorem e_TFiber_nrm (f:Fl) (x:TFiber):(e_TFiber f x).nrm=e_TFiber .o x:=by simp [e_TFiber,nrm_sc,nrm_lst,nrm_agg,nrm_sc]
theorem e_TFiber_nrmm (f:Fl) (xs:List TFiber):(xs.map (e_TFiber f)).map AV.nrm=xs.map (e_TFiber .o):=by simp [e_TFiber_nrm]
theorem e_TFiber_als (f:Fl) (x:TFiber):(e_TFiber f x).als=e_TFiber f.als x:=by simp [e_TFiber,als_sc,als_lst,als_agg,nrm_sc]
theorem e_TFiber_alsm (f:Fl) (xs:List TFiber):(xs.map (e_TFiber f)).map AV.als=xs.map (e_TFiber f.als):=by simp [e_TFiber_als]
theorem e_TFiber_alsc (f:Fl):AV.als ∘ e_TFiber f=e_TFiber f.als:=by funext x; simp [e_TFiber_als]
theorem e_TFiber_fix (f:Fl) (x:TFiber):(e_TFiber f x).fix=e_TFiber f.fix x:=by simp [e_TFiber,fix_sc,fix_lst,fix_agg,nrm_sc]
theorem e_TFiber_fixm (f:Fl) (xs:List TFiber):(xs.map (e_TFiber f)).map AV.fix=xs.map (e_TFiber f.fix):=by simp [e_TFiber_fix]
theorem e_TFiber_fz (x:TFiber):(e_TFiber .o x).fz=true:=by simp [e_TFiber,AV.i,AV.b,AV.z,fz_sc,fz_lsto,fz_agg,fzL_nil,fzL_cons,fzL_mi,fzL_mb,fzL_mz,fzL_m8,fzL_m64,ouL_m8,ouL_m64,ou_sc,ou_lstu,ou_agg,ouL_nil,ouL_cons,ouL_mi,ouL_mb,ouL_mz]
theorem e_TFiber_fzm (xs:List TFiber):fzL (xs.map (e_TFiber .o))=true:=fzL_of e_TFiber_fz xs
theorem e_TFiber_ou (x:TFiber):(e_TFiber .u x).ouB=true:=by simp [e_TFiber,AV.i,AV.b,AV.z,fz_sc,fz_lsto,fz_agg,fzL_nil,fzL_cons,fzL_mi,fzL_mb,fzL_mz,fzL_m8,fzL_m64,ouL_m8,ouL_m64,ou_sc,ou_lstu,ou_agg,ouL_nil,ouL_cons,ouL_mi,ouL_mb,ouL_mz]
theorem e_TFiber_oum (xs:List TFiber):ouBL (xs.map (e_TFiber .u))=true:=ouL_of e_TFiber_ou xs
structure TNetwork where
 Nodes:List ByteArray
 Fibers:List TFiber
def e_TNetwork (f:Fl) (x:TNetwork):AV:=.agg [.lst f 1 (x.Nodes.map AV.z),.lst f 4 (x.Fibers.map (e_TFiber f))]
theorem e_TNetwork_nrm (f:Fl) (x:TNetwork):(e_TNetwork f x).nrm=e_TNetwork .o x:=by simp [e_TNetwork,nrm_sc,nrm_lst,nrm_agg,e_TFiber_nrm,map_nrm_i,map_nrm_z]
theorem e_TNetwork_nrmm (f:Fl) (xs:List TNetwork):(xs.map (e_TNetwork f)).map AV.nrm=xs.map (e_TNetwork .o):=by simp [e_TNetwork_nrm]
theorem e_TNetwork_als (f:Fl) (x:TNetwork):(e_TNetwork f x).als=e_TNetwork f.als x:=by simp [e_TNetwork,als_sc,als_lst,als_agg,e_TFiber_als,map_als_i,map_als_z]
theorem e_TNetwork_alsm (f:Fl) (xs:List TNetwork):(xs.map (e_TNetwork f)).map AV.als=xs.map (e_TNetwork f.als):=by simp [e_TNetwork_als]
theorem e_TNetwork_alsc (f:Fl):AV.als ∘ e_TNetwork f=e_TNetwork f.als:=by funext x; simp [e_TNetwork_als]
theorem e_TNetwork_fix (f:Fl) (x:TNetwork):(e_TNetwork f x).fix=e_TNetwork f.fix x:=by simp [e_TNetwork,fix_sc,fix_lst,fix_agg,e_TFiber_fix,map_fix_i,map_fix_z]
theorem e_TNetwork_fixm (f:Fl) (xs:List TNetwork):(xs.map (e_TNetwork f)).map AV.fix=xs.map (e_TNetwork f.fix):=by simp [e_TNetwork_fix]
theorem e_TNetwork_fz (x:TNetwork):(e_TNetwork .o x).fz=true:=by simp [e_TNetwork,AV.i,AV.b,AV.z,fz_sc,fz_lsto,fz_agg,fzL_nil,fzL_cons,fzL_mi,fzL_mb,fzL_mz,fzL_m8,fzL_m64,ouL_m8,ouL_m64,ou_sc,ou_lstu,ou_agg,ouL_nil,ouL_cons,ouL_mi,ouL_mb,ouL_mz,e_TFiber_fzm,e_TFiber_oum]
theorem e_TNetwork_fzm (xs:List TNetwork):fzL (xs.map (e_TNetwork .o))=true:=fzL_of e_TNetwork_fz xs
theorem e_TNetwork_ou (x:TNetwork):(e_TNetwork .u x).ouB=true:=by simp [e_TNetwork,AV.i,AV.b,AV.z,fz_sc,fz_lsto,fz_agg,fzL_nil,fzL_cons,fzL_mi,fzL_mb,fzL_mz,fzL_m8,fzL_m64,ouL_m8,ouL_m64,ou_sc,ou_lstu,ou_agg,ouL_nil,ouL_cons,ouL_mi,ouL_mb,ouL_mz,e_TFiber_fzm,e_TFiber_oum]
theorem e_TNetwork_oum (xs:List TNetwork):ouBL (xs.map (e_TNetwork .u))=true:=ouL_of e_TNetwork_ou xs
def e_Li (f:Fl) (xs:List Int):AV:=.lst f 1 (xs.map AV.i)
theorem e_Li_nrm (f:Fl) (x:List Int):(e_Li f x).nrm=e_Li .o x:=by simp [e_Li,nrm_sc,nrm_lst,nrm_agg,map_nrm_i]
theorem e_Li_nrmm (f:Fl) (xs:List (List Int)):(xs.map (e_Li f)).map AV.nrm=xs.map (e_Li .o):=by simp [e_Li_nrm]
theorem e_Li_als (f:Fl) (x:List Int):(e_Li f x).als=e_Li f.als x:=by simp [e_Li,als_sc,als_lst,als_agg,map_als_i]
theorem e_Li_alsm (f:Fl) (xs:List (List Int)):(xs.map (e_Li f)).map AV.als=xs.map (e_Li f.als):=by simp [e_Li_als]
theorem e_Li_alsc (f:Fl):AV.als ∘ e_Li f=e_Li f.als:=by funext x; simp [e_Li_als]
theorem e_Li_fix (f:Fl) (x:List Int):(e_Li f x).fix=e_Li f.fix x:=by simp [e_Li,fix_sc,fix_lst,fix_agg,map_fix_i]
theorem e_Li_fixm (f:Fl) (xs:List (List Int)):(xs.map (e_Li f)).map AV.fix=xs.map (e_Li f.fix):=by simp [e_Li_fix]
theorem e_Li_fz (x:List Int):(e_Li .o x).fz=true:=by simp [e_Li,AV.i,AV.b,AV.z,fz_sc,fz_lsto,fz_agg,fzL_nil,fzL_cons,fzL_mi,fzL_mb,fzL_mz,fzL_m8,fzL_m64,ouL_m8,ouL_m64,ou_sc,ou_lstu,ou_agg,ouL_nil,ouL_cons,ouL_mi,ouL_mb,ouL_mz]
theorem e_Li_fzm (xs:List (List Int)):fzL (xs.map (e_Li .o))=true:=fzL_of e_Li_fz xs
theorem e_Li_ou (x:List Int):(e_Li .u x).ouB=true:=by simp [e_Li,AV.i,AV.b,AV.z,fz_sc,fz_lsto,fz_agg,fzL_nil,fzL_cons,fzL_mi,fzL_mb,fzL_mz,fzL_m8,fzL_m64,ouL_m8,ouL_m64,ou_sc,ou_lstu,ou_agg,ouL_nil,ouL_cons,ouL_mi,ouL_mb,ouL_mz]
theorem e_Li_oum (xs:List (List Int)):ouBL (xs.map (e_Li .u))=true:=ouL_of e_Li_ou xs
structure Tl17Search where
 n:TNetwork
 list:List (List Int)
def e_Tl17Search (f:Fl) (x:Tl17Search):AV:=.agg [.lst f 1 (x.n.Nodes.map AV.z),.lst f 4 (x.n.Fibers.map (e_TFiber f)),.lst f 1 (x.list.map (e_Li f))]
theorem e_Tl17Search_nrm (f:Fl) (x:Tl17Search):(e_Tl17Search f x).nrm=e_Tl17Search .o x:=by simp [e_Tl17Search,nrm_sc,nrm_lst,nrm_agg,e_Li_nrm,e_TFiber_nrm,map_nrm_i,map_nrm_z]
theorem e_Tl17Search_nrmm (f:Fl) (xs:List Tl17Search):(xs.map (e_Tl17Search f)).map AV.nrm=xs.map (e_Tl17Search .o):=by simp [e_Tl17Search_nrm]
theorem e_Tl17Search_als (f:Fl) (x:Tl17Search):(e_Tl17Search f x).als=e_Tl17Search f.als x:=by simp [e_Tl17Search,als_sc,als_lst,als_agg,e_Li_als,e_TFiber_als,map_als_i,map_als_z]
theorem e_Tl17Search_alsm (f:Fl) (xs:List Tl17Search):(xs.map (e_Tl17Search f)).map AV.als=xs.map (e_Tl17Search f.als):=by simp [e_Tl17Search_als]
theorem e_Tl17Search_alsc (f:Fl):AV.als ∘ e_Tl17Search f=e_Tl17Search f.als:=by funext x; simp [e_Tl17Search_als]
theorem e_Tl17Search_fix (f:Fl) (x:Tl17Search):(e_Tl17Search f x).fix=e_Tl17Search f.fix x:=by simp [e_Tl17Search,fix_sc,fix_lst,fix_agg,e_Li_fix,e_TFiber_fix,map_fix_i,map_fix_z]
theorem e_Tl17Search_fixm (f:Fl) (xs:List Tl17Search):(xs.map (e_Tl17Search f)).map AV.fix=xs.map (e_Tl17Search f.fix):=by simp [e_Tl17Search_fix]
theorem e_Tl17Search_fz (x:Tl17Search):(e_Tl17Search .o x).fz=true:=by simp [e_Tl17Search,AV.i,AV.b,AV.z,fz_sc,fz_lsto,fz_agg,fzL_nil,fzL_cons,fzL_mi,fzL_mb,fzL_mz,fzL_m8,fzL_m64,ouL_m8,ouL_m64,ou_sc,ou_lstu,ou_agg,ouL_nil,ouL_cons,ouL_mi,ouL_mb,ouL_mz,e_TFiber_fzm,e_TFiber_oum,e_Li_fzm,e_Li_oum]
theorem e_Tl17Search_fzm (xs:List Tl17Search):fzL (xs.map (e_Tl17Search .o))=true:=fzL_of e_Tl17Search_fz xs
theorem e_Tl17Search_ou (x:Tl17Search):(e_Tl17Search .u x).ouB=true:=by simp [e_Tl17Search,AV.i,AV.b,AV.z,fz_sc,fz_lsto,fz_agg,fzL_nil,fzL_cons,fzL_mi,fzL_mb,fzL_mz,fzL_m8,fzL_m64,ouL_m8,ouL_m64,ou_sc,ou_lstu,ou_agg,ouL_nil,ouL_cons,ouL_mi,ouL_mb,ouL_mz,e_TFiber_fzm,e_TFiber_oum,e_Li_fzm,e_Li_oum]
theorem e_Tl17Search_oum (xs:List Tl17Search):ouBL (xs.map (e_Tl17Search .u))=true:=ouL_of e_Tl17Search_ou xs
def M_r (aZ0:List ByteArray) (sZ2:Int×Int):Option ((Int×Int) ⊕ (Int ⊕ Int)) :=
 cond (decide (sZ2.2 < (aZ0.length:Int))) ((geti aZ0 sZ2.2).bind fun yZ4=>cond (decide ((IntKind.wrap .i64 (sZ2.1 - (yZ4.size:Int))) < 0)) (some (.inr (.inr (-1)))) (some (.inl (IntKind.wrap .i64 (sZ2.1 - (yZ4.size:Int)),IntKind.wrap .i64 (sZ2.2+1))))) (some (.inr (.inl sZ2.1)))
def M_cd (aZ0:List ByteArray) (leftZ0:Int):Option Int :=
 cond (decide ((IntKind.wrap .i64 (leftZ0 - (aZ0.length:Int))) < 0)) (some (-1)) ((iter (M_r aZ0) N0 (IntKind.wrap .i64 (leftZ0 - (aZ0.length:Int)),0)).bind fun oZ6=>(match oZ6 with | .inl vZ7=>some vZ7 | .inr xZ8=>some xZ8))
def M_ce (aZ0:List TFiber) (leftZ0:Int):Option Int :=
 cond (decide ((IntKind.wrap .i64 (leftZ0 - (aZ0.length:Int))) < 0)) (some (-1)) (some (IntKind.wrap .i64 (leftZ0 - (aZ0.length:Int))))
def M_cf (aZ0:TNetwork) (leftZ0:Int):Option Int :=
 (M_cd aZ0.Nodes leftZ0).bind fun rZ1=>cond (decide (rZ1 < 0)) (some (-1)) ((M_ce aZ0.Fibers rZ1).bind fun rZ3=>cond (decide (rZ3 < 0)) (some (-1)) (some rZ3))
def M_s (aZ0:List ByteArray) (sZ4:Int×List ByteArray):Option ((Int×List ByteArray) ⊕ (List ByteArray)) :=
 cond (decide (sZ4.1 < (aZ0.length:Int))) ((geti aZ0 sZ4.1).bind fun yZ6=>(grd (0≤sZ4.1∧sZ4.1 < (sZ4.2.length:Int))).bind fun kZ7=>(sZ4.2[(Int.toNat sZ4.1)]?).bind fun yZ8=>bnd (sZ4.2.set (Int.toNat sZ4.1) yZ6) fun lZ9=>some (.inl (IntKind.wrap .i64 (sZ4.1+1),lZ9))) (some (.inr sZ4.2))
def M_cg (aZ0:List ByteArray):Option (List ByteArray) :=
 (grd (0≤(aZ0.length:Int)∧(aZ0.length:Int)≤(aZ0.length:Int)∧(aZ0.length:Int) * ((16:Nat):Int)≤140737488355328∧(aZ0.length:Int)≤9223372036854775807)).bind fun uZ1=>bnd (List.replicate (Int.toNat (aZ0.length:Int)) (⟨#[]⟩:ByteArray)) fun lZ2=>(iter (M_s aZ0) N0 (0,lZ2)).bind fun oZ11=>some oZ11
def M_bj (aZ0:TFiber):Option TFiber :=
 some (⟨aZ0.A,aZ0.B,aZ0.Length,aZ0.Risk⟩:TFiber)
def M_t (aZ0:List TFiber) (sZ4:Int×List TFiber):Option ((Int×List TFiber) ⊕ (List TFiber)) :=
 cond (decide (sZ4.1 < (aZ0.length:Int))) ((geti aZ0 sZ4.1).bind fun yZ6=>(M_bj yZ6).bind fun rZ7=>(grd (0≤sZ4.1∧sZ4.1 < (sZ4.2.length:Int))).bind fun kZ8=>(sZ4.2[(Int.toNat sZ4.1)]?).bind fun yZ9=>bnd (sZ4.2.set (Int.toNat sZ4.1) rZ7) fun lZ10=>some (.inl (IntKind.wrap .i64 (sZ4.1+1),lZ10))) (some (.inr sZ4.2))
def M_ch (aZ0:List TFiber):Option (List TFiber) :=
 (grd (0≤(aZ0.length:Int)∧(aZ0.length:Int)≤(aZ0.length:Int)∧(aZ0.length:Int) * ((32:Nat):Int)≤140737488355328∧(aZ0.length:Int)≤9223372036854775807)).bind fun uZ1=>bnd (List.replicate (Int.toNat (aZ0.length:Int)) (⟨0,0,0,0⟩:TFiber)) fun lZ2=>(iter (M_t aZ0) N0 (0,lZ2)).bind fun oZ12=>some oZ12
def M_au (aZ0:TNetwork):Option TNetwork :=
 (M_cg aZ0.Nodes).bind fun rZ1=>(M_ch aZ0.Fibers).bind fun rZ2=>some (⟨rZ1,rZ2⟩:TNetwork)
def M_an (xZ0:Int) (aZ0:Int) (bZ0:Int):Option Bool :=
 cond (decide (aZ0≤xZ0)) (some (decide (xZ0≤bZ0))) (some false)
def M_ci (bZ0:Int):Option Bool :=
 cond (decide (97≤bZ0)) (cond (decide (bZ0≤122)) (some true) (cond (decide (48≤bZ0)) (some (decide (bZ0≤57))) (some false))) (cond (decide (48≤bZ0)) (some (decide (bZ0≤57))) (some false))
def M_u (sZ0:ByteArray) (sZ7:Int):Option (Int ⊕ (Unit ⊕ Bool)) :=
 cond (decide (sZ7 < (sZ0.size:Int))) ((getz sZ0 sZ7).bind fun yZ9=>(M_ci (yZ9.toNat:Int)).bind fun rZ10=>cond (!rZ10) (some (.inr (.inr false))) (some (.inl (IntKind.wrap .i64 (sZ7+1))))) (some (.inr (.inl ())))
def M_cj (sZ0:ByteArray):Option Bool :=
 ((M_an (sZ0.size:Int) 1 8).bind fun rZ1=>cond (!rZ1) (some true) ((getz sZ0 0).bind fun yZ3=>cond (decide ((yZ3.toNat:Int) < 97)) (some true) (some (decide (122 < (yZ3.toNat:Int))))):Option Bool).bind fun oZ5=>cond (oZ5) (some false) ((iter (M_u sZ0) N0 0).bind fun oZ12=>(match oZ12 with | .inl vZ13=>some true | .inr xZ14=>some xZ14))
def M_v (listZ0:List ByteArray) (nameZ0:ByteArray) (sZ1:Int):Option (Int ⊕ (Unit ⊕ Int)) :=
 cond (decide (sZ1 < (listZ0.length:Int))) ((geti listZ0 sZ1).bind fun yZ3=>cond (yZ3.toList==nameZ0.toList) (some (.inr (.inr sZ1))) (some (.inl (IntKind.wrap .i64 (sZ1+1))))) (some (.inr (.inl ())))
def M_ck (listZ0:List ByteArray) (nameZ0:ByteArray):Option Int :=
 (iter (M_v listZ0 nameZ0) N0 0).bind fun oZ5=>(match oZ5 with | .inl vZ6=>some (-1) | .inr xZ7=>some xZ7)
def M_bu (fZ0:TFiber) (nodesZ0:Int):Option Bool :=
 (M_an fZ0.A 0 (IntKind.wrap .i64 (nodesZ0 - 1))).bind fun rZ1=>cond (rZ1) ((M_an fZ0.B (IntKind.wrap .i64 (fZ0.A+1)) (IntKind.wrap .i64 (nodesZ0 - 1))).bind fun rZ3=>cond (rZ3) ((M_an fZ0.Length 1 5000).bind fun rZ5=>cond (rZ5) ((M_an fZ0.Risk 0 9).bind fun rZ7=>some rZ7) (some false)) (some false)) (some false)
def M_bv (fZ0:TFiber) (gZ0:TFiber):Option Int :=
 cond (fZ0.A != gZ0.A) (some (IntKind.wrap .i64 (fZ0.A - gZ0.A))) (cond (fZ0.B != gZ0.B) (some (IntKind.wrap .i64 (fZ0.B - gZ0.B))) (cond (fZ0.Length != gZ0.Length) (some (IntKind.wrap .i64 (fZ0.Length - gZ0.Length))) (some (IntKind.wrap .i64 (fZ0.Risk - gZ0.Risk)))))
def M_o (nZ0:TNetwork) (sZ5:Int):Option (Int ⊕ (Unit ⊕ Bool)) :=
 cond (decide (sZ5 < (nZ0.Nodes.length:Int))) (((geti nZ0.Nodes sZ5).bind fun yZ7=>(M_cj yZ7).bind fun rZ8=>cond (!rZ8) (some true) ((M_ck nZ0.Nodes yZ7).bind fun rZ10=>some (rZ10 != sZ5)):Option Bool).bind fun oZ11=>cond (oZ11) (some (.inr (.inr false))) (some (.inl (IntKind.wrap .i64 (sZ5+1))))) (some (.inr (.inl ())))
def M_p (nZ0:TNetwork) (sZ16:Int):Option (Int ⊕ (Unit ⊕ Bool)) :=
 cond (decide (sZ16 < (nZ0.Fibers.length:Int))) (((geti nZ0.Fibers sZ16).bind fun yZ18=>(M_bu yZ18 (nZ0.Nodes.length:Int)).bind fun rZ19=>cond (!rZ19) (some true) (cond (decide (0 < sZ16)) ((geti nZ0.Fibers (IntKind.wrap .i64 (sZ16 - 1))).bind fun yZ22=>(M_bv yZ22 yZ18).bind fun rZ23=>some (decide (0 < rZ23))) (some false)):Option Bool).bind fun oZ24=>cond (oZ24) (some (.inr (.inr false))) (some (.inl (IntKind.wrap .i64 (sZ16+1))))) (some (.inr (.inl ())))
def M_bw (nZ0:TNetwork):Option Bool :=
 ((M_an (nZ0.Nodes.length:Int) 2 8).bind fun rZ1=>cond (!rZ1) (some true) (some (decide (14 < (nZ0.Fibers.length:Int)))):Option Bool).bind fun oZ3=>cond (oZ3) (some false) ((iter (M_o nZ0) N0 0).bind fun oZ13=>(match oZ13 with | .inl vZ14=>(iter (M_p nZ0) N0 0).bind fun oZ26=>(match oZ26 with | .inl vZ27=>some true | .inr xZ28=>some xZ28) | .inr xZ15=>some xZ15))
def M_bi (nZ0:TNetwork) (fiberZ0:Int) (nodeZ0:Int):Option Int :=
 (geti nZ0.Fibers fiberZ0).bind fun yZ1=>cond (nodeZ0==yZ1.A) (some yZ1.B) (cond (nodeZ0==yZ1.B) (some yZ1.A) (some (-1)))
def M_w (lZ0:List Int) (nZ0:Int) (sZ1:Int):Option (Int ⊕ (Unit ⊕ Bool)) :=
 cond (decide (sZ1 < (lZ0.length:Int))) ((geti lZ0 sZ1).bind fun yZ3=>cond (yZ3==nZ0) (some (.inr (.inr true))) (some (.inl (IntKind.wrap .i64 (sZ1+1))))) (some (.inr (.inl ())))
def M_aw (lZ0:List Int) (nZ0:Int):Option Bool :=
 (iter (M_w lZ0 nZ0) N0 0).bind fun oZ5=>(match oZ5 with | .inl vZ6=>some false | .inr xZ7=>some xZ7)
def M_be (lZ0:List Int):Option (List Int) :=
 (grd (lZ0.length * 8≤140737488355328)).bind fun uZ1=>some lZ0
def M_x (ringZ0:List Int) (sZ1:Int×List Int):Option ((Int×List Int) ⊕ (List Int)) :=
 cond (decide (0≤sZ1.1)) ((geti ringZ0 sZ1.1).bind fun yZ3=>bnd ([yZ3]) fun lZ4=>(grd ((sZ1.2.length+1) * 8≤140737488355328)).bind fun uZ7=>bnd (sZ1.2++lZ4) fun lZ8=>some (.inl (IntKind.wrap .i64 (sZ1.1 - 1),lZ8))) (some (.inr sZ1.2))
def M_cl (ringZ0:List Int):Option (List Int) :=
 (iter (M_x ringZ0) N0 (IntKind.wrap .i64 ((ringZ0.length:Int) - 1),[])).bind fun oZ11=>some oZ11
def M_y (aZ0:List Int) (bZ0:List Int) (sZ2:Int):Option (Int ⊕ (Unit ⊕ Bool)) :=
 cond (decide (sZ2 < (aZ0.length:Int))) ((geti aZ0 sZ2).bind fun yZ4=>(geti bZ0 sZ2).bind fun yZ5=>cond (yZ4 != yZ5) (some (.inr (.inr (decide (yZ4 < yZ5))))) (some (.inl (IntKind.wrap .i64 (sZ2+1))))) (some (.inr (.inl ())))
def M_av (aZ0:List Int) (bZ0:List Int):Option Bool :=
 cond ((aZ0.length:Int) != (bZ0.length:Int)) (some (decide ((aZ0.length:Int) < (bZ0.length:Int)))) ((iter (M_y aZ0 bZ0) N0 0).bind fun oZ7=>(match oZ7 with | .inl vZ8=>some false | .inr xZ9=>some xZ9))
def M_k (aaZ0:List (List Int)) (abZ0:List Int) (sZ1:Int):Option (Int ⊕ Int) :=
 cond (decide (sZ1 < (aaZ0.length:Int))) ((grd (0≤sZ1∧sZ1 < (aaZ0.length:Int))).bind fun kZ3=>(aaZ0[(Int.toNat sZ1)]?).bind fun yZ4=>(M_av yZ4 abZ0).bind fun rZ5=>cond (rZ5) (some (.inl (IntKind.wrap .i64 (sZ1+1)))) (some (.inr sZ1))) (some (.inr sZ1))
def M_bx (aaZ0:List (List Int)) (abZ0:List Int):Option (List (List Int)×List (List Int)) :=
 (iter (M_k aaZ0 abZ0) N0 0).bind fun oZ7=>(grd (True∧0≤oZ7∧True∧Int.toNat oZ7≤aaZ0.length)).bind fun uZ8=>bnd (subT aaZ0 0 (Int.toNat oZ7)) fun lZ9=>(grd (lZ9.length * 24≤140737488355328)).bind fun uZ11=>bnd ([abZ0]) fun lZ12=>(grd ((lZ9.length+1) * 24≤140737488355328)).bind fun uZ15=>bnd (lZ9++lZ12) fun lZ16=>(grd (0≤oZ7∧True∧Int.toNat oZ7≤aaZ0.length∧True)).bind fun uZ19=>bnd (subT aaZ0 (Int.toNat oZ7) (aaZ0.length - (Int.toNat oZ7))) fun lZ20=>(grd ((lZ16.length+lZ20.length) * 24≤140737488355328)).bind fun uZ22=>bnd (lZ16++lZ20) fun lZ23=>some (lZ23,aaZ0)
def M_b (aaZ0:Int) (abZ0:Int) (afZ0:List Int) (agZ0:List Int) (rcZ0:Int→Int→List ByteArray→List TFiber→List (List Int)→List Int→List Int→Option (List ByteArray×List TFiber×List (List Int)×List Int×List Int)) (sZ1:Int×List ByteArray×List TFiber×List (List Int)):Option ((Int×List ByteArray×List TFiber×List (List Int)) ⊕ (List ByteArray×List TFiber×List (List Int))) :=
 (cond (decide (sZ1.1 < (sZ1.2.2.1.length:Int))) (some (decide ((sZ1.2.2.2.length:Int)≤60))) (some false):Option Bool).bind fun oZ3=>cond (oZ3) ((M_bi (⟨sZ1.2.1,sZ1.2.2.1⟩:TNetwork) sZ1.1 abZ0).bind fun rZ5=>(cond (decide (rZ5 < aaZ0)) (some true) ((M_aw afZ0 sZ1.1).bind fun rZ7=>some rZ7):Option Bool).bind fun oZ8=>cond (oZ8) (some (.inl (IntKind.wrap .i64 (sZ1.1+1),sZ1.2.1,sZ1.2.2.1,sZ1.2.2.2))) ((M_be afZ0).bind fun rZ10=>bnd ([sZ1.1]) fun lZ11=>(grd ((rZ10.length+1) * 8≤140737488355328)).bind fun uZ14=>bnd (rZ10++lZ11) fun lZ15=>cond (rZ5==aaZ0) (((cond (decide (1 < (lZ15.length:Int))) ((M_cl lZ15).bind fun rZ20=>(M_av rZ20 lZ15).bind fun rZ21=>some (!rZ21)) (some false):Option Bool).bind fun oZ22=>cond (oZ22) ((M_bx sZ1.2.2.2 lZ15).bind fun rZ24=>some rZ24.1) (some sZ1.2.2.2):Option (List (List Int))).bind fun oZ25=>some (.inl (IntKind.wrap .i64 (sZ1.1+1),sZ1.2.1,sZ1.2.2.1,oZ25))) ((M_aw agZ0 rZ5).bind fun rZ26=>cond (!rZ26) ((M_be agZ0).bind fun rZ28=>bnd ([rZ5]) fun lZ29=>(grd ((rZ28.length+1) * 8≤140737488355328)).bind fun uZ32=>bnd (rZ28++lZ29) fun lZ33=>(rcZ0 aaZ0 rZ5 sZ1.2.1 sZ1.2.2.1 sZ1.2.2.2 lZ15 lZ33).bind fun rZ36=>some (.inl (IntKind.wrap .i64 (sZ1.1+1),rZ36.1,rZ36.2.1,rZ36.2.2.1))) (some (.inl (IntKind.wrap .i64 (sZ1.1+1),sZ1.2.1,sZ1.2.2.1,sZ1.2.2.2)))))) (some (.inr (sZ1.2.1,sZ1.2.2.1,sZ1.2.2.2)))
def M_by (rcZ0:Int→Int→List ByteArray→List TFiber→List (List Int)→List Int→List Int→Option (List ByteArray×List TFiber×List (List Int)×List Int×List Int)) (aaZ0:Int) (abZ0:Int) (acZ0:List ByteArray) (adZ0:List TFiber) (aeZ0:List (List Int)) (afZ0:List Int) (agZ0:List Int):Option (List ByteArray×List TFiber×List (List Int)×List Int×List Int) :=
 (iter (M_b aaZ0 abZ0 afZ0 agZ0 rcZ0) N0 (0,acZ0,adZ0,aeZ0)).bind fun oZ37=>some (oZ37.1,oZ37.2.1,oZ37.2.2,afZ0,agZ0)
def M_ba:Nat→Int→Int→List ByteArray→List TFiber→List (List Int)→List Int→List Int→Option (List ByteArray×List TFiber×List (List Int)×List Int×List Int)
 | 0,_,_,_,_,_,_,_=>none
 | n+1,aaZ0,abZ0,acZ0,adZ0,aeZ0,afZ0,agZ0=>M_by (M_ba n) aaZ0 abZ0 acZ0 adZ0 aeZ0 afZ0 agZ0
def M_al (aaZ0:List ByteArray) (sZ1:Int×List ByteArray×List TFiber×List (List Int)):Option ((Int×List ByteArray×List TFiber×List (List Int)) ⊕ (List ByteArray×List TFiber×List (List Int))) :=
 cond (decide (sZ1.1 < (aaZ0.length:Int))) (bnd ([sZ1.1]) fun lZ3=>(M_ba N0 sZ1.1 sZ1.1 sZ1.2.1 sZ1.2.2.1 sZ1.2.2.2 ([]) lZ3).bind fun rZ6=>some (.inl (IntKind.wrap .i64 (sZ1.1+1),rZ6.1,rZ6.2.1,rZ6.2.2.1))) (some (.inr (sZ1.2.1,sZ1.2.2.1,sZ1.2.2.2)))
def M_bz (aaZ0:List ByteArray) (abZ0:List TFiber):Option (List (List Int)) :=
 (iter (M_al aaZ0) N0 (0,aaZ0,abZ0,[])).bind fun oZ7=>some oZ7.2.2
def M_cc (aaZ0:List ByteArray) (abZ0:List TFiber):Option (Bool×List (List Int)) :=
 (M_bw (⟨aaZ0,abZ0⟩:TNetwork)).bind fun rZ1=>cond (!rZ1) (some (false,[])) ((M_bz aaZ0 abZ0).bind fun rZ3=>cond (decide (60 < (rZ3.length:Int))) (some (false,[])) (some (true,rZ3)))
def M_ao (nZ0:Int) (lowZ0:Int) (highZ0:Int):Option Bool :=
 cond (decide (lowZ0≤nZ0)) (some (decide (nZ0≤highZ0))) (some false)
def M_h (sZ0:ByteArray) (sZ1:Int):Option (Int ⊕ (Unit ⊕ Bool)) :=
 cond (decide (sZ1 < (sZ0.size:Int))) (((getz sZ0 sZ1).bind fun yZ3=>cond (decide (97≤(yZ3.toNat:Int))) (cond (decide (48≤(yZ3.toNat:Int))) (some (decide ((yZ3.toNat:Int)≤122),decide ((yZ3.toNat:Int)≤57))) (some (decide ((yZ3.toNat:Int)≤122),false))) (cond (decide (48≤(yZ3.toNat:Int))) (some (false,decide ((yZ3.toNat:Int)≤57))) (some (false,false))):Option (Bool×Bool)).bind fun oZ7=>cond (!oZ7.1) (cond (!oZ7.2) (some (.inr (.inr false))) (cond (sZ1==0) (some (.inr (.inr false))) (some (.inl (IntKind.wrap .i64 (sZ1+1)))))) (some (.inl (IntKind.wrap .i64 (sZ1+1))))) (some (.inr (.inl ())))
def M_cm (sZ0:ByteArray):Option Bool :=
 (iter (M_h sZ0) N0 0).bind fun oZ11=>(match oZ11 with | .inl vZ12=>(M_ao (sZ0.size:Int) 1 8).bind fun rZ14=>some rZ14 | .inr xZ13=>some xZ13)
def M_z (sZ0:List ByteArray) (vZ0:ByteArray) (sZ1:Int):Option (Int ⊕ (Unit ⊕ Int)) :=
 cond (decide (sZ1 < (sZ0.length:Int))) ((geti sZ0 sZ1).bind fun yZ3=>cond (vZ0.toList==yZ3.toList) (some (.inr (.inr sZ1))) (some (.inl (IntKind.wrap .i64 (sZ1+1))))) (some (.inr (.inl ())))
def M_cz (sZ0:List ByteArray) (vZ0:ByteArray):Option Int :=
 (iter (M_z sZ0 vZ0) N0 0).bind fun oZ5=>(match oZ5 with | .inl vZ6=>some (-1) | .inr xZ7=>some xZ7)
def M_cn (sZ0:List ByteArray) (vZ0:ByteArray):Option Bool :=
 (M_cz sZ0 vZ0).bind fun rZ1=>some (decide (0≤rZ1))
def M_bk (xZ0:Int):Option Bool :=
 some (xZ0 != xZ0)
def M_ap (xZ0:Int) (yZ0:Int):Option Int :=
 (M_bk xZ0).bind fun rZ1=>(M_bk yZ0).bind fun rZ2=>cond (rZ1) (cond (rZ2) (some 0) (some (-1))) (cond (rZ2) (some 1) (cond (decide (xZ0 < yZ0)) (some (-1)) (cond (decide (yZ0 < xZ0)) (some 1) (some 0))))
def M_d (valsZ0:List Int) (sZ1:Int):Option (Int ⊕ (Unit ⊕ Int)) :=
 cond (decide (sZ1 < (valsZ0.length:Int))) ((geti valsZ0 sZ1).bind fun yZ3=>cond (yZ3 != 0) (some (.inr (.inr yZ3))) (some (.inl (IntKind.wrap .i64 (sZ1+1))))) (some (.inr (.inl ())))
def M_bc (valsZ0:List Int):Option Int :=
 (iter (M_d valsZ0) N0 0).bind fun oZ5=>(match oZ5 with | .inl vZ6=>some 0 | .inr xZ7=>some xZ7)
def M_co (aZ0:TFiber) (bZ0:TFiber):Option Int :=
 (M_ap aZ0.A bZ0.A).bind fun rZ1=>(M_ap aZ0.B bZ0.B).bind fun rZ2=>(M_ap aZ0.Length bZ0.Length).bind fun rZ3=>(M_ap aZ0.Risk bZ0.Risk).bind fun rZ4=>bnd ([rZ1,rZ2,rZ3,rZ4]) fun lZ5=>(M_bc lZ5).bind fun rZ9=>some rZ9
def M_n (nZ0:TNetwork) (sZ1:Int):Option (Int ⊕ (Unit ⊕ Bool)) :=
 cond (decide (sZ1 < (nZ0.Nodes.length:Int))) ((geti nZ0.Nodes sZ1).bind fun yZ3=>(M_cm yZ3).bind fun rZ4=>cond (!rZ4) (some (.inr (.inr false))) ((slT nZ0.Nodes sZ1).bind fun lZ6=>(M_cn lZ6 yZ3).bind fun rZ7=>cond (rZ7) (some (.inr (.inr false))) (some (.inl (IntKind.wrap .i64 (sZ1+1)))))) (some (.inr (.inl ())))
def M_f (nZ0:TNetwork) (sZ12:Int):Option (Int ⊕ (Unit ⊕ Bool)) :=
 cond (decide (sZ12 < (nZ0.Fibers.length:Int))) ((geti nZ0.Fibers sZ12).bind fun yZ14=>cond (decide (yZ14.A < 0)) (some (.inr (.inr false))) (cond (decide (yZ14.B≤yZ14.A)) (some (.inr (.inr false))) (cond (decide ((nZ0.Nodes.length:Int)≤yZ14.B)) (some (.inr (.inr false))) ((M_ao yZ14.Length 1 5000).bind fun rZ18=>cond (!rZ18) (some (.inr (.inr false))) ((M_ao yZ14.Risk 0 9).bind fun rZ20=>cond (!rZ20) (some (.inr (.inr false))) (cond (decide (0 < sZ12)) ((geti nZ0.Fibers (IntKind.wrap .i64 (sZ12 - 1))).bind fun yZ23=>(M_co yZ23 yZ14).bind fun rZ24=>cond (decide (0 < rZ24)) (some (.inr (.inr false))) (some (.inl (IntKind.wrap .i64 (sZ12+1))))) (some (.inl (IntKind.wrap .i64 (sZ12+1)))))))))) (some (.inr (.inl ())))
def M_bt (nZ0:TNetwork):Option Bool :=
 (iter (M_n nZ0) N0 0).bind fun oZ9=>(match oZ9 with | .inl vZ10=>(iter (M_f nZ0) N0 0).bind fun oZ26=>(match oZ26 with | .inl vZ27=>(M_ao (nZ0.Nodes.length:Int) 2 8).bind fun rZ29=>cond (rZ29) (some (decide ((nZ0.Fibers.length:Int)≤14))) (some false) | .inr xZ28=>some xZ28) | .inr xZ11=>some xZ11)
def M_as (fZ0:TFiber) (nodeZ0:Int):Option Int :=
 cond (nodeZ0==fZ0.A) (some fZ0.B) (cond (nodeZ0==fZ0.B) (some fZ0.A) (some (-1)))
def M_l (sZ0:List Int) (vZ0:Int) (sZ1:Int):Option (Int ⊕ (Unit ⊕ Int)) :=
 cond (decide (sZ1 < (sZ0.length:Int))) ((geti sZ0 sZ1).bind fun yZ3=>cond (vZ0==yZ3) (some (.inr (.inr sZ1))) (some (.inl (IntKind.wrap .i64 (sZ1+1))))) (some (.inr (.inl ())))
def M_cw (sZ0:List Int) (vZ0:Int):Option Int :=
 (iter (M_l sZ0 vZ0) N0 0).bind fun oZ5=>(match oZ5 with | .inl vZ6=>some (-1) | .inr xZ7=>some xZ7)
def M_aq (sZ0:List Int) (vZ0:Int):Option Bool :=
 (M_cw sZ0 vZ0).bind fun rZ1=>some (decide (0≤rZ1))
def M_e (nZ0:TNetwork) (ringZ0:List Int) (sZ1:Int×Int×List Int):Option ((Int×Int×List Int) ⊕ ((Int×List Int) ⊕ (List Int×Int×Bool))) :=
 cond (decide (sZ1.2.1 < (ringZ0.length:Int))) ((geti ringZ0 sZ1.2.1).bind fun yZ3=>((M_ao yZ3 0 (IntKind.wrap .i64 ((nZ0.Fibers.length:Int) - 1))).bind fun rZ4=>cond (!rZ4) (some true) ((slT ringZ0 sZ1.2.1).bind fun lZ6=>(M_aq lZ6 yZ3).bind fun rZ7=>some rZ7):Option Bool).bind fun oZ8=>cond (oZ8) (some (.inr (.inr (([]),0,false)))) (bnd ([sZ1.1]) fun lZ10=>(grd ((sZ1.2.2.length+1) * 8≤140737488355328)).bind fun uZ13=>bnd (sZ1.2.2++lZ10) fun lZ14=>(geti nZ0.Fibers yZ3).bind fun yZ17=>(M_as yZ17 sZ1.1).bind fun rZ18=>cond (decide (rZ18 < 0)) (some (.inr (.inr (([]),0,false)))) (some (.inl (rZ18,IntKind.wrap .i64 (sZ1.2.1+1),lZ14))))) (some (.inr (.inl (sZ1.1,sZ1.2.2))))
def M_bp (nZ0:TNetwork) (startZ0:Int) (ringZ0:List Int):Option (List Int×Int×Bool) :=
 (iter (M_e nZ0 ringZ0) N0 (startZ0,0,[])).bind fun oZ20=>(match oZ20 with | .inl vZ21=>some (vZ21.2,vZ21.1,true) | .inr xZ22=>some xZ22)
def M_m (xZ0:List Int) (sZ3:Int×Int):Option ((Int×Int) ⊕ Int) :=
 cond (decide (sZ3.2 < (xZ0.length:Int))) ((geti xZ0 sZ3.2).bind fun yZ5=>some (.inl ((if yZ5 < sZ3.1 then yZ5 else sZ3.1),IntKind.wrap .i64 (sZ3.2+1)))) (some (.inr sZ3.1))
def M_bq (xZ0:List Int):Option Int :=
 cond (decide ((xZ0.length:Int) < 1)) (none) ((geti xZ0 0).bind fun yZ2=>(iter (M_m xZ0) N0 (yZ2,1)).bind fun oZ6=>some oZ6)
def M_br (sZ0:List Int):Option (List Int) :=
 cond (sZ0.isEmpty) (amb (some ([])) ((grd (sZ0.length * 8≤140737488355328)).bind fun uZ2=>some sZ0)) ((grd (sZ0.length * 8≤140737488355328)).bind fun uZ3=>some sZ0)
def M_i (sZ1:Int×Int×List Int):Option ((Int×Int×List Int) ⊕ (List Int)) :=
 cond (decide (sZ1.1 < sZ1.2.1)) ((grd (0≤sZ1.2.1∧sZ1.2.1 < (sZ1.2.2.length:Int))).bind fun kZ3=>(sZ1.2.2[(Int.toNat sZ1.2.1)]?).bind fun yZ4=>(grd (0≤sZ1.1∧sZ1.1 < (sZ1.2.2.length:Int))).bind fun kZ5=>(sZ1.2.2[(Int.toNat sZ1.1)]?).bind fun yZ6=>bnd (sZ1.2.2.set (Int.toNat sZ1.1) yZ4) fun lZ7=>(lZ7[(Int.toNat sZ1.2.1)]?).bind fun yZ9=>bnd (lZ7.set (Int.toNat sZ1.2.1) yZ6) fun lZ10=>some (.inl (IntKind.wrap .i64 (sZ1.1+1),IntKind.wrap .i64 (sZ1.2.1 - 1),lZ10))) (some (.inr sZ1.2.2))
def M_bs (aaZ0:List Int):Option (List Int) :=
 (iter (M_i) N0 (0,IntKind.wrap .i64 ((aaZ0.length:Int) - 1),aaZ0)).bind fun oZ12=>some oZ12
def M_g (s1Z0:List Int) (s2Z0:List Int) (sZ1:Int):Option (Int ⊕ (Unit ⊕ Int)) :=
 cond (decide (sZ1 < (s1Z0.length:Int))) ((geti s1Z0 sZ1).bind fun yZ3=>cond (decide ((s2Z0.length:Int)≤sZ1)) (some (.inr (.inr 1))) ((geti s2Z0 sZ1).bind fun yZ5=>(M_ap yZ3 yZ5).bind fun rZ6=>cond (rZ6 != 0) (some (.inr (.inr rZ6))) (some (.inl (IntKind.wrap .i64 (sZ1+1)))))) (some (.inr (.inl ())))
def M_ax (s1Z0:List Int) (s2Z0:List Int):Option Int :=
 (iter (M_g s1Z0 s2Z0) N0 0).bind fun oZ8=>(match oZ8 with | .inl vZ9=>cond (decide ((s1Z0.length:Int) < (s2Z0.length:Int))) (some (-1)) (some 0) | .inr xZ10=>some xZ10)
def M_j (rZ8:List Int×Int×Bool) (sZ14:Int):Option (Int ⊕ (Unit ⊕ (List Int×Bool))) :=
 cond (decide (sZ14 < (rZ8.1.length:Int))) ((grd (0≤sZ14∧sZ14 < (rZ8.1.length:Int))).bind fun kZ16=>(rZ8.1[(Int.toNat sZ14)]?).bind fun yZ17=>(grd (True∧0≤sZ14∧True∧Int.toNat sZ14≤rZ8.1.length)).bind fun uZ18=>bnd (subT rZ8.1 0 (Int.toNat sZ14)) fun lZ19=>(M_aq lZ19 yZ17).bind fun rZ21=>cond (rZ21) (some (.inr (.inr (([]),false)))) (some (.inl (IntKind.wrap .i64 (sZ14+1))))) (some (.inr (.inl ())))
def M_bd (nZ0:TNetwork) (ringZ0:List Int):Option (List Int×Bool) :=
 (cond (decide ((ringZ0.length:Int) < 2)) (some true) ((geti ringZ0 0).bind fun yZ2=>(M_ao yZ2 0 (IntKind.wrap .i64 ((nZ0.Fibers.length:Int) - 1))).bind fun rZ3=>some (!rZ3)):Option Bool).bind fun oZ4=>cond (oZ4) (some (([]),false)) ((geti ringZ0 0).bind fun yZ6=>(geti nZ0.Fibers yZ6).bind fun yZ7=>(M_bp nZ0 yZ7.A ringZ0).bind fun rZ8=>(cond (!rZ8.2.2) (some true) (cond (rZ8.2.1 != yZ7.A) (some true) ((M_bq rZ8.1).bind fun rZ11=>some (rZ11 != yZ7.A))):Option Bool).bind fun oZ12=>cond (oZ12) (some (([]),false)) ((iter (M_j rZ8) N0 0).bind fun oZ23=>(match oZ23 with | .inl vZ24=>(M_br ringZ0).bind fun rZ26=>(M_bs rZ26).bind fun rZ27=>bnd (subT rZ27 0 rZ26.length) fun lZ28=>(M_ax ringZ0 lZ28).bind fun rZ30=>some (rZ8.1,(decide (rZ30 < 0))) | .inr xZ25=>some xZ25)))
def M_a (aaZ0:Int) (abZ0:Int) (acZ0:Int) (adZ0:List Int) (aeZ0:TNetwork) (rcZ0:Int→Int→Int→List Int→TNetwork→List (List Int)→Option (TNetwork×List (List Int))) (sZ1:Int×TNetwork×List (List Int)):Option ((Int×TNetwork×List (List Int)) ⊕ (TNetwork×List (List Int))) :=
 cond (decide (sZ1.1 < (((aeZ0).Fibers).length:Int))) ((geti ((aeZ0).Fibers) sZ1.1).bind fun yZ3=>(M_as yZ3 abZ0).bind fun rZ4=>(cond (decide (rZ4 < aaZ0)) (some true) ((M_aq adZ0 sZ1.1).bind fun rZ6=>some rZ6):Option Bool).bind fun oZ7=>cond (oZ7) (some (.inl (IntKind.wrap .i64 (sZ1.1+1),sZ1.2.1,sZ1.2.2))) (bnd ([sZ1.1]) fun lZ10=>(grd ((adZ0.length+1) * 8≤140737488355328)).bind fun uZ13=>bnd (adZ0++lZ10) fun lZ14=>cond (rZ4==aaZ0) ((M_bd sZ1.2.1 lZ14).bind fun rZ19=>cond (rZ19.2) (bnd ([lZ14]) fun lZ21=>(grd ((sZ1.2.2.length+1) * 24≤140737488355328)).bind fun uZ24=>bnd (sZ1.2.2++lZ21) fun lZ25=>some (.inl (IntKind.wrap .i64 (sZ1.1+1),sZ1.2.1,lZ25))) (some (.inl (IntKind.wrap .i64 (sZ1.1+1),sZ1.2.1,sZ1.2.2)))) ((grd (0≤rZ4)).bind fun uZ28=>cond ((bits .and .i64 (Int.fdiv acZ0 (2 ^ (min (Int.toNat rZ4) (IntKind.bits .i64)))) 1)==0) ((grd (0≤rZ4)).bind fun uZ30=>(rcZ0 aaZ0 rZ4 (bits .or .i64 acZ0 (IntKind.wrap .i64 (1 * 2 ^ (min (Int.toNat rZ4) (IntKind.bits .i64))))) lZ14 sZ1.2.1 sZ1.2.2).bind fun rZ31=>some (.inl (IntKind.wrap .i64 (sZ1.1+1),rZ31.1,rZ31.2))) (some (.inl (IntKind.wrap .i64 (sZ1.1+1),sZ1.2.1,sZ1.2.2)))))) (some (.inr (sZ1.2.1,sZ1.2.2)))
def M_ca (rcZ0:Int→Int→Int→List Int→TNetwork→List (List Int)→Option (TNetwork×List (List Int))) (aaZ0:Int) (abZ0:Int) (acZ0:Int) (adZ0:List Int) (aeZ0:TNetwork) (afZ0:List (List Int)):Option (TNetwork×List (List Int)) :=
 (iter (M_a aaZ0 abZ0 acZ0 adZ0 aeZ0 rcZ0) N0 (0,aeZ0,afZ0)).bind fun oZ32=>some (oZ32.1,oZ32.2)
def M_bb:Nat→Int→Int→Int→List Int→TNetwork→List (List Int)→Option (TNetwork×List (List Int))
 | 0,_,_,_,_,_,_=>none
 | n+1,aaZ0,abZ0,acZ0,adZ0,aeZ0,afZ0=>M_ca (M_bb n) aaZ0 abZ0 acZ0 adZ0 aeZ0 afZ0
def M_c (aaZ0:Int) (abZ0:Int) (acZ0:Int) (adZ0:List Int) (aeZ0:TNetwork) (sZ1:Int×TNetwork×List (List Int)):Option ((Int×TNetwork×List (List Int)) ⊕ (TNetwork×List (List Int))) :=
 cond (decide (sZ1.1 < (((aeZ0).Fibers).length:Int))) ((geti ((aeZ0).Fibers) sZ1.1).bind fun yZ3=>(M_as yZ3 abZ0).bind fun rZ4=>(cond (decide (rZ4 < aaZ0)) (some true) ((M_aq adZ0 sZ1.1).bind fun rZ6=>some rZ6):Option Bool).bind fun oZ7=>cond (oZ7) (some (.inl (IntKind.wrap .i64 (sZ1.1+1),sZ1.2.1,sZ1.2.2))) (bnd ([sZ1.1]) fun lZ10=>(grd ((adZ0.length+1) * 8≤140737488355328)).bind fun uZ13=>bnd (adZ0++lZ10) fun lZ14=>cond (rZ4==aaZ0) ((M_bd sZ1.2.1 lZ14).bind fun rZ19=>cond (rZ19.2) (bnd ([lZ14]) fun lZ21=>(grd ((sZ1.2.2.length+1) * 24≤140737488355328)).bind fun uZ24=>bnd (sZ1.2.2++lZ21) fun lZ25=>some (.inl (IntKind.wrap .i64 (sZ1.1+1),sZ1.2.1,lZ25))) (some (.inl (IntKind.wrap .i64 (sZ1.1+1),sZ1.2.1,sZ1.2.2)))) ((grd (0≤rZ4)).bind fun uZ28=>cond ((bits .and .i64 (Int.fdiv acZ0 (2 ^ (min (Int.toNat rZ4) (IntKind.bits .i64)))) 1)==0) ((grd (0≤rZ4)).bind fun uZ30=>(M_bb N0 aaZ0 rZ4 (bits .or .i64 acZ0 (IntKind.wrap .i64 (1 * 2 ^ (min (Int.toNat rZ4) (IntKind.bits .i64))))) lZ14 sZ1.2.1 sZ1.2.2).bind fun rZ31=>some (.inl (IntKind.wrap .i64 (sZ1.1+1),rZ31.1,rZ31.2))) (some (.inl (IntKind.wrap .i64 (sZ1.1+1),sZ1.2.1,sZ1.2.2)))))) (some (.inr (sZ1.2.1,sZ1.2.2)))
def M_cy (aaZ0:Int) (abZ0:Int) (acZ0:Int) (adZ0:List Int) (aeZ0:TNetwork) (afZ0:List (List Int)):Option (TNetwork×List (List Int)) :=
 (iter (M_c aaZ0 abZ0 acZ0 adZ0 aeZ0) N0 (0,aeZ0,afZ0)).bind fun oZ32=>some (oZ32.1,oZ32.2)
def M_ay (aZ0:List Int) (bZ0:List Int):Option Int :=
 (M_ap (aZ0.length:Int) (bZ0.length:Int)).bind fun rZ1=>(M_ax aZ0 bZ0).bind fun rZ2=>bnd ([rZ1,rZ2]) fun lZ3=>(M_bc lZ3).bind fun rZ7=>some rZ7
def M_q (nZ0:TNetwork) (sZ1:Int×TNetwork×List (List Int)):Option ((Int×TNetwork×List (List Int)) ⊕ (List (List Int))) :=
 cond (decide (sZ1.1 < (nZ0.Nodes.length:Int))) ((grd (0≤sZ1.1)).bind fun uZ3=>(M_cy sZ1.1 sZ1.1 (IntKind.wrap .i64 (1 * 2 ^ (min (Int.toNat sZ1.1) (IntKind.bits .i64)))) ([]) sZ1.2.1 sZ1.2.2).bind fun rZ4=>some (.inl (IntKind.wrap .i64 (sZ1.1+1),rZ4.1,rZ4.2))) (some (.inr sZ1.2.2))
def M_cb (nZ0:TNetwork):Option (List (List Int)) :=
 (iter (M_q nZ0) N0 (0,nZ0,[])).bind fun oZ5=>(sortX (fun x0 x1=>M_ay x0 x1) oZ5).bind fun lZ6=>some lZ6
def M_bf (nZ0:TNetwork):Option (List (List Int)×Bool) :=
 (M_bt nZ0).bind fun rZ1=>cond (!rZ1) (some (([]),false)) ((M_cb nZ0).bind fun rZ3=>cond (decide (60 < (rZ3.length:Int))) (some (([]),false)) (some (rZ3,true)))
def M_aa (aZ0:List Int) (bZ0:List Int) (sZ2:Int):Option (Int ⊕ (Unit ⊕ Bool)) :=
 cond (decide (sZ2 < (aZ0.length:Int))) ((geti aZ0 sZ2).bind fun yZ4=>(geti bZ0 sZ2).bind fun yZ5=>cond (yZ4 != yZ5) (some (.inr (.inr false))) (some (.inl (IntKind.wrap .i64 (sZ2+1))))) (some (.inr (.inl ())))
def M_bl (aZ0:List Int) (bZ0:List Int):Option Bool :=
 cond ((aZ0.length:Int) != (bZ0.length:Int)) (some false) ((iter (M_aa aZ0 bZ0) N0 0).bind fun oZ7=>(match oZ7 with | .inl vZ8=>some true | .inr xZ9=>some xZ9))
def M_ab (aZ0:List (List Int)) (bZ0:List (List Int)) (sZ2:Int):Option (Int ⊕ (Unit ⊕ Bool)) :=
 cond (decide (sZ2 < (aZ0.length:Int))) ((geti aZ0 sZ2).bind fun yZ4=>(geti bZ0 sZ2).bind fun yZ5=>(M_bl yZ4 yZ5).bind fun rZ6=>cond (!rZ6) (some (.inr (.inr false))) (some (.inl (IntKind.wrap .i64 (sZ2+1))))) (some (.inr (.inl ())))
def M_az (aZ0:List (List Int)) (bZ0:List (List Int)):Option Bool :=
 cond ((aZ0.length:Int) != (bZ0.length:Int)) (some false) ((iter (M_ab aZ0 bZ0) N0 0).bind fun oZ8=>(match oZ8 with | .inl vZ9=>some true | .inr xZ10=>some xZ10))
def M_ac (aZ0:List ByteArray) (bZ0:List ByteArray) (sZ2:Int):Option (Int ⊕ (Unit ⊕ Bool)) :=
 cond (decide (sZ2 < (aZ0.length:Int))) ((geti aZ0 sZ2).bind fun yZ4=>(geti bZ0 sZ2).bind fun yZ5=>cond (!(yZ4.toList==yZ5.toList)) (some (.inr (.inr false))) (some (.inl (IntKind.wrap .i64 (sZ2+1))))) (some (.inr (.inl ())))
def M_cp (aZ0:List ByteArray) (bZ0:List ByteArray):Option Bool :=
 cond ((aZ0.length:Int) != (bZ0.length:Int)) (some false) ((iter (M_ac aZ0 bZ0) N0 0).bind fun oZ7=>(match oZ7 with | .inl vZ8=>some true | .inr xZ9=>some xZ9))
def M_bm (aZ0:TFiber) (bZ0:TFiber):Option Bool :=
 cond (aZ0.A != bZ0.A) (some false) (cond (aZ0.B != bZ0.B) (some false) (cond (aZ0.Length != bZ0.Length) (some false) (cond (aZ0.Risk != bZ0.Risk) (some false) (some true))))
def M_ad (aZ0:List TFiber) (bZ0:List TFiber) (sZ2:Int):Option (Int ⊕ (Unit ⊕ Bool)) :=
 cond (decide (sZ2 < (aZ0.length:Int))) ((geti aZ0 sZ2).bind fun yZ4=>(geti bZ0 sZ2).bind fun yZ5=>(M_bm yZ4 yZ5).bind fun rZ6=>cond (!rZ6) (some (.inr (.inr false))) (some (.inl (IntKind.wrap .i64 (sZ2+1))))) (some (.inr (.inl ())))
def M_cq (aZ0:List TFiber) (bZ0:List TFiber):Option Bool :=
 cond ((aZ0.length:Int) != (bZ0.length:Int)) (some false) ((iter (M_ad aZ0 bZ0) N0 0).bind fun oZ8=>(match oZ8 with | .inl vZ9=>some true | .inr xZ10=>some xZ10))
def M_cr (aZ0:TNetwork) (bZ0:TNetwork):Option Bool :=
 (M_cp aZ0.Nodes bZ0.Nodes).bind fun rZ1=>cond (!rZ1) (some false) ((M_cq aZ0.Fibers bZ0.Fibers).bind fun rZ3=>cond (!rZ3) (some false) (some true))
def M_ae (sZ2:Int×ByteArray):Option ((Int×ByteArray) ⊕ ByteArray) :=
 cond (decide (0 < sZ2.1)) ((grd (10 ≠ 0)).bind fun uZ4=>bnd ([IntKind.wrap .u8 (IntKind.wrap .i64 (48+(Int.tmod sZ2.1 10)))]) fun lZ5=>(grd ((b2s lZ5).size+sZ2.2.size≤9223372036854775807)).bind fun uZ9=>(grd (10 ≠ 0)).bind fun uZ10=>some (.inl (IntKind.wrap .i64 (Int.tdiv sZ2.1 10),(b2s lZ5)++sZ2.2))) (some (.inr sZ2.2))
def M_bg (kZ0:Int):Option ByteArray :=
 cond (decide (kZ0≤0)) (some (⟨#[109,48]⟩:ByteArray)) ((iter (M_ae) N0 (kZ0,(⟨#[]⟩:ByteArray))).bind fun oZ11=>(grd ((⟨#[109]⟩:ByteArray).size+oZ11.size≤9223372036854775807)).bind fun uZ12=>some ((⟨#[109]⟩:ByteArray)++oZ11))
def M_af (sZ1:Int×Int×List ByteArray):Option ((Int×Int×List ByteArray) ⊕ (Int×List ByteArray)) :=
 cond (decide (sZ1.2.1 < (sZ1.2.2.length:Int))) ((M_bg sZ1.1).bind fun rZ3=>(grd (0≤sZ1.2.1∧sZ1.2.1 < (sZ1.2.2.length:Int))).bind fun kZ4=>(sZ1.2.2[(Int.toNat sZ1.2.1)]?).bind fun yZ5=>bnd (sZ1.2.2.set (Int.toNat sZ1.2.1) rZ3) fun lZ6=>some (.inl (IntKind.wrap .i64 (sZ1.1+1),IntKind.wrap .i64 (sZ1.2.1+1),lZ6))) (some (.inr (sZ1.1,sZ1.2.2)))
def M_cs (aaZ0:Int) (abZ0:List ByteArray):Option (Int×List ByteArray) :=
 (iter (M_af) N0 (aaZ0,0,abZ0)).bind fun oZ8=>some (oZ8.1,oZ8.2)
def M_ag (sZ1:Int×Int×List TFiber):Option ((Int×Int×List TFiber) ⊕ (Int×List TFiber)) :=
 cond (decide (sZ1.2.1 < (sZ1.2.2.length:Int))) ((grd (0≤sZ1.2.1∧sZ1.2.1 < (sZ1.2.2.length:Int))).bind fun kZ3=>(sZ1.2.2[(Int.toNat sZ1.2.1)]?).bind fun yZ4=>bnd (sZ1.2.2.set (Int.toNat sZ1.2.1) (⟨sZ1.1,yZ4.B,yZ4.Length,yZ4.Risk⟩:TFiber)) fun lZ5=>(lZ5[(Int.toNat sZ1.2.1)]?).bind fun yZ7=>bnd (lZ5.set (Int.toNat sZ1.2.1) (⟨yZ7.A,IntKind.wrap .i64 (sZ1.1+1),yZ7.Length,yZ7.Risk⟩:TFiber)) fun lZ8=>(lZ8[(Int.toNat sZ1.2.1)]?).bind fun yZ10=>bnd (lZ8.set (Int.toNat sZ1.2.1) (⟨yZ10.A,yZ10.B,IntKind.wrap .i64 ((IntKind.wrap .i64 (sZ1.1+1))+1),yZ10.Risk⟩:TFiber)) fun lZ11=>(lZ11[(Int.toNat sZ1.2.1)]?).bind fun yZ13=>bnd (lZ11.set (Int.toNat sZ1.2.1) (⟨yZ13.A,yZ13.B,yZ13.Length,IntKind.wrap .i64 ((IntKind.wrap .i64 ((IntKind.wrap .i64 (sZ1.1+1))+1))+1)⟩:TFiber)) fun lZ14=>some (.inl (IntKind.wrap .i64 ((IntKind.wrap .i64 ((IntKind.wrap .i64 ((IntKind.wrap .i64 (sZ1.1+1))+1))+1))+1),IntKind.wrap .i64 (sZ1.2.1+1),lZ14))) (some (.inr (sZ1.1,sZ1.2.2)))
def M_ct (aaZ0:Int) (abZ0:List TFiber):Option (Int×List TFiber) :=
 (iter (M_ag) N0 (aaZ0,0,abZ0)).bind fun oZ16=>some (oZ16.1,oZ16.2)
def M_cu (aaZ0:Int) (abZ0:List ByteArray) (acZ0:List TFiber):Option (Int×List ByteArray×List TFiber) :=
 (M_cs aaZ0 abZ0).bind fun rZ1=>(M_ct rZ1.1 acZ0).bind fun rZ2=>some (rZ2.1,rZ1.2,rZ2.2)
def M_ah (sZ1:Int×Int×List Int):Option ((Int×Int×List Int) ⊕ (Int×List Int)) :=
 cond (decide (sZ1.2.1 < (sZ1.2.2.length:Int))) ((grd (0≤sZ1.2.1∧sZ1.2.1 < (sZ1.2.2.length:Int))).bind fun kZ3=>(sZ1.2.2[(Int.toNat sZ1.2.1)]?).bind fun yZ4=>bnd (sZ1.2.2.set (Int.toNat sZ1.2.1) sZ1.1) fun lZ5=>some (.inl (IntKind.wrap .i64 (sZ1.1+1),IntKind.wrap .i64 (sZ1.2.1+1),lZ5))) (some (.inr (sZ1.1,sZ1.2.2)))
def M_cv (aaZ0:Int) (abZ0:List Int):Option (Int×List Int) :=
 (iter (M_ah) N0 (aaZ0,0,abZ0)).bind fun oZ7=>some (oZ7.1,oZ7.2)
def M_ai (sZ1:Int×Int×List (List Int)):Option ((Int×Int×List (List Int)) ⊕ (Int×List (List Int))) :=
 cond (decide (sZ1.2.1 < (sZ1.2.2.length:Int))) ((grd (0≤sZ1.2.1∧sZ1.2.1 < (sZ1.2.2.length:Int))).bind fun kZ3=>(sZ1.2.2[(Int.toNat sZ1.2.1)]?).bind fun yZ4=>(M_cv sZ1.1 yZ4).bind fun rZ5=>bnd (sZ1.2.2.set (Int.toNat sZ1.2.1) rZ5.2) fun lZ6=>some (.inl (rZ5.1,IntKind.wrap .i64 (sZ1.2.1+1),lZ6))) (some (.inr (sZ1.1,sZ1.2.2)))
def M_bn (aaZ0:Int) (abZ0:List (List Int)):Option (Int×List (List Int)) :=
 (iter (M_ai) N0 (aaZ0,0,abZ0)).bind fun oZ8=>some (oZ8.1,oZ8.2)
def M_aj (aZ0:List Int) (sZ1:Int×Int):Option ((Int×Int) ⊕ (Int ⊕ Int)) :=
 cond (decide (sZ1.2 < (aZ0.length:Int))) ((geti aZ0 sZ1.2).bind fun yZ3=>cond (yZ3 != sZ1.1) (some (.inr (.inr (-1)))) (some (.inl (IntKind.wrap .i64 (sZ1.1+1),IntKind.wrap .i64 (sZ1.2+1))))) (some (.inr (.inl sZ1.1)))
def M_bo (aZ0:List Int) (kZ0:Int):Option Int :=
 (iter (M_aj aZ0) N0 (kZ0,0)).bind fun oZ5=>(match oZ5 with | .inl vZ6=>some vZ6 | .inr xZ7=>some xZ7)
def M_ak (aZ0:List (List Int)) (sZ1:Int×Int):Option ((Int×Int) ⊕ (Int ⊕ Int)) :=
 cond (decide (sZ1.2 < (aZ0.length:Int))) ((geti aZ0 sZ1.2).bind fun yZ3=>(M_bo yZ3 sZ1.1).bind fun rZ4=>cond (decide (rZ4 < 0)) (some (.inr (.inr (-1)))) (some (.inl (rZ4,IntKind.wrap .i64 (sZ1.2+1))))) (some (.inr (.inl sZ1.1)))
def M_bh (aZ0:List (List Int)) (kZ0:Int):Option Int :=
 (iter (M_ak aZ0) N0 (kZ0,0)).bind fun oZ6=>(match oZ6 with | .inl vZ7=>some vZ7 | .inr xZ8=>some xZ8)
def M_cx (aNZ0:TNetwork):Option Bool :=
 (M_cf aNZ0 1048576).bind fun rZ1=>cond (decide (rZ1 < 0)) (some true) ((M_au aNZ0).bind fun rZ3=>(M_cc rZ3.Nodes rZ3.Fibers).bind fun rZ4=>(M_au (⟨aNZ0.Nodes,aNZ0.Fibers⟩:TNetwork)).bind fun rZ5=>(M_bf (⟨rZ5.Nodes,rZ5.Fibers⟩:TNetwork)).bind fun rZ6=>((M_az rZ6.1 rZ4.2).bind fun rZ7=>cond (!rZ7) (some true) (some (!(rZ6.2==rZ4.1))):Option Bool).bind fun oZ9=>cond (oZ9) (some false) ((M_au (⟨aNZ0.Nodes,aNZ0.Fibers⟩:TNetwork)).bind fun rZ11=>(M_cr (⟨rZ5.Nodes,rZ5.Fibers⟩:TNetwork) (⟨rZ11.Nodes,rZ11.Fibers⟩:TNetwork)).bind fun rZ12=>cond (!rZ12) (some false) ((M_cu 1 rZ5.Nodes rZ5.Fibers).bind fun rZ14=>(cond (decide (rZ14.1 < 0)) (some true) ((M_az rZ6.1 rZ4.2).bind fun rZ16=>cond (!rZ16) (some true) (some (!(rZ6.2==rZ4.1)))):Option Bool).bind fun oZ18=>cond (oZ18) (some false) ((M_bn 1 rZ6.1).bind fun rZ20=>bnd (subT rZ20.2 0 rZ6.1.length) fun lZ21=>(M_bh lZ21 1).bind fun rZ23=>cond (decide (rZ23 < 0)) (some false) (cond (rZ23 != rZ20.1) (some false) ((M_au (⟨aNZ0.Nodes,aNZ0.Fibers⟩:TNetwork)).bind fun rZ26=>(M_bf (⟨rZ26.Nodes,rZ26.Fibers⟩:TNetwork)).bind fun rZ27=>((M_az rZ27.1 rZ4.2).bind fun rZ28=>cond (!rZ28) (some true) (some (!(rZ27.2==rZ4.1))):Option Bool).bind fun oZ30=>cond (oZ30) (some false) ((M_bh lZ21 1).bind fun rZ32=>cond (decide (rZ32 < 0)) (some false) (cond (rZ32 != rZ20.1) (some false) (some true)))))))))
end Vs

namespace Vs
open Go Go.Proofs
theorem hmix:Try.prog.follows .mixedOrders=true:=Try.checked.mixed
def lay95_ren:Go.Shelf.Ren:=⟨fun | 6=>95 | 15=>106 | 14=>113 | 28=>125 | 29=>126 | 20=>136 | 21=>137 | 22=>138 | 23=>139 | 24=>140 | 25=>141 | 26=>142 | 27=>143 | 46=>152 | 47=>145 | 48=>146 | 49=>153 | 50=>154 | 57=>157 | n=>n,fun | 22=>47 | 24=>26 | 25=>102 | 3=>3 | 39=>120 | 0=>0 | 53=>136 | 55=>138 | 4=>4 | 46=>130 | 45=>129 | 50=>41 | 5=>5 | 9=>9 | 66=>150 | 70=>154 | 76=>160 | 77=>161 | n=>n,fun | n=>n⟩
theorem lay95:Go.Proofs.SlLaysF.n6 Try.prog lay95_ren:={
 mixed:=by kernel_rfl
 f6:=⟨Try.f95.name,by decide,Try.func95.trans (congrArg some (by kernel_rfl))⟩
 f14:=⟨Try.f113.name,by decide,Try.func113.trans (congrArg some (by kernel_rfl))⟩
 f15:=Try.func106.trans (congrArg some (by kernel_rfl))
 f20:=⟨Try.f136.name,by decide,Try.func136.trans (congrArg some (by kernel_rfl))⟩
 f21:=⟨Try.f137.name,by decide,Try.func137.trans (congrArg some (by kernel_rfl))⟩
 f22:=⟨Try.f138.name,by decide,Try.func138.trans (congrArg some (by kernel_rfl))⟩
 f23:=⟨Try.f139.name,by decide,Try.func139.trans (congrArg some (by kernel_rfl))⟩
 f24:=⟨Try.f140.name,by decide,Try.func140.trans (congrArg some (by kernel_rfl))⟩
 f25:=⟨Try.f141.name,by decide,Try.func141.trans (congrArg some (by kernel_rfl))⟩
 f26:=⟨Try.f142.name,by decide,Try.func142.trans (congrArg some (by kernel_rfl))⟩
 f27:=⟨Try.f143.name,by decide,Try.func143.trans (congrArg some (by kernel_rfl))⟩
 f28:=Try.func125.trans (congrArg some (by kernel_rfl))
 f29:=Try.func126.trans (congrArg some (by kernel_rfl))
 f46:=⟨Try.f152.name,by decide,Try.func152.trans (congrArg some (by kernel_rfl))⟩
 f47:=Try.func145.trans (congrArg some (by kernel_rfl))
 f48:=Try.func146.trans (congrArg some (by kernel_rfl))
 f49:=⟨Try.f153.name,by decide,Try.func153.trans (congrArg some (by kernel_rfl))⟩
 f50:=⟨Try.f154.name,by decide,Try.func154.trans (congrArg some (by kernel_rfl))⟩
 f57:=⟨Try.f157.name,by decide,Try.func157.trans (congrArg some (by kernel_rfl))⟩
 t0:=Try.underlying0
 a0:=Try.isAgg0
 z0:=Try.sizeOf0
 v0:=Try.zeroValue0
 t3:=Try.underlying3
 a3:=Try.isAgg3
 z3:=Try.sizeOf3
 v3:=Try.zeroValue3
 t4:=Try.underlying4
 a4:=Try.isAgg4
 z4:=Try.sizeOf4
 v4:=Try.zeroValue4
 t5:=Try.underlying5
 a5:=Try.isAgg5
 z5:=Try.sizeOf5
 v5:=Try.zeroValue5
 t9:=Try.underlying9
 a9:=Try.isAgg9
 z9:=Try.sizeOf9
 v9:=Try.zeroValue9
 t22:=Try.underlying47
 a22:=Try.isAgg47
 z22:=Try.sizeOf47
 v22:=Try.zeroValue47
 a24:=Try.isAgg26
 z24:=Try.sizeOf26
 t25:=Try.underlying102
 a25:=Try.isAgg102
 z25:=Try.sizeOf102
 v25:=Try.zeroValue102
 t39:=Try.underlying120
 a39:=Try.isAgg120
 z39:=Try.sizeOf120
 v39:=Try.zeroValue120
 t45:=Try.underlying129
 a45:=Try.isAgg129
 z45:=Try.sizeOf129
 v45:=Try.zeroValue129
 t46:=Try.underlying130
 a46:=Try.isAgg130
 z46:=Try.sizeOf130
 v46:=Try.zeroValue130
 t50:=Try.underlying41
 a50:=Try.isAgg41
 z50:=Try.sizeOf41
 v50:=Try.zeroValue41
 t53:=Try.underlying136
 a53:=Try.isAgg136
 z53:=Try.sizeOf136
 v53:=Try.zeroValue136
 t55:=Try.underlying138
 a55:=Try.isAgg138
 z55:=Try.sizeOf138
 v55:=Try.zeroValue138
 t66:=Try.underlying150
 a66:=Try.isAgg150
 z66:=Try.sizeOf150
 v66:=Try.zeroValue150
 t70:=Try.underlying154
 a70:=Try.isAgg154
 z70:=Try.sizeOf154
 v70:=Try.zeroValue154
 t76:=Try.underlying160
 a76:=Try.isAgg160
 z76:=Try.sizeOf160
 v76:=Try.zeroValue160
 t77:=Try.underlying161
 a77:=Try.isAgg161
 z77:=Try.sizeOf161
 v77:=Try.zeroValue161 }
theorem sort95:SortC Try.prog 95 1 sh1:=sortC1 (ρ:=lay95_ren) lay95 (AnyF.slices_SortFunc_none { lay95 with }) ⟨_,Try.func95,by kernel_rfl,by kernel_rfl⟩
def A38L1:ACode:=(.seq (.seq (.reg [Zm 12 5,Zm 13 0,Zk 14 13,Zb 15 .lss 12 14] []) (.cond (Zt 15) .skip (.exit 0))) (.seq (.blk 1 (.seq (.reg [Zm 18 1,Zm 19 0,Zm 20 5,Zx 21 1 19 20,Zl 22 21,Zo 23 (.lenz (Zt 22)),Zb 24 .sub 18 23,Zm 1 24] []) (.seq (.reg [Zm 25 1,Zd 26 .lss 25 0] []) (.cond (Zt 26) (.seq (.reg [Zn 4 (-1)] []) .ret) .skip)))) (.reg [Zm 16 5,Zd 17 .add 16 1,Zm 5 17] [])))
def A38R2:ACode:=(.seq (.reg [Zm 27 1,Zm 4 27] []) .ret)
def A38:ACode:=(.seq (.reg [Zn 4 0] []) (.seq (.reg [Zm 6 1,Zm 7 0,Zk 8 7,Zb 9 .sub 6 8,Zm 1 9] []) (.seq (.seq (.reg [Zm 10 1,Zd 11 .lss 10 0] []) (.cond (Zt 11) (.seq (.reg [Zn 4 (-1)] []) .ret) .skip)) (.seqa (.reg [Zn 5 0] []) (.blk 0 (.loop A38L1)) [1] [] A38R2))))
def V38:List RV:=[.t 4]
theorem m38:mtcF Try.prog 38 2 A38 V38=true:=by kernel_rfl
def A39:ACode:=(.seq (.reg [Zn 4 0] []) (.seq (.reg [Zm 5 1,Zm 6 0,Zk 7 6,Zb 8 .sub 5 7,Zm 1 8] []) (.seq (.seq (.reg [Zm 9 1,Zd 10 .lss 9 0] []) (.cond (Zt 10) (.seq (.reg [Zn 4 (-1)] []) .ret) .skip)) (.seq (.reg [Zm 11 1,Zm 4 11] []) .ret))))
def V39:List RV:=[.t 4]
theorem m39:mtcF Try.prog 39 2 A39 V39=true:=by kernel_rfl
def A10:ACode:=(.seq (.reg [Zo 2 (.box 2 (Zt 0)),Zn 4 0] []) (.seq (.reg [Za 5 0 2,Zl 6 5,Zm 7 1,Zo 8 (.call 38 [(Zt 6),(Zt 7)]),Zm 1 8] []) (.seq (.seq (.reg [Zm 9 1,Zd 10 .lss 9 0] []) (.cond (Zt 10) (.seq (.reg [Zn 4 (-1)] []) .ret) .skip)) (.seq (.reg [Za 11 1 2,Zl 12 11,Zm 13 1,Zo 14 (.call 39 [(Zt 12),(Zt 13)]),Zm 1 14] []) (.seq (.seq (.reg [Zm 15 1,Zd 16 .lss 15 0] []) (.cond (Zt 16) (.seq (.reg [Zn 4 (-1)] []) .ret) .skip)) (.seq (.reg [Zm 17 1,Zm 4 17] []) .ret))))))
def V10:List RV:=[.t 4]
theorem m10:mtcF Try.prog 10 2 A10 V10=true:=by kernel_rfl
def A42L1:ACode:=(.seq (.seq (.reg [Zm 8 4,Zm 9 0,Zk 10 9,Zb 11 .lss 8 10] []) (.cond (Zt 11) .skip (.exit 0))) (.seq (.blk 1 (.reg [Zm 14 3,Zm 15 4,Zm 16 0,Zm 17 4,Zx 18 1 16 17,Zl 19 18,Zx 20 1 14 15,⟨none,.store 1 (Zt 20) (Zt 19),none⟩] [])) (.reg [Zm 12 4,Zd 13 .add 12 1,Zm 4 13] [])))
def A42R2:ACode:=(.seq (.reg [Zm 21 3,Zm 2 21] [.s 2]) .ret)
def A42:ACode:=(.seq (.reg [Zo 2 (.mv (.c (.lst .u 1 [])))] [.s 2]) (.seq (.reg [Zm 5 0,Zk 6 5,Zo 7 (.mks 1 (.z ⟨#[]⟩) 16 (Zt 6) (Zt 6)),Zm 3 7] [.s 3]) (.seqa (.reg [Zn 4 0] []) (.blk 0 (.loop A42L1)) [3] [3] A42R2)))
def V42:List RV:=[.t 2]
theorem m42:mtcF Try.prog 42 1 A42 V42=true:=by kernel_rfl
def A79:ACode:=(.seq (.reg [Zo 1 (.box 4 (Zt 0)),Zo 2 (.alloc (.agg [.i 0,.i 0,.i 0,.i 0]))] []) (.seq (.reg [Zo 3 (.alloc (.agg [.i 0,.i 0,.i 0,.i 0]))] []) (.seq (.reg [Za 4 0 1,Zl 5 4,Za 6 0 3,⟨none,.store 1 (Zt 6) (Zt 5),none⟩] []) (.seq (.reg [Za 7 1 1,Zl 8 7,Za 9 1 3,⟨none,.store 1 (Zt 9) (Zt 8),none⟩] []) (.seq (.reg [Za 10 2 1,Zl 11 10,Za 12 2 3,⟨none,.store 1 (Zt 12) (Zt 11),none⟩] []) (.seq (.reg [Za 13 3 1,Zl 14 13,Za 15 3 3,⟨none,.store 1 (Zt 15) (Zt 14),none⟩] []) (.seq (.reg [Zo 16 (.load 4 true (Zt 3)),⟨none,.store 4 (Zt 2) (Zt 16),none⟩] []) .ret)))))))
def V79:List RV:=[.c 2 4 true]
theorem m79:mtcF Try.prog 79 1 A79 V79=true:=by kernel_rfl
def A43L1:ACode:=(.seq (.seq (.reg [Zm 8 4,Zm 9 0,Zk 10 9,Zb 11 .lss 8 10] []) (.cond (Zt 11) .skip (.exit 0))) (.seq (.blk 1 (.reg [Zm 14 3,Zm 15 4,Zm 16 0,Zm 17 4,Zx 18 4 16 17,Zo 19 (.load 4 true (Zt 18)),Zo 20 (.call 79 [(Zt 19)]),Zx 21 4 14 15,⟨none,.store 4 (Zt 21) (Zt 20),none⟩] [])) (.reg [Zm 12 4,Zd 13 .add 12 1,Zm 4 13] [])))
def A43R2:ACode:=(.seq (.reg [Zm 22 3,Zm 2 22] [.s 2]) .ret)
def A43:ACode:=(.seq (.reg [Zo 2 (.mv (.c (.lst .u 4 [])))] [.s 2]) (.seq (.reg [Zm 5 0,Zk 6 5,Zo 7 (.mks 4 (.agg [.i 0,.i 0,.i 0,.i 0]) 32 (Zt 6) (Zt 6)),Zm 3 7] [.s 3]) (.seqa (.reg [Zn 4 0] []) (.blk 0 (.loop A43L1)) [3] [3] A43R2)))
def V43:List RV:=[.t 2]
theorem m43:mtcF Try.prog 43 1 A43 V43=true:=by kernel_rfl
def A12:ACode:=(.seq (.reg [Zo 1 (.box 2 (Zt 0)),Zo 2 (.alloc (.agg [.lst .u 1 [],.lst .u 4 []]))] []) (.seq (.reg [Zo 3 (.alloc (.agg [.lst .u 1 [],.lst .u 4 []]))] []) (.seq (.reg [Za 4 0 1,Zl 5 4,Zo 6 (.call 42 [(Zt 5)]),Za 7 0 3,⟨none,.store 1 (Zt 7) (Zt 6),none⟩] []) (.seq (.reg [Za 8 1 1,Zl 9 8,Zo 10 (.call 43 [(Zt 9)]),Za 11 1 3,⟨none,.store 1 (Zt 11) (Zt 10),none⟩] []) (.seq (.reg [Zo 12 (.load 2 true (Zt 3)),⟨none,.store 2 (Zt 2) (Zt 12),none⟩] []) .ret)))))
def V12:List RV:=[.c 2 2 true]
theorem m12:mtcF Try.prog 12 1 A12 V12=true:=by kernel_rfl
def A53:ACode:=(.seq (.reg [Zo 6 (.mv (.c (.b false)))] []) (.seq (.reg [Zm 7 0,Zm 8 1,Zb 9 .geq 7 8,Zm 10 9,⟨(some 11),.mv (Zt 0),(some (10,true))⟩,⟨(some 12),.mv (Zt 2),(some (10,true))⟩,⟨(some 13),.bin .leq (Zt 11) (Zt 12),(some (10,true))⟩,Zo 14 (.pick (Zt 10) (Zt 13) (.c (.b false))),Zm 6 14] []) .ret))
def V53:List RV:=[.t 6]
theorem m53:mtcF Try.prog 53 3 A53 V53=true:=by kernel_rfl
def A108:ACode:=(.seq (.reg [Zo 2 (.mv (.c (.b false)))] []) (.seq (.reg [Zm 3 0,Zo 4 (.bin .geq (Zt 3) (.c (.sc (.int .u8 97)))),Zm 5 4,⟨(some 6),.mv (Zt 0),(some (5,true))⟩,⟨(some 7),.bin .leq (Zt 6) (.c (.sc (.int .u8 122))),(some (5,true))⟩,Zo 8 (.pick (Zt 5) (Zt 7) (.c (.b false))),Zm 9 8,⟨(some 10),.mv (Zt 0),(some (9,false))⟩,⟨(some 11),.bin .geq (Zt 10) (.c (.sc (.int .u8 48))),(some (9,false))⟩,⟨(some 12),.mv (Zt 11),(some (9,false))⟩,⟨(some 13),.mv (Zt 0),(some (12,true))⟩,⟨(some 14),.bin .leq (Zt 13) (.c (.sc (.int .u8 57))),(some (12,true))⟩,⟨(some 15),.pick (Zt 12) (Zt 14) (.c (.b false)),(some (9,false))⟩,Zo 16 (.pick (Zt 9) (.c (.b true)) (Zt 15)),Zm 2 16] []) .ret))
def V108:List RV:=[.t 2]
theorem m108:mtcF Try.prog 108 1 A108 V108=true:=by kernel_rfl
def A72R1:ACode:=(.cond (Zt 17) (.seq (.reg [Zo 2 (.mv (.c (.b false)))] []) .ret) .skip)
def A72L2:ACode:=(.seq (.seq (.reg [Zm 18 3,Zm 19 0,Zo 20 (.lenz (Zt 19)),Zb 21 .lss 18 20] []) (.cond (Zt 21) .skip (.exit 0))) (.seq (.blk 1 (.seq (.reg [Zm 24 0,Zm 25 3,Zo 26 (.stri (Zt 24) (Zt 25)),Zo 27 (.call 108 [(Zt 26)]),Zo 28 (.un .not (Zt 27))] []) (.cond (Zt 28) (.seq (.reg [Zo 2 (.mv (.c (.b false)))] []) .ret) .skip))) (.reg [Zm 22 3,Zd 23 .add 22 1,Zm 3 23] [])))
def A72R3:ACode:=(.seq (.reg [Zo 2 (.mv (.c (.b true)))] []) .ret)
def A72:ACode:=(.seq (.reg [Zo 2 (.mv (.c (.b false)))] []) (.seq (.seqr (.reg [Zm 4 0,Zo 5 (.lenz (Zt 4)),Zo 6 (.call 53 [(Zt 5),(.c (.i 1)),(.c (.i 8))]),Zo 7 (.un .not (Zt 6)),Zm 8 7,⟨(some 9),.mv (Zt 0),(some (8,false))⟩,⟨(some 10),.stri (Zt 9) (.c (.i 0)),(some (8,false))⟩,⟨(some 11),.bin .lss (Zt 10) (.c (.sc (.int .u8 97))),(some (8,false))⟩,Zo 12 (.pick (Zt 8) (.c (.b true)) (Zt 11)),Zm 13 12,⟨(some 14),.mv (Zt 0),(some (13,false))⟩,⟨(some 15),.stri (Zt 14) (.c (.i 0)),(some (13,false))⟩,⟨(some 16),.bin .gtr (Zt 15) (.c (.sc (.int .u8 122))),(some (13,false))⟩,Zo 17 (.pick (Zt 13) (.c (.b true)) (Zt 16))] []) [0,17] [] A72R1) (.seqa (.reg [Zn 3 0] []) (.blk 0 (.loop A72L2)) [] [] A72R3)))
def V72:List RV:=[.t 2]
theorem m72:mtcF Try.prog 72 1 A72 V72=true:=by kernel_rfl
def A73L1:ACode:=(.seq (.seq (.reg [Zm 6 5,Zm 7 0,Zk 8 7,Zb 9 .lss 6 8] []) (.cond (Zt 9) .skip (.exit 0))) (.seq (.blk 1 (.seq (.reg [Zm 12 0,Zm 13 5,Zx 14 1 12 13,Zl 15 14,Zm 16 1,Zb 17 .eql 15 16] []) (.cond (Zt 17) (.seq (.reg [Zm 18 5,Zm 4 18] []) .ret) .skip))) (.reg [Zm 10 5,Zd 11 .add 10 1,Zm 5 11] [])))
def A73R2:ACode:=(.seq (.reg [Zn 4 (-1)] []) .ret)
def A73:ACode:=(.seq (.reg [Zn 4 0] []) (.seqa (.reg [Zn 5 0] []) (.blk 0 (.loop A73L1)) [] [] A73R2))
def V73:List RV:=[.t 4]
theorem m73:mtcF Try.prog 73 2 A73 V73=true:=by kernel_rfl
def A74:ACode:=(.seq (.reg [Zo 2 (.box 4 (Zt 0)),Zo 4 (.mv (.c (.b false)))] []) (.seq (.reg [Za 5 0 2,Zl 6 5,Zm 7 1,Zd 8 .sub 7 1,Zo 9 (.call 53 [(Zt 6),(.c (.i 0)),(Zt 8)]),Zm 10 9,⟨(some 11),.fad 1 (Zt 2),(some (10,true))⟩,⟨(some 12),.load 1 false (Zt 11),(some (10,true))⟩,⟨(some 13),.fad 0 (Zt 2),(some (10,true))⟩,⟨(some 14),.load 1 false (Zt 13),(some (10,true))⟩,⟨(some 15),.bin .add (Zt 14) (.c (.i 1)),(some (10,true))⟩,⟨(some 16),.mv (Zt 1),(some (10,true))⟩,⟨(some 17),.bin .sub (Zt 16) (.c (.i 1)),(some (10,true))⟩,⟨(some 18),.call 53 [(Zt 12),(Zt 15),(Zt 17)],(some (10,true))⟩,Zo 19 (.pick (Zt 10) (Zt 18) (.c (.b false))),Zm 20 19,⟨(some 21),.fad 2 (Zt 2),(some (20,true))⟩,⟨(some 22),.load 1 false (Zt 21),(some (20,true))⟩,⟨(some 23),.call 53 [(Zt 22),(.c (.i 1)),(.c (.i 5000))],(some (20,true))⟩,Zo 24 (.pick (Zt 20) (Zt 23) (.c (.b false))),Zm 25 24,⟨(some 26),.fad 3 (Zt 2),(some (25,true))⟩,⟨(some 27),.load 1 false (Zt 26),(some (25,true))⟩,⟨(some 28),.call 53 [(Zt 27),(.c (.i 0)),(.c (.i 9))],(some (25,true))⟩,Zo 29 (.pick (Zt 25) (Zt 28) (.c (.b false))),Zm 4 29] []) .ret))
def V74:List RV:=[.t 4]
theorem m74:mtcF Try.prog 74 2 A74 V74=true:=by kernel_rfl
def A75:ACode:=(.seq (.reg [Zo 2 (.box 4 (Zt 0)),Zo 3 (.box 4 (Zt 1)),Zn 4 0] []) (.seq (.blk 0 (.seq (.reg [Za 6 0 2,Zl 7 6,Za 8 0 3,Zl 9 8,Zb 10 .neq 7 9,Zm 5 10] []) (.cond (Zt 5) (.seq (.reg [Za 11 0 2,Zl 12 11,Za 13 0 3,Zl 14 13,Zb 15 .sub 12 14,Zm 4 15] []) .ret) (.seq (.reg [Za 17 1 2,Zl 18 17,Za 19 1 3,Zl 20 19,Zb 21 .neq 18 20,Zm 16 21] []) (.cond (Zt 16) (.seq (.reg [Za 22 1 2,Zl 23 22,Za 24 1 3,Zl 25 24,Zb 26 .sub 23 25,Zm 4 26] []) .ret) (.seq (.reg [Za 28 2 2,Zl 29 28,Za 30 2 3,Zl 31 30,Zb 32 .neq 29 31,Zm 27 32] []) (.cond (Zt 27) (.seq (.reg [Za 33 2 2,Zl 34 33,Za 35 2 3,Zl 36 35,Zb 37 .sub 34 36,Zm 4 37] []) .ret) .skip))))))) (.seq (.reg [Za 38 3 2,Zl 39 38,Za 40 3 3,Zl 41 40,Zb 42 .sub 39 41,Zm 4 42] []) .ret)))
def V75:List RV:=[.t 4]
theorem m75:mtcF Try.prog 75 2 A75 V75=true:=by kernel_rfl
def A40R1:ACode:=(.cond (Zt 15) (.seq (.reg [Zo 2 (.mv (.c (.b false)))] []) .ret) .skip)
def A40R2:ACode:=(.cond (Zt 41) (.seq (.reg [Zo 2 (.mv (.c (.b false)))] []) .ret) .skip)
def A40L3:ACode:=(.seq (.seq (.reg [Zm 16 3,Za 17 0 1,Zl 18 17,Zk 19 18,Zb 20 .lss 16 19] []) (.cond (Zt 20) .skip (.exit 0))) (.seq (.blk 1 (.seqr (.drw [Za 23 0 1,Zl 24 23,Zm 25 3,Zx 26 1 24 25,Zl 27 26,Zo 28 (.call 72 [(Zt 27)]),Zo 29 (.un .not (Zt 28)),Zm 30 29,⟨(some 31),.fad 0 (Zt 1),(some (30,false))⟩,⟨(some 32),.load 1 false (Zt 31),(some (30,false))⟩,⟨(some 33),.fad 0 (Zt 1),(some (30,false))⟩,⟨(some 34),.load 1 false (Zt 33),(some (30,false))⟩,⟨(some 35),.mv (Zt 3),(some (30,false))⟩,⟨(some 36),.idx 1 (Zt 34) (Zt 35),(some (30,false))⟩,⟨(some 37),.load 1 false (Zt 36),(some (30,false))⟩,⟨(some 38),.call 73 [(Zt 32),(Zt 37)],(some (30,false))⟩,⟨(some 39),.mv (Zt 3),(some (30,false))⟩,⟨(some 40),.bin .neq (Zt 38) (Zt 39),(some (30,false))⟩,Zo 41 (.pick (Zt 30) (.c (.b true)) (Zt 40))] []) [1,3,41] [1] A40R2)) (.reg [Zm 21 3,Zd 22 .add 21 1,Zm 3 22] [])))
def A40R5:ACode:=(.cond (Zt 77) (.seq (.reg [Zo 2 (.mv (.c (.b false)))] []) .ret) .skip)
def A40L6:ACode:=(.seq (.seq (.reg [Zm 42 4,Za 43 1 1,Zl 44 43,Zk 45 44,Zb 46 .lss 42 45] []) (.cond (Zt 46) .skip (.exit 2))) (.seq (.blk 3 (.seqr (.drw [Za 49 1 1,Zl 50 49,Zm 51 4,Zx 52 4 50 51,Zo 53 (.load 4 true (Zt 52)),Za 54 0 1,Zl 55 54,Zk 56 55,Zo 57 (.call 74 [(Zt 53),(Zt 56)]),Zo 58 (.un .not (Zt 57)),Zm 59 58,⟨(some 60),.mv (Zt 4),(some (59,false))⟩,⟨(some 61),.bin .gtr (Zt 60) (.c (.i 0)),(some (59,false))⟩,⟨(some 62),.mv (Zt 61),(some (59,false))⟩,⟨(some 63),.fad 1 (Zt 1),(some (62,true))⟩,⟨(some 64),.load 1 false (Zt 63),(some (62,true))⟩,⟨(some 65),.mv (Zt 4),(some (62,true))⟩,⟨(some 66),.bin .sub (Zt 65) (.c (.i 1)),(some (62,true))⟩,⟨(some 67),.idx 4 (Zt 64) (Zt 66),(some (62,true))⟩,⟨(some 68),.load 4 true (Zt 67),(some (62,true))⟩,⟨(some 69),.fad 1 (Zt 1),(some (62,true))⟩,⟨(some 70),.load 1 false (Zt 69),(some (62,true))⟩,⟨(some 71),.mv (Zt 4),(some (62,true))⟩,⟨(some 72),.idx 4 (Zt 70) (Zt 71),(some (62,true))⟩,⟨(some 73),.load 4 true (Zt 72),(some (62,true))⟩,⟨(some 74),.call 75 [(Zt 68),(Zt 73)],(some (62,true))⟩,⟨(some 75),.bin .gtr (Zt 74) (.c (.i 0)),(some (62,true))⟩,⟨(some 76),.pick (Zt 62) (Zt 75) (.c (.b false)),(some (59,false))⟩,Zo 77 (.pick (Zt 59) (.c (.b true)) (Zt 76))] []) [1,4,77] [1] A40R5)) (.reg [Zm 47 4,Zd 48 .add 47 1,Zm 4 48] [])))
def A40R7:ACode:=(.seq (.reg [Zo 2 (.mv (.c (.b true)))] []) .ret)
def A40R4:ACode:=(.seqa (.reg [Zn 4 0] []) (.blk 2 (.loop A40L6)) [] [] A40R7)
def A40:ACode:=(.seq (.reg [Zo 1 (.box 2 (Zt 0)),Zo 2 (.mv (.c (.b false)))] []) (.seq (.seqr (.reg [Za 5 0 1,Zl 6 5,Zk 7 6,Zo 8 (.call 53 [(Zt 7),(.c (.i 2)),(.c (.i 8))]),Zo 9 (.un .not (Zt 8)),Zm 10 9,⟨(some 11),.fad 1 (Zt 1),(some (10,false))⟩,⟨(some 12),.load 1 false (Zt 11),(some (10,false))⟩,⟨(some 13),.len (Zt 12),(some (10,false))⟩,⟨(some 14),.bin .gtr (Zt 13) (.c (.i 14)),(some (10,false))⟩,Zo 15 (.pick (Zt 10) (.c (.b true)) (Zt 14))] []) [1,15] [1] A40R1) (.seqa (.reg [Zn 3 0] []) (.blk 0 (.loop A40L3)) [1] [1] A40R4)))
def V40:List RV:=[.t 2]
theorem m40:mtcF Try.prog 40 1 A40 V40=true:=by kernel_rfl
def A99:ACode:=(.seq (.reg [Zo 3 (.box 2 (Zt 0)),Zn 6 0] []) (.seq (.reg [Za 8 1 3,Zl 9 8,Zm 10 1,Zx 11 4 9 10,Zo 12 (.load 4 true (Zt 11)),Zo 7 (.alloc (.agg [.i 0,.i 0,.i 0,.i 0])),⟨none,.store 4 (Zt 7) (Zt 12),none⟩] []) (.seq (.seq (.reg [Zm 13 2] []) (.blk 0 (.seq (.reg [Za 15 0 7,Zl 16 15,Zb 17 .eql 13 16,Zm 14 17] []) (.cond (Zt 14) (.seq (.reg [Za 18 1 7,Zl 19 18,Zm 6 19] []) .ret) (.seq (.reg [Za 21 1 7,Zl 22 21,Zb 23 .eql 13 22,Zm 20 23] []) (.cond (Zt 20) (.seq (.reg [Za 24 0 7,Zl 25 24,Zm 6 25] []) .ret) .skip)))))) (.seq (.reg [Zn 6 (-1)] []) .ret))))
def V99:List RV:=[.t 6]
theorem m99:mtcF Try.prog 99 3 A99 V99=true:=by kernel_rfl
def A60L1:ACode:=(.seq (.seq (.reg [Zm 6 5,Zm 7 0,Zk 8 7,Zb 9 .lss 6 8] []) (.cond (Zt 9) .skip (.exit 0))) (.seq (.blk 1 (.seq (.reg [Zm 12 0,Zm 13 5,Zx 14 1 12 13,Zl 15 14,Zm 16 1,Zb 17 .eql 15 16] []) (.cond (Zt 17) (.seq (.reg [Zo 4 (.mv (.c (.b true)))] []) .ret) .skip))) (.reg [Zm 10 5,Zd 11 .add 10 1,Zm 5 11] [])))
def A60R2:ACode:=(.seq (.reg [Zo 4 (.mv (.c (.b false)))] []) .ret)
def A60:ACode:=(.seq (.reg [Zo 4 (.mv (.c (.b false)))] []) (.seqa (.reg [Zn 5 0] []) (.blk 0 (.loop A60L1)) [] [] A60R2))
def V60:List RV:=[.t 4]
theorem m60:mtcF Try.prog 60 2 A60 V60=true:=by kernel_rfl
def A111:ACode:=(.seq (.reg [Zo 2 (.mv (.c (.lst .u 1 [])))] [.s 2]) (.seq (.reg [Zo 3 (.bsl 1 false []),Zm 4 0,Zo 5 (.app 1 8 false (Zt 3) (Zt 4)),Zm 2 5] [.s 2]) .ret))
def V111:List RV:=[.t 2]
theorem m111:mtcF Try.prog 111 1 A111 V111=true:=by kernel_rfl
def A78L1:ACode:=(.seq (.seq (.reg [Zm 9 4,Zd 10 .geq 9 0] []) (.cond (Zt 10) .skip (.exit 0))) (.seq (.blk 1 (.reg [Zm 13 3,Zm 14 0,Zm 15 4,Zx 16 1 14 15,Zl 17 16,Zo 18 (.bsl 1 false [(Zt 17)]),Zo 19 (.app 1 8 true (Zt 13) (Zt 18)),Zm 3 19] [.s 3])) (.reg [Zm 11 4,Zd 12 .sub 11 1,Zm 4 12] [])))
def A78R2:ACode:=(.seq (.reg [Zm 20 3,Zm 2 20] [.s 2]) .ret)
def A78:ACode:=(.seq (.reg [Zo 2 (.mv (.c (.lst .u 1 [])))] [.s 2]) (.seq (.reg [Zo 5 (.bsl 1 false []),Zm 3 5] [.s 3]) (.seqa (.reg [Zm 6 0,Zk 7 6,Zd 8 .sub 7 1,Zm 4 8] []) (.blk 0 (.loop A78L1)) [3] [3] A78R2)))
def V78:List RV:=[.t 2]
theorem m78:mtcF Try.prog 78 1 A78 V78=true:=by kernel_rfl
def A77L1:ACode:=(.seq (.seq (.reg [Zm 16 5,Zm 17 0,Zk 18 17,Zb 19 .lss 16 18] []) (.cond (Zt 19) .skip (.exit 0))) (.seq (.blk 1 (.seq (.drw [Zm 22 0,Zm 23 5,Zx 24 1 22 23,Zl 25 24,Zm 26 1,Zm 27 5,Zx 28 1 26 27,Zl 29 28,Zb 30 .neq 25 29] []) (.cond (Zt 30) (.seq (.drw [Zm 31 0,Zm 32 5,Zx 33 1 31 32,Zl 34 33,Zm 35 1,Zm 36 5,Zx 37 1 35 36,Zl 38 37,Zb 39 .lss 34 38,Zm 4 39] []) .ret) .skip))) (.reg [Zm 20 5,Zd 21 .add 20 1,Zm 5 21] [])))
def A77R2:ACode:=(.seq (.reg [Zo 4 (.mv (.c (.b false)))] []) .ret)
def A77:ACode:=(.seq (.reg [Zo 4 (.mv (.c (.b false)))] []) (.seq (.seq (.reg [Zm 6 0,Zk 7 6,Zm 8 1,Zk 9 8,Zb 10 .neq 7 9] []) (.cond (Zt 10) (.seq (.reg [Zm 11 0,Zk 12 11,Zm 13 1,Zk 14 13,Zb 15 .lss 12 14,Zm 4 15] []) .ret) .skip)) (.seqa (.reg [Zn 5 0] []) (.blk 0 (.loop A77L1)) [] [] A77R2)))
def V77:List RV:=[.t 4]
theorem m77:mtcF Try.prog 77 2 A77 V77=true:=by kernel_rfl
def A112M3L1:ACode:=(.seq (.seq (.reg [Zm 6 5,Zm 7 0,Zk 8 7,Zb 9 .lss 6 8,Zm 10 9,⟨(some 11),.mv (Zt 0),(some (10,true))⟩,⟨(some 12),.mv (Zt 5),(some (10,true))⟩,⟨(some 13),.idx 1 (Zt 11) (Zt 12),(some (10,true))⟩,⟨(some 14),.load 1 false (Zt 13),(some (10,true))⟩,⟨(some 15),.mv (Zt 1),(some (10,true))⟩,⟨(some 16),.call 77 [(Zt 14),(Zt 15)],(some (10,true))⟩,Zo 17 (.pick (Zt 10) (Zt 16) (.c (.b false)))] []) (.cond (Zt 17) .skip (.exit 0))) (.blk 1 (.reg [Zm 18 5,Zd 19 .add 18 1,Zm 5 19] [])))
def A112M3R2:ACode:=(.seq (.drw [Zo 20 (.bsl 1 true []),Zm 21 0,Zm 22 5,Zo 23 (.slc 1 (Zt 21) none (some (Zt 22)) none),Zo 24 (.app 1 24 false (Zt 20) (Zt 23)),Zm 25 1,Zo 26 (.bsl 1 true [(Zt 25)]),Zo 27 (.app 1 24 true (Zt 24) (Zt 26)),Zm 28 0,Zm 29 5,Zo 30 (.slc 1 (Zt 28) (some (Zt 29)) none none),Zo 31 (.app 1 24 false (Zt 27) (Zt 30)),Zm 4 31] [.s 4]) .ret)
def A112M3:ACode:=(.seq (.reg [Zo 4 (.mv (.c (.lst .u 1 [])))] [.s 4,.z 1]) (.seq (.reg [Zn 5 0] []) (.seqr (.blk 0 (.loop A112M3L1)) [0,1,5] [1000000000] A112M3R2)))
def V112M3:List RV:=[.t 4]
theorem m112M3:mtcF Try.prog 112 2 A112M3 V112M3=true:=by kernel_rfl
def A92M7R1:ACode:=(.cond (Zt 28) .skip (.exit 0))
def A92M7R2:ACode:=(.cond (Zt 45) (.exit 1) .skip)
def A92M7R3:ACode:=(.cond (Zt 63) (.reg [Zm 64 0,Zm 65 0,Zo 66 (.nilc (Zt 65)),Za 67 2 66,Zl 68 67,Zm 69 12,Zo 70 (.callM 112 [(Zt 68),(Zt 69)] [470000002,12]),Zo 71 (.nilc (Zt 64)),Za 72 2 71,⟨none,.store 1 (Zt 72) (Zt 70),none⟩] [.f true 470000002 1000000000 2]) .skip)
def A92M7R4:ACode:=(.exit 1)
def A92M7L5:ACode:=(.seq (.seqr (.reg [Zm 13 10,Zm 14 0,Zo 15 (.nilc (Zt 14)),Za 16 0 15,Za 17 1 16,Zl 18 17,Zk 19 18,Zb 20 .lss 13 19,Zm 21 20,⟨(some 22),.mv (Zt 0),(some (21,true))⟩,⟨(some 23),.nilc (Zt 22),(some (21,true))⟩,⟨(some 24),.fad 2 (Zt 23),(some (21,true))⟩,⟨(some 25),.load 1 false (Zt 24),(some (21,true))⟩,⟨(some 26),.len (Zt 25),(some (21,true))⟩,⟨(some 27),.bin .leq (Zt 26) (.c (.i 60)),(some (21,true))⟩,Zo 28 (.pick (Zt 21) (Zt 27) (.c (.b false)))] []) [0,1,2,3,4,10,28] [470000002,1000000000,1000000002,1000000003] A92M7R1) (.seq (.blk 1 (.seq (.reg [Zm 31 0,Zo 32 (.nilc (Zt 31)),Za 33 0 32,Zo 34 (.load 2 true (Zt 33)),Zm 35 10,Zm 36 2,Zo 37 (.call 99 [(Zt 34),(Zt 35),(Zt 36)]),Zm 11 37] []) (.seq (.seqr (.reg [Zm 38 11,Zm 39 1,Zb 40 .lss 38 39,Zm 41 40,⟨(some 42),.mv (Zt 3),(some (41,false))⟩,⟨(some 43),.mv (Zt 10),(some (41,false))⟩,⟨(some 44),.call 60 [(Zt 42),(Zt 43)],(some (41,false))⟩,Zo 45 (.pick (Zt 41) (.c (.b true)) (Zt 44))] []) [0,1,2,3,4,10,11,45] [470000002,1000000000,1000000002,1000000003] A92M7R2) (.seq (.reg [Zm 46 3,Zo 47 (.call 111 [(Zt 46)]),Zm 48 10,Zo 49 (.bsl 1 false [(Zt 48)]),Zo 50 (.app 1 8 true (Zt 47) (Zt 49)),Zm 12 50] [.s 12]) (.seq (.seq (.reg [Zm 51 11,Zm 52 1,Zb 53 .eql 51 52] []) (.cond (Zt 53) (.seqr (.seqr (.reg [Zm 54 12,Zk 55 54,Zd 56 .gtr 55 1,Zm 57 56,⟨(some 58),.mv (Zt 12),(some (57,true))⟩,⟨(some 59),.call 78 [(Zt 58)],(some (57,true))⟩,⟨(some 60),.mv (Zt 12),(some (57,true))⟩,⟨(some 61),.call 77 [(Zt 59),(Zt 60)],(some (57,true))⟩,⟨(some 62),.un .not (Zt 61),(some (57,true))⟩,Zo 63 (.pick (Zt 57) (Zt 62) (.c (.b false)))] []) [0,1,2,3,4,10,12,63] [12,470000002,1000000000,1000000002,1000000003] A92M7R3) [0,1,2,3,4,10] [470000002,1000000000,1000000002,1000000003] A92M7R4) .skip)) (.seq (.reg [Zm 73 4,Zm 74 11,Zo 75 (.call 60 [(Zt 73),(Zt 74)]),Zo 76 (.un .not (Zt 75))] []) (.cond (Zt 76) (.reg [Zm 77 0,Zm 78 1,Zm 79 11,Zm 80 12,Zm 81 4,Zo 82 (.call 111 [(Zt 81)]),Zm 83 11,Zo 84 (.bsl 1 false [(Zt 83)]),Zo 85 (.app 1 8 true (Zt 82) (Zt 84)),Zo 86 (.callM 92 [(Zt 77),(Zt 78),(Zt 79),(Zt 80),(Zt 85)] [1000000000,470000002,12,85])] [.f true 470000002 1000000000 2]) .skip))))))) (.reg [Zm 29 10,Zd 30 .add 29 1,Zm 10 30] [])))
def A92M7:ACode:=(.seq (.reg [Zn 10 0] [.f true 470000002 1000000000 2]) (.blk 0 (.loop A92M7L5)))
def V92M7:List RV:=[]
theorem m92M7:mtcF Try.prog 92 5 A92M7 V92M7=true:=by kernel_rfl
def A58M2L1:ACode:=(.seq (.seq (.reg [Zm 9 4,Za 10 0 1,Zl 11 10,Zk 12 11,Zb 13 .lss 9 12] []) (.cond (Zt 13) .skip (.exit 0))) (.seq (.blk 1 (.reg [Zm 16 3,Zm 17 4,Zm 18 4,Zo 19 (.bsl 1 false []),Zm 20 4,Zo 21 (.bsl 1 false [(Zt 20)]),Zo 22 (.callM 92 [(Zt 16),(Zt 17),(Zt 18),(Zt 19),(Zt 21)] [8,500000514,19,21])] [.f true 500000514 8 2])) (.reg [Zm 14 4,Zd 15 .add 14 1,Zm 4 15] [])))
def A58M2R2:ACode:=(.seq (.reg [Zm 23 3,Zo 24 (.nilc (Zt 23)),Za 25 2 24,Zl 26 25,Zm 2 26] [.r 2]) .ret)
def A58M2:ACode:=(.seq (.reg [Zo 1 (.box 2 (Zt 0)),Zo 2 (.mv (.c (.lst .u 1 [])))] [.r 2,.w 1,.w 1,.f true 500000064 1 0,.f true 500000065 1 1]) (.seq (.reg [Zo 5 (.load 2 true (Zt 1)),Zo 6 (.bsl 1 false []),Zo 7 (.build [.lst .u 1 [],.lst .u 4 [],.lst .u 1 []] [(0,2,(Zt 5)),(2,1,(Zt 6))]),Zo 8 (.box 3 (Zt 7)),Zm 3 8] [.f true 500000514 8 2]) (.seqa (.reg [Zn 4 0] []) (.blk 0 (.loop A58M2L1)) [3] [8,500000514] A58M2R2)))
def V58M2:List RV:=[.t 2]
theorem m58M2:mtcF Try.prog 58 1 A58M2 V58M2=true:=by kernel_rfl
def A28M1:ACode:=(.seq (.reg [Zo 1 (.box 2 (Zt 0)),Zo 2 (.mv (.c (.lst .u 1 []))),Zo 3 (.mv (.c (.b false)))] [.s 2]) (.seq (.seq (.reg [Zo 5 (.load 2 true (Zt 1)),Zo 6 (.call 40 [(Zt 5)]),Zo 7 (.un .not (Zt 6))] []) (.cond (Zt 7) (.seq (.reg [Zo 8 (.bsl 1 false []),Zm 2 8,Zo 3 (.mv (.c (.b false)))] [.s 2]) .ret) .skip)) (.seq (.reg [Zo 9 (.load 2 true (Zt 1)),Zo 10 (.callM 58 [(Zt 9)] [1000000000,1000000001]),Zm 4 10] [.s 4]) (.seq (.seq (.reg [Zm 11 4,Zk 12 11,Zd 13 .gtr 12 60] []) (.cond (Zt 13) (.seq (.reg [Zo 14 (.bsl 1 false []),Zm 2 14,Zo 3 (.mv (.c (.b false)))] [.s 2]) .ret) .skip)) (.seq (.reg [Zm 15 4,Zm 2 15,Zo 3 (.mv (.c (.b true)))] [.s 2]) .ret)))))
def V28M1:List RV:=[.t 2,.t 3]
theorem m28M1:mtcF Try.prog 28 1 A28M1 V28M1=true:=by kernel_rfl
def A57:ACode:=(.seq (.reg [Zo 6 (.mv (.c (.b false)))] []) (.seq (.reg [Zm 7 1,Zm 8 0,Zb 9 .leq 7 8,Zm 10 9,⟨(some 11),.mv (Zt 0),(some (10,true))⟩,⟨(some 12),.mv (Zt 2),(some (10,true))⟩,⟨(some 13),.bin .leq (Zt 11) (Zt 12),(some (10,true))⟩,Zo 14 (.pick (Zt 10) (Zt 13) (.c (.b false))),Zm 6 14] []) .ret))
def V57:List RV:=[.t 6]
theorem m57:mtcF Try.prog 57 3 A57 V57=true:=by kernel_rfl
def A81R1:ACode:=(.seq (.reg [Zm 31 4,Zo 32 (.un .not (Zt 31)),Zm 33 32,⟨(some 34),.mv (Zt 5),(some (33,true))⟩,⟨(some 35),.un .not (Zt 34),(some (33,true))⟩,⟨(some 36),.mv (Zt 35),(some (33,true))⟩,⟨(some 37),.mv (Zt 3),(some (36,false))⟩,⟨(some 38),.bin .eql (Zt 37) (.c (.i 0)),(some (36,false))⟩,⟨(some 39),.pick (Zt 36) (.c (.b true)) (Zt 38),(some (33,true))⟩,Zo 40 (.pick (Zt 33) (Zt 39) (.c (.b false)))] []) (.cond (Zt 40) (.seq (.reg [Zo 2 (.mv (.c (.b false)))] []) .ret) .skip))
def A81L2:ACode:=(.seq (.reg [Zb 9 .lss 8 7] []) (.seq (.cond (Zt 9) .skip (.exit 0)) (.seq (.blk 1 (.seq (.reg [Zm 10 8,Zm 3 10] []) (.seqr (.drw [Zm 11 0,Zm 12 3,Zo 13 (.stri (Zt 11) (Zt 12)),Zo 14 (.bin .geq (Zt 13) (.c (.sc (.int .u8 97)))),Zm 15 14,⟨(some 16),.mv (Zt 0),(some (15,true))⟩,⟨(some 17),.mv (Zt 3),(some (15,true))⟩,⟨(some 18),.stri (Zt 16) (Zt 17),(some (15,true))⟩,⟨(some 19),.bin .leq (Zt 18) (.c (.sc (.int .u8 122))),(some (15,true))⟩,Zo 20 (.pick (Zt 15) (Zt 19) (.c (.b false))),Zm 21 0,Zm 22 3,Zo 23 (.stri (Zt 21) (Zt 22)),Zo 24 (.bin .geq (Zt 23) (.c (.sc (.int .u8 48)))),Zm 25 24,⟨(some 26),.mv (Zt 0),(some (25,true))⟩,⟨(some 27),.mv (Zt 3),(some (25,true))⟩,⟨(some 28),.stri (Zt 26) (Zt 27),(some (25,true))⟩,⟨(some 29),.bin .leq (Zt 28) (.c (.sc (.int .u8 57))),(some (25,true))⟩,Zo 30 (.pick (Zt 25) (Zt 29) (.c (.b false))),Zm 4 20,Zm 5 30] []) [0,3,4,5,7,8] [] A81R1))) (.reg [Zd 41 .add 8 1,Zm 8 41] []))))
def A81R3:ACode:=(.seq (.reg [Zm 42 0,Zo 43 (.lenz (Zt 42)),Zo 44 (.call 57 [(Zt 43),(.c (.i 1)),(.c (.i 8))]),Zm 2 44] []) .ret)
def A81:ACode:=(.seq (.reg [Zo 2 (.mv (.c (.b false)))] []) (.seqa (.reg [Zm 6 0,Zo 7 (.lenz (Zt 6)),Zn 8 0] []) (.blk 0 (.loop A81L2)) [0] [] A81R3))
def V81:List RV:=[.t 2]
theorem m81:mtcF Try.prog 81 1 A81 V81=true:=by kernel_rfl
def A109L1:ACode:=(.seq (.reg [Zb 9 .lss 8 7] []) (.seq (.cond (Zt 9) .skip (.exit 0)) (.seq (.blk 1 (.seq (.reg [Zm 10 8,Zm 5 10] []) (.seq (.reg [Zm 11 1,Zm 12 0,Zm 13 5,Zx 14 1 12 13,Zl 15 14,Zb 16 .eql 11 15] []) (.cond (Zt 16) (.seq (.reg [Zm 17 5,Zm 4 17] []) .ret) .skip)))) (.reg [Zd 18 .add 8 1,Zm 8 18] []))))
def A109R2:ACode:=(.seq (.reg [Zn 4 (-1)] []) .ret)
def A109:ACode:=(.seq (.reg [Zn 4 0] []) (.seqa (.reg [Zm 6 0,Zk 7 6,Zn 8 0] []) (.blk 0 (.loop A109L1)) [] [] A109R2))
def V109:List RV:=[.t 4]
theorem m109:mtcF Try.prog 109 2 A109 V109=true:=by kernel_rfl
def A82:ACode:=(.seq (.reg [Zo 4 (.mv (.c (.b false)))] []) (.seq (.reg [Zm 5 0,Zm 6 1,Zo 7 (.call 109 [(Zt 5),(Zt 6)]),Zd 8 .geq 7 0,Zm 4 8] []) .ret))
def V82:List RV:=[.t 4]
theorem m82:mtcF Try.prog 82 2 A82 V82=true:=by kernel_rfl
def A114:ACode:=(.seq (.reg [Zo 2 (.mv (.c (.b false)))] []) (.seq (.reg [Zm 3 0,Zm 4 0,Zb 5 .neq 3 4,Zm 2 5] []) .ret))
def V114:List RV:=[.t 2]
theorem m114:mtcF Try.prog 114 1 A114 V114=true:=by kernel_rfl
def A98:ACode:=(.seq (.reg [Zn 4 0] []) (.seq (.reg [Zm 7 0,Zo 8 (.call 114 [(Zt 7)]),Zm 5 8] []) (.seq (.reg [Zm 9 1,Zo 10 (.call 114 [(Zt 9)]),Zm 6 10] []) (.seq (.seq (.reg [Zm 11 5] []) (.cond (Zt 11) (.seq (.seq (.reg [Zm 12 6] []) (.cond (Zt 12) (.seq (.reg [Zn 4 0] []) .ret) .skip)) (.seq (.reg [Zn 4 (-1)] []) .ret)) .skip)) (.seq (.seq (.reg [Zm 13 6] []) (.cond (Zt 13) (.seq (.reg [Zn 4 1] []) .ret) .skip)) (.seq (.seq (.reg [Zm 14 0,Zm 15 1,Zb 16 .lss 14 15] []) (.cond (Zt 16) (.seq (.reg [Zn 4 (-1)] []) .ret) .skip)) (.seq (.seq (.reg [Zm 17 0,Zm 18 1,Zb 19 .gtr 17 18] []) (.cond (Zt 19) (.seq (.reg [Zn 4 1] []) .ret) .skip)) (.seq (.reg [Zn 4 0] []) .ret))))))))
def V98:List RV:=[.t 4]
theorem m98:mtcF Try.prog 98 2 A98 V98=true:=by kernel_rfl
def A97L1:ACode:=(.seq (.reg [Zb 9 .lss 8 7] []) (.seq (.cond (Zt 9) .skip (.exit 0)) (.seq (.blk 1 (.seq (.reg [Zx 10 1 6 8,Zl 11 10,Zm 5 11] []) (.seq (.reg [Zm 12 5,Zm 13 3,Zb 14 .neq 12 13] []) (.cond (Zt 14) (.seq (.reg [Zm 15 5,Zm 2 15] []) .ret) .skip)))) (.reg [Zd 16 .add 8 1,Zm 8 16] []))))
def A97R2:ACode:=(.seq (.reg [Zm 17 3,Zm 2 17] []) .ret)
def A97:ACode:=(.seq (.reg [Zn 2 0] []) (.seq (.reg [Zn 3 0] []) (.seqa (.reg [Zm 6 0,Zk 7 6,Zn 8 0] []) (.blk 0 (.loop A97L1)) [3] [] A97R2)))
def V97:List RV:=[.t 2]
theorem m97:mtcF Try.prog 97 1 A97 V97=true:=by kernel_rfl
def A83:ACode:=(.seq (.reg [Zo 2 (.box 4 (Zt 0)),Zo 3 (.box 4 (Zt 1)),Zn 4 0] []) (.seq (.drw [Za 5 0 2,Zl 6 5,Za 7 0 3,Zl 8 7,Zo 9 (.call 98 [(Zt 6),(Zt 8)]),Za 10 1 2,Zl 11 10,Za 12 1 3,Zl 13 12,Zo 14 (.call 98 [(Zt 11),(Zt 13)]),Za 15 2 2,Zl 16 15,Za 17 2 3,Zl 18 17,Zo 19 (.call 98 [(Zt 16),(Zt 18)]),Za 20 3 2,Zl 21 20,Za 22 3 3,Zl 23 22,Zo 24 (.call 98 [(Zt 21),(Zt 23)]),Zo 25 (.bsl 1 true [(Zt 9),(Zt 14),(Zt 19),(Zt 24)]),Zo 26 (.call 97 [(Zt 25)]),Zm 4 26] []) .ret))
def V83:List RV:=[.t 4]
theorem m83:mtcF Try.prog 83 2 A83 V83=true:=by kernel_rfl
def A47L1:ACode:=(.seq (.reg [Zb 11 .lss 10 9] []) (.seq (.cond (Zt 11) .skip (.exit 0)) (.seq (.blk 1 (.seq (.reg [Zm 12 10,Zx 13 1 8 10,Zl 14 13,Zm 3 12,Zm 4 14] []) (.seq (.reg [Zm 15 4,Zo 16 (.call 81 [(Zt 15)]),Zo 17 (.un .not (Zt 16)),Zm 18 17,⟨(some 19),.fad 0 (Zt 1),(some (18,false))⟩,⟨(some 20),.load 1 false (Zt 19),(some (18,false))⟩,⟨(some 21),.mv (Zt 3),(some (18,false))⟩,⟨(some 22),.slc 1 (Zt 20) none (some (Zt 21)) none,(some (18,false))⟩,⟨(some 23),.mv (Zt 4),(some (18,false))⟩,⟨(some 24),.call 82 [(Zt 22),(Zt 23)],(some (18,false))⟩,Zo 25 (.pick (Zt 18) (.c (.b true)) (Zt 24))] []) (.cond (Zt 25) (.seq (.reg [Zo 2 (.mv (.c (.b false)))] []) .ret) .skip)))) (.reg [Zd 26 .add 10 1,Zm 10 26] []))))
def A47L3:ACode:=(.seq (.reg [Zb 31 .lss 30 29] []) (.seq (.cond (Zt 31) .skip (.exit 2)) (.seq (.blk 3 (.seq (.reg [Zm 32 30,Zx 33 4 28 30,Zo 34 (.load 4 true (Zt 33)),Zo 6 (.alloc (.agg [.i 0,.i 0,.i 0,.i 0])),Zm 5 32,⟨none,.store 4 (Zt 6) (Zt 34),none⟩] []) (.seq (.drw [Za 35 0 6,Zl 36 35,Zd 37 .lss 36 0,Zm 38 37,⟨(some 39),.fad 0 (Zt 6),(some (38,false))⟩,⟨(some 40),.load 1 false (Zt 39),(some (38,false))⟩,⟨(some 41),.fad 1 (Zt 6),(some (38,false))⟩,⟨(some 42),.load 1 false (Zt 41),(some (38,false))⟩,⟨(some 43),.bin .geq (Zt 40) (Zt 42),(some (38,false))⟩,Zo 44 (.pick (Zt 38) (.c (.b true)) (Zt 43)),Zm 45 44,⟨(some 46),.fad 1 (Zt 6),(some (45,false))⟩,⟨(some 47),.load 1 false (Zt 46),(some (45,false))⟩,⟨(some 48),.fad 0 (Zt 1),(some (45,false))⟩,⟨(some 49),.load 1 false (Zt 48),(some (45,false))⟩,⟨(some 50),.len (Zt 49),(some (45,false))⟩,⟨(some 51),.bin .geq (Zt 47) (Zt 50),(some (45,false))⟩,Zo 52 (.pick (Zt 45) (.c (.b true)) (Zt 51)),Zm 53 52,⟨(some 54),.fad 2 (Zt 6),(some (53,false))⟩,⟨(some 55),.load 1 false (Zt 54),(some (53,false))⟩,⟨(some 56),.call 57 [(Zt 55),(.c (.i 1)),(.c (.i 5000))],(some (53,false))⟩,⟨(some 57),.un .not (Zt 56),(some (53,false))⟩,Zo 58 (.pick (Zt 53) (.c (.b true)) (Zt 57)),Zm 59 58,⟨(some 60),.fad 3 (Zt 6),(some (59,false))⟩,⟨(some 61),.load 1 false (Zt 60),(some (59,false))⟩,⟨(some 62),.call 57 [(Zt 61),(.c (.i 0)),(.c (.i 9))],(some (59,false))⟩,⟨(some 63),.un .not (Zt 62),(some (59,false))⟩,Zo 64 (.pick (Zt 59) (.c (.b true)) (Zt 63)),Zm 65 64,⟨(some 66),.mv (Zt 5),(some (65,false))⟩,⟨(some 67),.bin .gtr (Zt 66) (.c (.i 0)),(some (65,false))⟩,⟨(some 68),.mv (Zt 67),(some (65,false))⟩,⟨(some 69),.fad 1 (Zt 1),(some (68,true))⟩,⟨(some 70),.load 1 false (Zt 69),(some (68,true))⟩,⟨(some 71),.mv (Zt 5),(some (68,true))⟩,⟨(some 72),.bin .sub (Zt 71) (.c (.i 1)),(some (68,true))⟩,⟨(some 73),.idx 4 (Zt 70) (Zt 72),(some (68,true))⟩,⟨(some 74),.load 4 true (Zt 73),(some (68,true))⟩,⟨(some 75),.load 4 true (Zt 6),(some (68,true))⟩,⟨(some 76),.call 83 [(Zt 74),(Zt 75)],(some (68,true))⟩,⟨(some 77),.bin .gtr (Zt 76) (.c (.i 0)),(some (68,true))⟩,⟨(some 78),.pick (Zt 68) (Zt 77) (.c (.b false)),(some (65,false))⟩,Zo 79 (.pick (Zt 65) (.c (.b true)) (Zt 78))] []) (.cond (Zt 79) (.seq (.reg [Zo 2 (.mv (.c (.b false)))] []) .ret) .skip)))) (.reg [Zd 80 .add 30 1,Zm 30 80] []))))
def A47R4:ACode:=(.seq (.reg [Za 81 0 1,Zl 82 81,Zk 83 82,Zo 84 (.call 57 [(Zt 83),(.c (.i 2)),(.c (.i 8))]),Zm 85 84,⟨(some 86),.fad 1 (Zt 1),(some (85,true))⟩,⟨(some 87),.load 1 false (Zt 86),(some (85,true))⟩,⟨(some 88),.len (Zt 87),(some (85,true))⟩,⟨(some 89),.bin .leq (Zt 88) (.c (.i 14)),(some (85,true))⟩,Zo 90 (.pick (Zt 85) (Zt 89) (.c (.b false))),Zm 2 90] []) .ret)
def A47R2:ACode:=(.seqa (.reg [Za 27 1 1,Zl 28 27,Zk 29 28,Zn 30 0] []) (.blk 2 (.loop A47L3)) [1] [1] A47R4)
def A47:ACode:=(.seq (.reg [Zo 1 (.box 2 (Zt 0)),Zo 2 (.mv (.c (.b false)))] []) (.seqa (.reg [Za 7 0 1,Zl 8 7,Zk 9 8,Zn 10 0] []) (.blk 0 (.loop A47L1)) [1] [1] A47R2))
def V47:List RV:=[.t 2]
theorem m47:mtcF Try.prog 47 1 A47 V47=true:=by kernel_rfl
def A94:ACode:=(.seq (.reg [Zo 2 (.box 4 (Zt 0)),Zn 4 0] []) (.seq (.seq (.reg [Zm 5 1] []) (.blk 0 (.seq (.reg [Za 7 0 2,Zl 8 7,Zb 9 .eql 5 8,Zm 6 9] []) (.cond (Zt 6) (.seq (.reg [Za 10 1 2,Zl 11 10,Zm 4 11] []) .ret) (.seq (.reg [Za 13 1 2,Zl 14 13,Zb 15 .eql 5 14,Zm 12 15] []) (.cond (Zt 12) (.seq (.reg [Za 16 0 2,Zl 17 16,Zm 4 17] []) .ret) .skip)))))) (.seq (.reg [Zn 4 (-1)] []) .ret)))
def V94:List RV:=[.t 4]
theorem m94:mtcF Try.prog 94 2 A94 V94=true:=by kernel_rfl
def A64L1:ACode:=(.seq (.reg [Zb 9 .lss 8 7] []) (.seq (.cond (Zt 9) .skip (.exit 0)) (.seq (.blk 1 (.seq (.reg [Zm 10 8,Zm 5 10] []) (.seq (.reg [Zm 11 1,Zm 12 0,Zm 13 5,Zx 14 1 12 13,Zl 15 14,Zb 16 .eql 11 15] []) (.cond (Zt 16) (.seq (.reg [Zm 17 5,Zm 4 17] []) .ret) .skip)))) (.reg [Zd 18 .add 8 1,Zm 8 18] []))))
def A64R2:ACode:=(.seq (.reg [Zn 4 (-1)] []) .ret)
def A64:ACode:=(.seq (.reg [Zn 4 0] []) (.seqa (.reg [Zm 6 0,Zk 7 6,Zn 8 0] []) (.blk 0 (.loop A64L1)) [] [] A64R2))
def V64:List RV:=[.t 4]
theorem m64:mtcF Try.prog 64 2 A64 V64=true:=by kernel_rfl
def A67:ACode:=(.seq (.reg [Zo 4 (.mv (.c (.b false)))] []) (.seq (.reg [Zm 5 0,Zm 6 1,Zo 7 (.call 64 [(Zt 5),(Zt 6)]),Zd 8 .geq 7 0,Zm 4 8] []) .ret))
def V67:List RV:=[.t 4]
theorem m67:mtcF Try.prog 67 2 A67 V67=true:=by kernel_rfl
def A84R1:ACode:=(.cond (Zt 35) (.seq (.reg [Zo 6 (.mv (.c (.lst .u 1 []))),Zn 7 0,Zo 8 (.mv (.c (.b false)))] [.s 6]) .ret) .skip)
def A84L2:ACode:=(.seq (.reg [Zb 18 .lss 17 16] []) (.seq (.cond (Zt 18) .skip (.exit 0)) (.seq (.blk 1 (.seq (.reg [Zm 19 17,Zx 20 1 15 17,Zl 21 20,Zm 11 19,Zm 12 21] []) (.seq (.seqr (.reg [Zm 22 12,Za 23 1 3,Zl 24 23,Zk 25 24,Zd 26 .sub 25 1,Zo 27 (.call 57 [(Zt 22),(.c (.i 0)),(Zt 26)]),Zo 28 (.un .not (Zt 27)),Zm 29 28,⟨(some 30),.mv (Zt 2),(some (29,false))⟩,⟨(some 31),.mv (Zt 11),(some (29,false))⟩,⟨(some 32),.slc 1 (Zt 30) none (some (Zt 31)) none,(some (29,false))⟩,⟨(some 33),.mv (Zt 12),(some (29,false))⟩,⟨(some 34),.call 67 [(Zt 32),(Zt 33)],(some (29,false))⟩,Zo 35 (.pick (Zt 29) (.c (.b true)) (Zt 34))] []) [2,3,9,10,12,15,16,17,35] [3,9] A84R1) (.seq (.reg [Zm 36 9,Zm 37 10,Zo 38 (.bsl 1 false [(Zt 37)]),Zo 39 (.app 1 8 true (Zt 36) (Zt 38)),Zm 9 39] [.s 9]) (.seq (.reg [Za 40 1 3,Zl 41 40,Zm 42 12,Zx 43 4 41 42,Zo 44 (.load 4 true (Zt 43)),Zm 45 10,Zo 46 (.call 94 [(Zt 44),(Zt 45)]),Zm 10 46] []) (.seq (.reg [Zm 47 10,Zd 48 .lss 47 0] []) (.cond (Zt 48) (.seq (.reg [Zo 6 (.mv (.c (.lst .u 1 []))),Zn 7 0,Zo 8 (.mv (.c (.b false)))] [.s 6]) .ret) .skip))))))) (.reg [Zd 49 .add 17 1,Zm 17 49] []))))
def A84R3:ACode:=(.seq (.reg [Zm 50 9,Zm 51 10,Zm 6 50,Zm 7 51,Zo 8 (.mv (.c (.b true)))] [.s 6]) .ret)
def A84:ACode:=(.seq (.reg [Zo 3 (.box 2 (Zt 0)),Zo 6 (.mv (.c (.lst .u 1 []))),Zn 7 0,Zo 8 (.mv (.c (.b false)))] [.s 6]) (.seq (.reg [Zo 13 (.bsl 1 false []),Zm 14 1,Zm 9 13,Zm 10 14] [.s 9]) (.seqa (.reg [Zm 15 2,Zk 16 15,Zn 17 0] []) (.blk 0 (.loop A84L2)) [9,10] [9] A84R3)))
def V84:List RV:=[.t 6,.t 7,.t 8]
theorem m84:mtcF Try.prog 84 3 A84 V84=true:=by kernel_rfl
def A85L1:ACode:=(.seq (.seq (.reg [Zm 12 4,Zm 13 0,Zk 14 13,Zb 15 .lss 12 14] []) (.cond (Zt 15) .skip (.exit 0))) (.seq (.blk 1 (.reg [Zm 18 3,Zm 19 0,Zm 20 4,Zx 21 1 19 20,Zl 22 21,Zo 23 (.mn (Zt 18) (Zt 22)),Zm 3 23] [])) (.reg [Zm 16 4,Zd 17 .add 16 1,Zm 4 17] [])))
def A85R2:ACode:=(.seq (.reg [Zm 24 3,Zm 2 24] []) .ret)
def A85:ACode:=(.seq (.reg [Zn 2 0] []) (.seq (.seq (.reg [Zm 5 0,Zk 6 5,Zd 7 .lss 6 1] []) (.cond (Zt 7) (.reg [Zo 8 (.bad),⟨none,.bad,none⟩] []) .skip)) (.seq (.reg [Zm 9 0,Zo 10 (.idx 1 (Zt 9) (.c (.i 0))),Zl 11 10,Zm 3 11] []) (.seqa (.reg [Zn 4 1] []) (.blk 0 (.loop A85L1)) [3] [] A85R2))))
def V85:List RV:=[.t 2]
theorem m85:mtcF Try.prog 85 1 A85 V85=true:=by kernel_rfl
def A86:ACode:=(.seq (.reg [Zo 2 (.mv (.c (.lst .u 1 [])))] [.s 2]) (.seq (.seq (.reg [Zm 3 0,Zo 4 (.isn false (Zt 3))] []) (.cond (Zt 4) (.seq (.reg [Zo 2 (.mv (.c (.lst .u 1 [])))] [.s 2]) .ret) .skip)) (.seq (.reg [Zo 5 (.bsl 1 false []),Zm 6 0,Zo 7 (.app 1 8 false (Zt 5) (Zt 6)),Zm 2 7] [.s 2]) .ret)))
def V86:List RV:=[.t 2]
theorem m86:mtcF Try.prog 86 1 A86 V86=true:=by kernel_rfl
def A87M1L1:ACode:=(.seq (.seq (.reg [Zm 7 2,Zm 8 3,Zb 9 .lss 7 8] []) (.cond (Zt 9) .skip (.exit 0))) (.seq (.blk 1 (.drw [Zm 14 0,Zm 15 2,Zm 16 0,Zm 17 3,Zm 18 0,Zm 19 3,Zx 20 1 18 19,Zl 21 20,Zm 22 0,Zm 23 2,Zx 24 1 22 23,Zl 25 24,Zx 26 1 14 15,⟨none,.store 1 (Zt 26) (Zt 21),none⟩,Zx 27 1 16 17,⟨none,.store 1 (Zt 27) (Zt 25),none⟩] [])) (.reg [Zm 10 2,Zd 11 .add 10 1,Zm 12 3,Zd 13 .sub 12 1,Zm 2 11,Zm 3 13] [])))
def A87M1:ACode:=(.seq (.reg [Zm 4 0,Zk 5 4,Zd 6 .sub 5 1,Zn 2 0,Zm 3 6] []) (.blk 0 (.loop A87M1L1)))
def V87M1:List RV:=[]
theorem m87M1:mtcF Try.prog 87 1 A87M1 V87M1=true:=by kernel_rfl
def A88L1:ACode:=(.seq (.reg [Zb 12 .lss 11 10] []) (.seq (.cond (Zt 12) .skip (.exit 0)) (.seq (.blk 1 (.seq (.reg [Zm 13 11,Zx 14 1 9 11,Zl 15 14,Zm 5 13,Zm 6 15] []) (.seq (.seq (.reg [Zm 16 5,Zm 17 1,Zk 18 17,Zb 19 .geq 16 18] []) (.cond (Zt 19) (.seq (.reg [Zn 4 1] []) .ret) .skip)) (.seq (.reg [Zm 20 1,Zm 21 5,Zx 22 1 20 21,Zl 23 22,Zm 7 23] []) (.seq (.reg [Zm 24 6,Zm 25 7,Zo 26 (.call 98 [(Zt 24),(Zt 25)]),Zm 8 26] []) (.seq (.reg [Zm 27 8,Zd 28 .neq 27 0] []) (.cond (Zt 28) (.seq (.reg [Zm 29 8,Zm 4 29] []) .ret) .skip))))))) (.reg [Zd 30 .add 11 1,Zm 11 30] []))))
def A88R2:ACode:=(.seq (.seq (.reg [Zm 31 0,Zk 32 31,Zm 33 1,Zk 34 33,Zb 35 .lss 32 34] []) (.cond (Zt 35) (.seq (.reg [Zn 4 (-1)] []) .ret) .skip)) (.seq (.reg [Zn 4 0] []) .ret))
def A88:ACode:=(.seq (.reg [Zn 4 0] []) (.seqa (.reg [Zm 9 0,Zk 10 9,Zn 11 0] []) (.blk 0 (.loop A88L1)) [0,1] [] A88R2))
def V88:List RV:=[.t 4]
theorem m88:mtcF Try.prog 88 2 A88 V88=true:=by kernel_rfl
def A48R1:ACode:=(.cond (Zt 26) (.seq (.reg [Zo 4 (.mv (.c (.lst .u 1 []))),Zo 5 (.mv (.c (.b false)))] [.s 4]) .ret) .skip)
def A48R2:ACode:=(.cond (Zt 55) (.seq (.reg [Zo 4 (.mv (.c (.lst .u 1 []))),Zo 5 (.mv (.c (.b false)))] [.s 4]) .ret) .skip)
def A48L3:ACode:=(.seq (.reg [Zb 59 .lss 58 57] []) (.seq (.cond (Zt 59) .skip (.exit 0)) (.seq (.blk 1 (.seq (.reg [Zm 60 58,Zx 61 1 56 58,Zl 62 61,Zm 10 60,Zm 11 62] []) (.seq (.reg [Zm 63 7,Zm 64 10,Zo 65 (.slc 1 (Zt 63) none (some (Zt 64)) none),Zm 66 11,Zo 67 (.call 67 [(Zt 65),(Zt 66)])] []) (.cond (Zt 67) (.seq (.reg [Zo 4 (.mv (.c (.lst .u 1 []))),Zo 5 (.mv (.c (.b false)))] [.s 4]) .ret) .skip)))) (.reg [Zd 68 .add 58 1,Zm 58 68] []))))
def A48R4:ACode:=(.seq (.reg [Zm 69 1,Zo 70 (.call 86 [(Zt 69)]),Zm 12 70] [.s 12]) (.seq (.reg [Zm 71 12,Zo 72 (.callM 87 [(Zt 71)] [12])] []) (.seq (.reg [Zm 73 7,Zm 74 1,Zm 75 12,Zo 76 (.call 88 [(Zt 74),(Zt 75)]),Zd 77 .lss 76 0,Zm 4 73,Zm 5 77] [.s 4]) .ret)))
def A48:ACode:=(.seq (.reg [Zo 2 (.box 2 (Zt 0)),Zo 4 (.mv (.c (.lst .u 1 []))),Zo 5 (.mv (.c (.b false)))] [.s 4]) (.seq (.seqr (.drw [Zm 13 1,Zk 14 13,Zd 15 .lss 14 2,Zm 16 15,⟨(some 17),.mv (Zt 1),(some (16,false))⟩,⟨(some 18),.idx 1 (Zt 17) (.c (.i 0)),(some (16,false))⟩,⟨(some 19),.load 1 false (Zt 18),(some (16,false))⟩,⟨(some 20),.fad 1 (Zt 2),(some (16,false))⟩,⟨(some 21),.load 1 false (Zt 20),(some (16,false))⟩,⟨(some 22),.len (Zt 21),(some (16,false))⟩,⟨(some 23),.bin .sub (Zt 22) (.c (.i 1)),(some (16,false))⟩,⟨(some 24),.call 57 [(Zt 19),(.c (.i 0)),(Zt 23)],(some (16,false))⟩,⟨(some 25),.un .not (Zt 24),(some (16,false))⟩,Zo 26 (.pick (Zt 16) (.c (.b true)) (Zt 25))] []) [1,2,26] [2] A48R1) (.seq (.drw [Za 27 1 2,Zl 28 27,Zm 29 1,Zo 30 (.idx 1 (Zt 29) (.c (.i 0))),Zl 31 30,Zx 32 4 28 31,Za 33 0 32,Zl 34 33,Zm 6 34] []) (.seq (.reg [Zo 36 (.load 2 true (Zt 2)),Zm 37 6,Zm 38 1,Zo 39 (.call 84 [(Zt 36),(Zt 37),(Zt 38)]),Zm 35 39,Ze 40 35 0,Ze 41 35 1,Ze 42 35 2,Zm 7 40,Zm 8 41,Zm 9 42] [.s 7]) (.seq (.seqr (.reg [Zm 43 9,Zo 44 (.un .not (Zt 43)),Zm 45 44,⟨(some 46),.mv (Zt 8),(some (45,false))⟩,⟨(some 47),.mv (Zt 6),(some (45,false))⟩,⟨(some 48),.bin .neq (Zt 46) (Zt 47),(some (45,false))⟩,Zo 49 (.pick (Zt 45) (.c (.b true)) (Zt 48)),Zm 50 49,⟨(some 51),.mv (Zt 7),(some (50,false))⟩,⟨(some 52),.call 85 [(Zt 51)],(some (50,false))⟩,⟨(some 53),.mv (Zt 6),(some (50,false))⟩,⟨(some 54),.bin .neq (Zt 52) (Zt 53),(some (50,false))⟩,Zo 55 (.pick (Zt 50) (.c (.b true)) (Zt 54))] []) [1,7,55] [7] A48R2) (.seqa (.reg [Zm 56 7,Zk 57 56,Zn 58 0] []) (.blk 0 (.loop A48L3)) [1,7] [7] A48R4))))))
def V48:List RV:=[.t 4,.t 5]
theorem m48:mtcF Try.prog 48 2 A48 V48=true:=by kernel_rfl
def A93M2R1:ACode:=(.cond (Zt 35) (.exit 1) .skip)
def A93M2L2:ACode:=(.seq (.reg [Zb 21 .lss 20 19] []) (.seq (.cond (Zt 21) .skip (.exit 0)) (.seq (.blk 1 (.seq (.reg [Zm 22 20,Zx 23 4 18 20,Zo 24 (.load 4 true (Zt 23)),Zo 12 (.alloc (.agg [.i 0,.i 0,.i 0,.i 0])),Zm 11 22,⟨none,.store 4 (Zt 12) (Zt 24),none⟩] []) (.seq (.reg [Zo 25 (.load 4 true (Zt 12)),Zm 26 1,Zo 27 (.call 94 [(Zt 25),(Zt 26)]),Zm 13 27] []) (.seq (.seqr (.reg [Zm 28 13,Zm 29 0,Zb 30 .lss 28 29,Zm 31 30,⟨(some 32),.mv (Zt 3),(some (31,false))⟩,⟨(some 33),.mv (Zt 11),(some (31,false))⟩,⟨(some 34),.call 67 [(Zt 32),(Zt 33)],(some (31,false))⟩,Zo 35 (.pick (Zt 31) (.c (.b true)) (Zt 34))] []) [0,1,2,3,4,5,6,11,13,18,19,20,35] [470000128,1000000001,1000000002,1000000004] A93M2R1) (.seq (.reg [Zm 36 3,Zm 37 3,Zk 38 37,Zm 39 3,Zk 40 39,Zo 41 (.slc 1 (Zt 36) none (some (Zt 38)) (some (Zt 40))),Zm 42 11,Zo 43 (.bsl 1 false [(Zt 42)]),Zo 44 (.app 1 8 true (Zt 41) (Zt 43)),Zm 14 44] [.s 14]) (.seq (.reg [Zm 45 13,Zm 46 0,Zb 47 .eql 45 46] []) (.cond (Zt 47) (.seq (.reg [Zo 49 (.load 2 true (Zt 4)),Zm 50 14,Zo 51 (.call 48 [(Zt 49),(Zt 50)]),Zm 48 51,Ze 52 48 0,Ze 53 48 1,Zm 15 52,Zm 16 53] [.s 15]) (.seq (.reg [Zm 54 16] []) (.cond (Zt 54) (.reg [Zl 55 5,Zm 56 14,Zo 57 (.bsl 1 false [(Zt 56)]),Zo 58 (.app 1 24 true (Zt 55) (Zt 57)),⟨none,.store 1 (Zt 5) (Zt 58),none⟩] [.f true 470000128 1000000002 0]) .skip))) (.seq (.reg [Zm 59 2,Zm 60 13,Zb 61 .shr 59 60,Zd 62 .and 61 1,Zd 63 .eql 62 0] []) (.cond (Zt 63) (.drw [Zl 64 6,Zm 65 0,Zm 66 13,Zm 67 2,Zm 68 13,Zo 69 (.bin .shl (.c (.i 1)) (Zt 68)),Zb 70 .or 67 69,Zm 71 14,Zo 72 (.dynM (Zt 64) [(Zt 65),(Zt 66),(Zt 70),(Zt 71)] [14,1000000001,1000000002,470000128,1000000004])] [.f true 470000128 1000000002 0]) .skip))))))))) (.reg [Zd 73 .add 20 1,Zm 20 73] []))))
def A93M2:ACode:=(.seq (.reg [Za 17 1 4,Zl 18 17,Zk 19 18,Zn 20 0] [.z 3,.f true 470000128 1000000002 0]) (.blk 0 (.loop A93M2L2)))
def V93M2:List RV:=[]
theorem m93M2:mtcF Try.prog 93 7 A93M2 V93M2=true:=by kernel_rfl
def A93M1R1:ACode:=(.cond (Zt 35) (.exit 1) .skip)
def A93M1L2:ACode:=(.seq (.reg [Zb 21 .lss 20 19] []) (.seq (.cond (Zt 21) .skip (.exit 0)) (.seq (.blk 1 (.seq (.reg [Zm 22 20,Zx 23 4 18 20,Zo 24 (.load 4 true (Zt 23)),Zo 12 (.alloc (.agg [.i 0,.i 0,.i 0,.i 0])),Zm 11 22,⟨none,.store 4 (Zt 12) (Zt 24),none⟩] []) (.seq (.reg [Zo 25 (.load 4 true (Zt 12)),Zm 26 1,Zo 27 (.call 94 [(Zt 25),(Zt 26)]),Zm 13 27] []) (.seq (.seqr (.reg [Zm 28 13,Zm 29 0,Zb 30 .lss 28 29,Zm 31 30,⟨(some 32),.mv (Zt 3),(some (31,false))⟩,⟨(some 33),.mv (Zt 11),(some (31,false))⟩,⟨(some 34),.call 67 [(Zt 32),(Zt 33)],(some (31,false))⟩,Zo 35 (.pick (Zt 31) (.c (.b true)) (Zt 34))] []) [0,1,2,3,4,5,6,11,13,18,19,20,35] [470000064,1000000000,1000000001,1000000003] A93M1R1) (.seq (.reg [Zm 36 3,Zm 37 3,Zk 38 37,Zm 39 3,Zk 40 39,Zo 41 (.slc 1 (Zt 36) none (some (Zt 38)) (some (Zt 40))),Zm 42 11,Zo 43 (.bsl 1 false [(Zt 42)]),Zo 44 (.app 1 8 true (Zt 41) (Zt 43)),Zm 14 44] [.s 14]) (.seq (.reg [Zm 45 13,Zm 46 0,Zb 47 .eql 45 46] []) (.cond (Zt 47) (.seq (.reg [Zo 49 (.load 2 true (Zt 4)),Zm 50 14,Zo 51 (.call 48 [(Zt 49),(Zt 50)]),Zm 48 51,Ze 52 48 0,Ze 53 48 1,Zm 15 52,Zm 16 53] [.s 15]) (.seq (.reg [Zm 54 16] []) (.cond (Zt 54) (.reg [Zl 55 5,Zm 56 14,Zo 57 (.bsl 1 false [(Zt 56)]),Zo 58 (.app 1 24 true (Zt 55) (Zt 57)),⟨none,.store 1 (Zt 5) (Zt 58),none⟩] [.f true 470000064 1000000001 0]) .skip))) (.seq (.reg [Zm 59 2,Zm 60 13,Zb 61 .shr 59 60,Zd 62 .and 61 1,Zd 63 .eql 62 0] []) (.cond (Zt 63) (.drw [Zl 64 6,Zm 65 0,Zm 66 13,Zm 67 2,Zm 68 13,Zo 69 (.bin .shl (.c (.i 1)) (Zt 68)),Zb 70 .or 67 69,Zm 71 14,Zo 72 (.dynM (Zt 64) [(Zt 65),(Zt 66),(Zt 70),(Zt 71)] [14,1000000000,1000000001,470000064,1000000003])] [.f true 470000064 1000000001 0]) .skip))))))))) (.reg [Zd 73 .add 20 1,Zm 20 73] []))))
def A93M1:ACode:=(.seq (.reg [Za 17 1 4,Zl 18 17,Zk 19 18,Zn 20 0] [.z 3,.f true 470000064 1000000001 0]) (.blk 0 (.loop A93M1L2)))
def V93M1:List RV:=[]
theorem m93M1:mtcF Try.prog 93 7 A93M1 V93M1=true:=by kernel_rfl
def A96:ACode:=(.seq (.reg [Zn 4 0] []) (.seq (.reg [Zm 5 0,Zk 6 5,Zm 7 1,Zk 8 7,Zo 9 (.call 98 [(Zt 6),(Zt 8)]),Zm 10 0,Zm 11 1,Zo 12 (.call 88 [(Zt 10),(Zt 11)]),Zo 13 (.bsl 1 false [(Zt 9),(Zt 12)]),Zo 14 (.call 97 [(Zt 13)]),Zm 4 14] []) .ret))
def V96:List RV:=[.t 4]
theorem m96:mtcF Try.prog 96 2 A96 V96=true:=by kernel_rfl
def A59L1:ACode:=(.seq (.reg [Zb 12 .lss 11 10] []) (.seq (.cond (Zt 12) .skip (.exit 0)) (.seq (.blk 1 (.seq (.reg [Zm 13 11,Zm 5 13] []) (.drw [Zl 14 4,Zm 15 5,Zm 16 5,Zm 17 5,Zo 18 (.bin .shl (.c (.i 1)) (Zt 17)),Zo 19 (.dynM (Zt 14) [(Zt 15),(Zt 16),(Zt 18),(.c (.lst .u 1 []))] [1,3,500000192,4])] [.f false 500000192 3 0]))) (.reg [Zd 20 .add 11 1,Zm 11 20] []))))
def A59R2:ACode:=(.seq (.reg [Zl 21 3,Zo 22 (.callM 95 [(Zt 21),(.c (.fn 96 []))] [500000192])] []) (.seq (.reg [Zl 23 3,Zm 2 23] [.s 2]) .ret))
def A59:ACode:=(.seq (.reg [Zo 1 (.box 2 (Zt 0)),Zo 2 (.mv (.c (.lst .u 1 [])))] [.s 2]) (.seq (.reg [Zo 6 (.bsl 1 false []),Zo 3 (.alloc (.lst .u 1 [])),⟨none,.store 1 (Zt 3) (Zt 6),none⟩] [.f false 500000192 3 0]) (.seq (.reg [Zo 4 (.alloc (.sc .nilFunc))] []) (.seq (.reg [Zo 7 (.mkf 93 [(Zt 1),(Zt 3),(Zt 4)]),⟨none,.store 1 (Zt 4) (Zt 7),none⟩] []) (.seqa (.reg [Za 8 0 1,Zl 9 8,Zk 10 9,Zn 11 0] []) (.blk 0 (.loop A59L1)) [3] [3,500000192] A59R2)))))
def V59:List RV:=[.t 2]
theorem m59:mtcF Try.prog 59 1 A59 V59=true:=by kernel_rfl
def A29:ACode:=(.seq (.reg [Zo 1 (.box 2 (Zt 0)),Zo 2 (.mv (.c (.lst .u 1 []))),Zo 3 (.mv (.c (.b false)))] [.s 2]) (.seq (.seq (.reg [Zo 5 (.load 2 true (Zt 1)),Zo 6 (.call 47 [(Zt 5)]),Zo 7 (.un .not (Zt 6))] []) (.cond (Zt 7) (.seq (.reg [Zo 2 (.mv (.c (.lst .u 1 []))),Zo 3 (.mv (.c (.b false)))] [.s 2]) .ret) .skip)) (.seq (.reg [Zo 8 (.load 2 true (Zt 1)),Zo 9 (.call 59 [(Zt 8)]),Zm 4 9] [.s 4]) (.seq (.seq (.reg [Zm 10 4,Zk 11 10,Zd 12 .gtr 11 60] []) (.cond (Zt 12) (.seq (.reg [Zo 2 (.mv (.c (.lst .u 1 []))),Zo 3 (.mv (.c (.b false)))] [.s 2]) .ret) .skip)) (.seq (.reg [Zm 13 4,Zm 2 13,Zo 3 (.mv (.c (.b true)))] [.s 2]) .ret)))))
def V29:List RV:=[.t 2,.t 3]
theorem m29:mtcF Try.prog 29 1 A29 V29=true:=by kernel_rfl
def A16L1:ACode:=(.seq (.seq (.reg [Zm 11 5,Zm 12 0,Zk 13 12,Zb 14 .lss 11 13] []) (.cond (Zt 14) .skip (.exit 0))) (.seq (.blk 1 (.seq (.drw [Zm 17 0,Zm 18 5,Zx 19 1 17 18,Zl 20 19,Zm 21 1,Zm 22 5,Zx 23 1 21 22,Zl 24 23,Zb 25 .neq 20 24] []) (.cond (Zt 25) (.seq (.reg [Zo 4 (.mv (.c (.b false)))] []) .ret) .skip))) (.reg [Zm 15 5,Zd 16 .add 15 1,Zm 5 16] [])))
def A16R2:ACode:=(.seq (.reg [Zo 4 (.mv (.c (.b true)))] []) .ret)
def A16:ACode:=(.seq (.reg [Zo 4 (.mv (.c (.b false)))] []) (.seq (.seq (.reg [Zm 6 0,Zk 7 6,Zm 8 1,Zk 9 8,Zb 10 .neq 7 9] []) (.cond (Zt 10) (.seq (.reg [Zo 4 (.mv (.c (.b false)))] []) .ret) .skip)) (.seqa (.reg [Zn 5 0] []) (.blk 0 (.loop A16L1)) [] [] A16R2)))
def V16:List RV:=[.t 4]
theorem m16:mtcF Try.prog 16 2 A16 V16=true:=by kernel_rfl
def A30L1:ACode:=(.seq (.seq (.reg [Zm 11 5,Zm 12 0,Zk 13 12,Zb 14 .lss 11 13] []) (.cond (Zt 14) .skip (.exit 0))) (.seq (.blk 1 (.seq (.drw [Zm 17 0,Zm 18 5,Zx 19 1 17 18,Zl 20 19,Zm 21 1,Zm 22 5,Zx 23 1 21 22,Zl 24 23,Zo 25 (.call 16 [(Zt 20),(Zt 24)]),Zo 26 (.un .not (Zt 25))] []) (.cond (Zt 26) (.seq (.reg [Zo 4 (.mv (.c (.b false)))] []) .ret) .skip))) (.reg [Zm 15 5,Zd 16 .add 15 1,Zm 5 16] [])))
def A30R2:ACode:=(.seq (.reg [Zo 4 (.mv (.c (.b true)))] []) .ret)
def A30:ACode:=(.seq (.reg [Zo 4 (.mv (.c (.b false)))] []) (.seq (.seq (.reg [Zm 6 0,Zk 7 6,Zm 8 1,Zk 9 8,Zb 10 .neq 7 9] []) (.cond (Zt 10) (.seq (.reg [Zo 4 (.mv (.c (.b false)))] []) .ret) .skip)) (.seqa (.reg [Zn 5 0] []) (.blk 0 (.loop A30L1)) [] [] A30R2)))
def V30:List RV:=[.t 4]
theorem m30:mtcF Try.prog 30 2 A30 V30=true:=by kernel_rfl
def A44L1:ACode:=(.seq (.seq (.reg [Zm 11 5,Zm 12 0,Zk 13 12,Zb 14 .lss 11 13] []) (.cond (Zt 14) .skip (.exit 0))) (.seq (.blk 1 (.seq (.drw [Zm 17 0,Zm 18 5,Zx 19 1 17 18,Zl 20 19,Zm 21 1,Zm 22 5,Zx 23 1 21 22,Zl 24 23,Zb 25 .neq 20 24] []) (.cond (Zt 25) (.seq (.reg [Zo 4 (.mv (.c (.b false)))] []) .ret) .skip))) (.reg [Zm 15 5,Zd 16 .add 15 1,Zm 5 16] [])))
def A44R2:ACode:=(.seq (.reg [Zo 4 (.mv (.c (.b true)))] []) .ret)
def A44:ACode:=(.seq (.reg [Zo 4 (.mv (.c (.b false)))] []) (.seq (.seq (.reg [Zm 6 0,Zk 7 6,Zm 8 1,Zk 9 8,Zb 10 .neq 7 9] []) (.cond (Zt 10) (.seq (.reg [Zo 4 (.mv (.c (.b false)))] []) .ret) .skip)) (.seqa (.reg [Zn 5 0] []) (.blk 0 (.loop A44L1)) [] [] A44R2)))
def V44:List RV:=[.t 4]
theorem m44:mtcF Try.prog 44 2 A44 V44=true:=by kernel_rfl
def A80:ACode:=(.seq (.reg [Zo 2 (.box 4 (Zt 0)),Zo 3 (.box 4 (Zt 1)),Zo 4 (.mv (.c (.b false)))] []) (.seq (.seq (.reg [Za 5 0 2,Zl 6 5,Za 7 0 3,Zl 8 7,Zb 9 .neq 6 8] []) (.cond (Zt 9) (.seq (.reg [Zo 4 (.mv (.c (.b false)))] []) .ret) .skip)) (.seq (.seq (.reg [Za 10 1 2,Zl 11 10,Za 12 1 3,Zl 13 12,Zb 14 .neq 11 13] []) (.cond (Zt 14) (.seq (.reg [Zo 4 (.mv (.c (.b false)))] []) .ret) .skip)) (.seq (.seq (.reg [Za 15 2 2,Zl 16 15,Za 17 2 3,Zl 18 17,Zb 19 .neq 16 18] []) (.cond (Zt 19) (.seq (.reg [Zo 4 (.mv (.c (.b false)))] []) .ret) .skip)) (.seq (.seq (.reg [Za 20 3 2,Zl 21 20,Za 22 3 3,Zl 23 22,Zb 24 .neq 21 23] []) (.cond (Zt 24) (.seq (.reg [Zo 4 (.mv (.c (.b false)))] []) .ret) .skip)) (.seq (.reg [Zo 4 (.mv (.c (.b true)))] []) .ret))))))
def V80:List RV:=[.t 4]
theorem m80:mtcF Try.prog 80 2 A80 V80=true:=by kernel_rfl
def A45L1:ACode:=(.seq (.seq (.reg [Zm 11 5,Zm 12 0,Zk 13 12,Zb 14 .lss 11 13] []) (.cond (Zt 14) .skip (.exit 0))) (.seq (.blk 1 (.seq (.drw [Zm 17 0,Zm 18 5,Zx 19 4 17 18,Zo 20 (.load 4 true (Zt 19)),Zm 21 1,Zm 22 5,Zx 23 4 21 22,Zo 24 (.load 4 true (Zt 23)),Zo 25 (.call 80 [(Zt 20),(Zt 24)]),Zo 26 (.un .not (Zt 25))] []) (.cond (Zt 26) (.seq (.reg [Zo 4 (.mv (.c (.b false)))] []) .ret) .skip))) (.reg [Zm 15 5,Zd 16 .add 15 1,Zm 5 16] [])))
def A45R2:ACode:=(.seq (.reg [Zo 4 (.mv (.c (.b true)))] []) .ret)
def A45:ACode:=(.seq (.reg [Zo 4 (.mv (.c (.b false)))] []) (.seq (.seq (.reg [Zm 6 0,Zk 7 6,Zm 8 1,Zk 9 8,Zb 10 .neq 7 9] []) (.cond (Zt 10) (.seq (.reg [Zo 4 (.mv (.c (.b false)))] []) .ret) .skip)) (.seqa (.reg [Zn 5 0] []) (.blk 0 (.loop A45L1)) [] [] A45R2)))
def V45:List RV:=[.t 4]
theorem m45:mtcF Try.prog 45 2 A45 V45=true:=by kernel_rfl
def A15:ACode:=(.seq (.reg [Zo 2 (.box 2 (Zt 0)),Zo 3 (.box 2 (Zt 1)),Zo 4 (.mv (.c (.b false)))] []) (.seq (.seq (.reg [Za 5 0 2,Zl 6 5,Za 7 0 3,Zl 8 7,Zo 9 (.call 44 [(Zt 6),(Zt 8)]),Zo 10 (.un .not (Zt 9))] []) (.cond (Zt 10) (.seq (.reg [Zo 4 (.mv (.c (.b false)))] []) .ret) .skip)) (.seq (.seq (.reg [Za 11 1 2,Zl 12 11,Za 13 1 3,Zl 14 13,Zo 15 (.call 45 [(Zt 12),(Zt 14)]),Zo 16 (.un .not (Zt 15))] []) (.cond (Zt 16) (.seq (.reg [Zo 4 (.mv (.c (.b false)))] []) .ret) .skip)) (.seq (.reg [Zo 4 (.mv (.c (.b true)))] []) .ret))))
def V15:List RV:=[.t 4]
theorem m15:mtcF Try.prog 15 2 A15 V15=true:=by kernel_rfl
def A89L1:ACode:=(.seq (.seq (.reg [Zm 6 0,Zd 7 .gtr 6 0] []) (.cond (Zt 7) .skip (.exit 0))) (.blk 1 (.seq (.reg [Zm 8 0,Zd 9 .rem 8 10,Zo 10 (.bin .add (.c (.i 48)) (Zt 9)),Zo 11 (.conv .u8 (Zt 10)),Zo 12 (.bsl 1 false [(Zt 11)]),Zo 13 (.b2s (Zt 12)),Zm 14 3,Zb 15 .add 13 14,Zm 3 15] []) (.reg [Zm 16 0,Zd 17 .quo 16 10,Zm 0 17] []))))
def A89R2:ACode:=(.seq (.reg [Zm 18 3,Zo 19 (.bin .add (.c (.z ⟨#[109]⟩)) (Zt 18)),Zm 2 19] []) .ret)
def A89:ACode:=(.seq (.reg [Zo 2 (.mv (.c (.z ⟨#[]⟩)))] []) (.seq (.seq (.reg [Zm 4 0,Zd 5 .leq 4 0] []) (.cond (Zt 5) (.seq (.reg [Zo 2 (.mv (.c (.z ⟨#[109,48]⟩)))] []) .ret) .skip)) (.seq (.reg [Zo 3 (.mv (.c (.z ⟨#[]⟩)))] []) (.seqr (.blk 0 (.loop A89L1)) [3] [] A89R2))))
def V89:List RV:=[.t 2]
theorem m89:mtcF Try.prog 89 1 A89 V89=true:=by kernel_rfl
def A49M1L1:ACode:=(.seq (.seq (.reg [Zm 6 5,Zm 7 0,Zk 8 7,Zb 9 .lss 6 8] []) (.cond (Zt 9) .skip (.exit 0))) (.seq (.blk 1 (.seq (.reg [Zm 12 0,Zm 13 5,Zm 14 1,Zo 15 (.call 89 [(Zt 14)]),Zx 16 1 12 13,⟨none,.store 1 (Zt 16) (Zt 15),none⟩] []) (.reg [Zm 17 1,Zd 18 .add 17 1,Zm 1 18] []))) (.reg [Zm 10 5,Zd 11 .add 10 1,Zm 5 11] [])))
def A49M1R2:ACode:=(.seq (.reg [Zm 19 1,Zm 4 19] []) .ret)
def A49M1:ACode:=(.seq (.reg [Zn 4 0] []) (.seqa (.reg [Zn 5 0] []) (.blk 0 (.loop A49M1L1)) [1] [1000000000] A49M1R2))
def V49M1:List RV:=[.t 4]
theorem m49M1:mtcF Try.prog 49 2 A49M1 V49M1=true:=by kernel_rfl
def A50M1L1:ACode:=(.seq (.seq (.reg [Zm 6 5,Zm 7 0,Zk 8 7,Zb 9 .lss 6 8] []) (.cond (Zt 9) .skip (.exit 0))) (.seq (.blk 1 (.seq (.reg [Zm 12 0,Zm 13 5,Zm 14 1,Zx 15 4 12 13,Za 16 0 15,⟨none,.store 1 (Zt 16) (Zt 14),none⟩] []) (.seq (.reg [Zm 17 1,Zd 18 .add 17 1,Zm 1 18] []) (.seq (.reg [Zm 19 0,Zm 20 5,Zm 21 1,Zx 22 4 19 20,Za 23 1 22,⟨none,.store 1 (Zt 23) (Zt 21),none⟩] []) (.seq (.reg [Zm 24 1,Zd 25 .add 24 1,Zm 1 25] []) (.seq (.reg [Zm 26 0,Zm 27 5,Zm 28 1,Zx 29 4 26 27,Za 30 2 29,⟨none,.store 1 (Zt 30) (Zt 28),none⟩] []) (.seq (.reg [Zm 31 1,Zd 32 .add 31 1,Zm 1 32] []) (.seq (.reg [Zm 33 0,Zm 34 5,Zm 35 1,Zx 36 4 33 34,Za 37 3 36,⟨none,.store 1 (Zt 37) (Zt 35),none⟩] []) (.reg [Zm 38 1,Zd 39 .add 38 1,Zm 1 39] []))))))))) (.reg [Zm 10 5,Zd 11 .add 10 1,Zm 5 11] [])))
def A50M1R2:ACode:=(.seq (.reg [Zm 40 1,Zm 4 40] []) .ret)
def A50M1:ACode:=(.seq (.reg [Zn 4 0] []) (.seqa (.reg [Zn 5 0] []) (.blk 0 (.loop A50M1L1)) [1] [1000000000] A50M1R2))
def V50M1:List RV:=[.t 4]
theorem m50M1:mtcF Try.prog 50 2 A50M1 V50M1=true:=by kernel_rfl
def A19M1:ACode:=(.seq (.reg [Zo 2 (.box 2 (Zt 0)),Zn 4 0] []) (.seq (.reg [Za 5 0 2,Zl 6 5,Zm 7 1,Zo 8 (.callM 49 [(Zt 6),(Zt 7)] [1000000000]),Zm 1 8] []) (.seq (.reg [Za 9 1 2,Zl 10 9,Zm 11 1,Zo 12 (.callM 50 [(Zt 10),(Zt 11)] [1000000001]),Zm 1 12] []) (.seq (.reg [Zm 13 1,Zm 4 13] []) .ret))))
def V19M1:List RV:=[.t 4]
theorem m19M1:mtcF Try.prog 19 2 A19M1 V19M1=true:=by kernel_rfl
def A20M1L1:ACode:=(.seq (.seq (.reg [Zm 6 5,Zm 7 0,Zk 8 7,Zb 9 .lss 6 8] []) (.cond (Zt 9) .skip (.exit 0))) (.seq (.blk 1 (.seq (.reg [Zm 12 0,Zm 13 5,Zm 14 1,Zx 15 1 12 13,⟨none,.store 1 (Zt 15) (Zt 14),none⟩] []) (.reg [Zm 16 1,Zd 17 .add 16 1,Zm 1 17] []))) (.reg [Zm 10 5,Zd 11 .add 10 1,Zm 5 11] [])))
def A20M1R2:ACode:=(.seq (.reg [Zm 18 1,Zm 4 18] []) .ret)
def A20M1:ACode:=(.seq (.reg [Zn 4 0] []) (.seqa (.reg [Zn 5 0] []) (.blk 0 (.loop A20M1L1)) [1] [1000000000] A20M1R2))
def V20M1:List RV:=[.t 4]
theorem m20M1:mtcF Try.prog 20 2 A20M1 V20M1=true:=by kernel_rfl
def A31M1L1:ACode:=(.seq (.seq (.reg [Zm 6 5,Zm 7 0,Zk 8 7,Zb 9 .lss 6 8] []) (.cond (Zt 9) .skip (.exit 0))) (.seq (.blk 1 (.regh [Zm 12 0,Zm 13 5,Zx 14 1 12 13] (.inn 15 1 1 (Zt 14) [(16,(Zt 1))] 17 20 [(Zt 15),(Zt 16)]) [Zm 1 17] [])) (.reg [Zm 10 5,Zd 11 .add 10 1,Zm 5 11] [])))
def A31M1R2:ACode:=(.seq (.reg [Zm 18 1,Zm 4 18] []) .ret)
def A31M1:ACode:=(.seq (.reg [Zn 4 0] []) (.seqa (.reg [Zn 5 0] []) (.blk 0 (.loop A31M1L1)) [1] [1000000000] A31M1R2))
def V31M1:List RV:=[.t 4]
theorem m31M1:mtcF Try.prog 31 2 A31M1 V31M1=true:=by kernel_rfl
def A21L1:ACode:=(.seq (.seq (.reg [Zm 6 5,Zm 7 0,Zk 8 7,Zb 9 .lss 6 8] []) (.cond (Zt 9) .skip (.exit 0))) (.seq (.blk 1 (.seq (.seq (.reg [Zm 12 0,Zm 13 5,Zx 14 1 12 13,Zl 15 14,Zm 16 1,Zb 17 .neq 15 16] []) (.cond (Zt 17) (.seq (.reg [Zn 4 (-1)] []) .ret) .skip)) (.reg [Zm 18 1,Zd 19 .add 18 1,Zm 1 19] []))) (.reg [Zm 10 5,Zd 11 .add 10 1,Zm 5 11] [])))
def A21R2:ACode:=(.seq (.reg [Zm 20 1,Zm 4 20] []) .ret)
def A21:ACode:=(.seq (.reg [Zn 4 0] []) (.seqa (.reg [Zn 5 0] []) (.blk 0 (.loop A21L1)) [1] [] A21R2))
def V21:List RV:=[.t 4]
theorem m21:mtcF Try.prog 21 2 A21 V21=true:=by kernel_rfl
def A32L1:ACode:=(.seq (.seq (.reg [Zm 6 5,Zm 7 0,Zk 8 7,Zb 9 .lss 6 8] []) (.cond (Zt 9) .skip (.exit 0))) (.seq (.blk 1 (.seq (.reg [Zm 12 0,Zm 13 5,Zx 14 1 12 13,Zl 15 14,Zm 16 1,Zo 17 (.call 21 [(Zt 15),(Zt 16)]),Zm 1 17] []) (.seq (.reg [Zm 18 1,Zd 19 .lss 18 0] []) (.cond (Zt 19) (.seq (.reg [Zn 4 (-1)] []) .ret) .skip)))) (.reg [Zm 10 5,Zd 11 .add 10 1,Zm 5 11] [])))
def A32R2:ACode:=(.seq (.reg [Zm 20 1,Zm 4 20] []) .ret)
def A32:ACode:=(.seq (.reg [Zn 4 0] []) (.seqa (.reg [Zn 5 0] []) (.blk 0 (.loop A32L1)) [1] [] A32R2))
def V32:List RV:=[.t 4]
theorem m32:mtcF Try.prog 32 2 A32 V32=true:=by kernel_rfl
def A8R1:ACode:=(.cond (Zt 40) (.seq (.reg [Zo 2 (.mv (.c (.b false)))] []) .ret) .skip)
def A8R2:ACode:=(.cond (Zt 61) (.seq (.reg [Zo 2 (.mv (.c (.b false)))] []) .ret) .skip)
def A8R3:ACode:=(.cond (Zt 87) (.seq (.reg [Zo 2 (.mv (.c (.b false)))] []) .ret) .skip)
def A8:ACode:=(.seq (.reg [Zo 1 (.box 2 (Zt 0)),Zo 2 (.mv (.c (.b false)))] []) (.seq (.reg [Zn 3 1048576] []) (.seq (.reg [Zo 14 (.load 2 true (Zt 1)),Zm 15 3,Zo 16 (.call 10 [(Zt 14),(Zt 15)]),Zm 3 16] []) (.seq (.seq (.reg [Zm 17 3,Zd 18 .lss 17 0] []) (.cond (Zt 18) (.seq (.reg [Zo 2 (.mv (.c (.b true)))] []) .ret) .skip)) (.seqb (.reg [Zo 20 (.load 2 true (Zt 1)),Zo 21 (.call 12 [(Zt 20)]),Zo 22 (.callM 28 [(Zt 21)] [21,1021]),Zm 19 22,Ze 23 19 0,Ze 24 19 1,Zm 4 23,Zm 5 24] [.s 4]) [1,4,5] (.seq (.reg [Zo 25 (.load 2 true (Zt 1)),Zo 26 (.call 12 [(Zt 25)]),Zo 6 (.alloc (.agg [.lst .u 1 [],.lst .u 4 []])),⟨none,.store 2 (Zt 6) (Zt 26),none⟩] []) (.seq (.reg [Zo 28 (.load 2 true (Zt 6)),Zo 29 (.call 29 [(Zt 28)]),Zm 27 29,Ze 30 27 0,Ze 31 27 1,Zm 7 30,Zm 8 31] [.s 7]) (.seq (.seqr (.reg [Zm 32 7,Zm 33 4,Zo 34 (.call 30 [(Zt 32),(Zt 33)]),Zo 35 (.un .not (Zt 34)),Zm 36 35,⟨(some 37),.mv (Zt 8),(some (36,false))⟩,⟨(some 38),.mv (Zt 5),(some (36,false))⟩,⟨(some 39),.beq true (Zt 37) (Zt 38),(some (36,false))⟩,Zo 40 (.pick (Zt 36) (.c (.b true)) (Zt 39))] []) [1,4,5,6,7,8,40] [6,7,26,1026] A8R1) (.seq (.seq (.drw [Zo 41 (.load 2 true (Zt 6)),Zo 42 (.load 2 true (Zt 1)),Zo 43 (.call 12 [(Zt 42)]),Zo 44 (.call 15 [(Zt 41),(Zt 43)]),Zo 45 (.un .not (Zt 44))] []) (.cond (Zt 45) (.seq (.reg [Zo 2 (.mv (.c (.b false)))] []) .ret) .skip)) (.seq (.reg [Zn 9 1] []) (.seq (.reg [Zo 46 (.load 2 true (Zt 6)),Zm 47 9,Zo 48 (.callM 19 [(Zt 46),(Zt 47)] [26,1026]),Zm 9 48] []) (.seq (.seqr (.reg [Zm 49 9,Zd 50 .lss 49 0,Zm 51 50,⟨(some 52),.mv (Zt 7),(some (51,false))⟩,⟨(some 53),.mv (Zt 4),(some (51,false))⟩,⟨(some 54),.call 30 [(Zt 52),(Zt 53)],(some (51,false))⟩,⟨(some 55),.un .not (Zt 54),(some (51,false))⟩,Zo 56 (.pick (Zt 51) (.c (.b true)) (Zt 55)),Zm 57 56,⟨(some 58),.mv (Zt 8),(some (57,false))⟩,⟨(some 59),.mv (Zt 5),(some (57,false))⟩,⟨(some 60),.beq true (Zt 58) (Zt 59),(some (57,false))⟩,Zo 61 (.pick (Zt 57) (.c (.b true)) (Zt 60))] []) [1,4,5,7,61] [7] A8R2) (.seq (.reg [Zn 10 1] []) (.seq (.regh [Zm 62 7,Zm 63 10] (.har 64 31 [(Zt 62),(Zt 63)] [7]) [Zm 10 64] []) (.seq (.reg [Zn 11 1] []) (.seq (.reg [Zm 65 7,Zm 66 11,Zo 67 (.call 32 [(Zt 65),(Zt 66)]),Zm 11 67] []) (.seq (.seq (.reg [Zm 68 11,Zd 69 .lss 68 0] []) (.cond (Zt 69) (.seq (.reg [Zo 2 (.mv (.c (.b false)))] []) .ret) .skip)) (.seq (.seq (.reg [Zm 70 11,Zm 71 10,Zb 72 .neq 70 71] []) (.cond (Zt 72) (.seq (.reg [Zo 2 (.mv (.c (.b false)))] []) .ret) .skip)) (.seq (.reg [Zo 74 (.load 2 true (Zt 1)),Zo 75 (.call 12 [(Zt 74)]),Zo 76 (.call 29 [(Zt 75)]),Zm 73 76,Ze 77 73 0,Ze 78 73 1,Zm 12 77,Zm 13 78] [.s 12]) (.seq (.seqr (.reg [Zm 79 12,Zm 80 4,Zo 81 (.call 30 [(Zt 79),(Zt 80)]),Zo 82 (.un .not (Zt 81)),Zm 83 82,⟨(some 84),.mv (Zt 13),(some (83,false))⟩,⟨(some 85),.mv (Zt 5),(some (83,false))⟩,⟨(some 86),.beq true (Zt 84) (Zt 85),(some (83,false))⟩,Zo 87 (.pick (Zt 83) (.c (.b true)) (Zt 86))] []) [7,10,87] [7] A8R3) (.seq (.reg [Zn 11 1] []) (.seq (.reg [Zm 88 7,Zm 89 11,Zo 90 (.call 32 [(Zt 88),(Zt 89)]),Zm 11 90] []) (.seq (.seq (.reg [Zm 91 11,Zd 92 .lss 91 0] []) (.cond (Zt 92) (.seq (.reg [Zo 2 (.mv (.c (.b false)))] []) .ret) .skip)) (.seq (.seq (.reg [Zm 93 11,Zm 94 10,Zb 95 .neq 93 94] []) (.cond (Zt 95) (.seq (.reg [Zo 2 (.mv (.c (.b false)))] []) .ret) .skip)) (.seq (.reg [Zo 2 (.mv (.c (.b true)))] []) .ret)))))))))))))))))))))))))
def V8:List RV:=[.t 2]
theorem m8:mtcF Try.prog 8 1 A8 V8=true:=by kernel_rfl
end Vs

