/-
  Part of the proof that the law FnBridges returns true at every input; no condition beside the row's own.
-/
import Derived.Test.YteilpiddonoikaaGreatVe
import Derived.Test.YteilpiddonoikaaGreatChecked
import Derived.KernelRfl
import Derived.Shelf.SlSortCmp.NoneTotal
set_option linter.defProp false
set_option linter.unusedSimpArgs false
set_option linter.unusedVariables false
namespace Vs
open Go
structure TFiber where
 A:Int
 B:Int
 Length:Int
 Risk:Int
 deriving DecidableEq
def e_TFiber (f:Fl) (x:TFiber):AV:=.agg [.i x.A,.i x.B,.i x.Length,.i x.Risk]
theorem e_TFiber_nrm (f:Fl) (x:TFiber):(e_TFiber f x).nrm=e_TFiber .o x:=by simp [e_TFiber,nrm_sc,nrm_lst,nrm_agg,nrm_sc]
theorem e_TFiber_nrmm (f:Fl) (xs:List TFiber):(xs.map (e_TFiber f)).map AV.nrm=xs.map (e_TFiber .o):=by simp [e_TFiber_nrm]
theorem e_TFiber_als (f:Fl) (x:TFiber):(e_TFiber f x).als=e_TFiber f.als x:=by simp [e_TFiber,als_sc,als_lst,als_agg,nrm_sc]
theorem e_TFiber_alsm (f:Fl) (xs:List TFiber):(xs.map (e_TFiber f)).map AV.als=xs.map (e_TFiber f.als):=by simp [e_TFiber_als]
theorem e_TFiber_alsc (f:Fl):AV.als ∘ e_TFiber f=e_TFiber f.als:=by funext x; simp [e_TFiber_als]
theorem e_TFiber_fix (f:Fl) (x:TFiber):(e_TFiber f x).fix=e_TFiber f.fix x:=by simp [e_TFiber,fix_sc,fix_lst,fix_agg,nrm_sc]
theorem e_TFiber_fixm (f:Fl) (xs:List TFiber):(xs.map (e_TFiber f)).map AV.fix=xs.map (e_TFiber f.fix):=by simp [e_TFiber_fix]
theorem e_TFiber_fz (x:TFiber):(e_TFiber .o x).fz=true:=by simp [e_TFiber,AV.i,AV.b,AV.z,fz_sc,fz_lsto,fz_agg,fzL_nil,fzL_cons,fzL_mi,fzL_mb,fzL_mz,fzL_m8,fzL_m64,ouL_m8,ouL_m64,ou_sc,ou_lstu,ou_agg,ouL_nil,ouL_cons,ouL_mi,ouL_mb,ouL_mz]
theorem e_TFiber_fzm (xs:List TFiber):fzL (xs.map (e_TFiber .o))=true:=fzL_of e_TFiber_fz xs
theorem e_TFiber_ou (x:TFiber):(e_TFiber .u x).ouB=true:=by simp [e_TFiber,AV.i,AV.b,AV.z,fz_sc,fz_lsto,fz_agg,fzL_nil,fzL_cons,fzL_mi,fzL_mb,fzL_mz,fzL_m8,fzL_m64,ouL_m8,ouL_m64,ou_sc,ou_lstu,ou_agg,ouL_nil,ouL_cons,ouL_mi,ouL_mb,ouL_mz]
theorem e_TFiber_oum (xs:List TFiber):ouBL (xs.map (e_TFiber .u))=true:=ouL_of e_TFiber_ou xs
structure TNetwork where
 Nodes:List ByteArray
 Fibers:List TFiber
def e_TNetwork (f:Fl) (x:TNetwork):AV:=.agg [.lst f 1 (x.Nodes.map AV.z),.lst f 4 (x.Fibers.map (e_TFiber f))]
theorem e_TNetwork_nrm (f:Fl) (x:TNetwork):(e_TNetwork f x).nrm=e_TNetwork .o x:=by simp [e_TNetwork,nrm_sc,nrm_lst,nrm_agg,e_TFiber_nrm,map_nrm_i,map_nrm_z]
theorem e_TNetwork_nrmm (f:Fl) (xs:List TNetwork):(xs.map (e_TNetwork f)).map AV.nrm=xs.map (e_TNetwork .o):=by simp [e_TNetwork_nrm]
theorem e_TNetwork_als (f:Fl) (x:TNetwork):(e_TNetwork f x).als=e_TNetwork f.als x:=by simp [e_TNetwork,als_sc,als_lst,als_agg,e_TFiber_als,map_als_i,map_als_z]
theorem e_TNetwork_alsm (f:Fl) (xs:List TNetwork):(xs.map (e_TNetwork f)).map AV.als=xs.map (e_TNetwork f.als):=by simp [e_TNetwork_als]
theorem e_TNetwork_alsc (f:Fl):AV.als ∘ e_TNetwork f=e_TNetwork f.als:=by funext x; simp [e_TNetwork_als]
theorem e_TNetwork_fix (f:Fl) (x:TNetwork):(e_TNetwork f x).fix=e_TNetwork f.fix x:=by simp [e_TNetwork,fix_sc,fix_lst,fix_agg,e_TFiber_fix,map_fix_i,map_fix_z]
theorem e_TNetwork_fixm (f:Fl) (xs:List TNetwork):(xs.map (e_TNetwork f)).map AV.fix=xs.map (e_TNetwork f.fix):=by simp [e_TNetwork_fix]
theorem e_TNetwork_fz (x:TNetwork):(e_TNetwork .o x).fz=true:=by simp [e_TNetwork,AV.i,AV.b,AV.z,fz_sc,fz_lsto,fz_agg,fzL_nil,fzL_cons,fzL_mi,fzL_mb,fzL_mz,fzL_m8,fzL_m64,ouL_m8,ouL_m64,ou_sc,ou_lstu,ou_agg,ouL_nil,ouL_cons,ouL_mi,ouL_mb,ouL_mz,e_TFiber_fzm,e_TFiber_oum]
theorem e_TNetwork_fzm (xs:List TNetwork):fzL (xs.map (e_TNetwork .o))=true:=fzL_of e_TNetwork_fz xs
theorem e_TNetwork_ou (x:TNetwork):(e_TNetwork .u x).ouB=true:=by simp [e_TNetwork,AV.i,AV.b,AV.z,fz_sc,fz_lsto,fz_agg,fzL_nil,fzL_cons,fzL_mi,fzL_mb,fzL_mz,fzL_m8,fzL_m64,ouL_m8,ouL_m64,ou_sc,ou_lstu,ou_agg,ouL_nil,ouL_cons,ouL_mi,ouL_mb,ouL_mz,e_TFiber_fzm,e_TFiber_oum]
theorem e_TNetwork_oum (xs:List TNetwork):ouBL (xs.map (e_TNetwork .u))=true:=ouL_of e_TNetwork_ou xs
structure Tl1Cur where
 code:List Int
 atF:Int
 seed:Int
 deriving DecidableEq
def e_Tl1Cur (f:Fl) (x:Tl1Cur):AV:=.agg [.lst f 1 (x.code.map AV.u8),.i x.atF,.sc (.int .u64 x.seed)]
theorem e_Tl1Cur_nrm (f:Fl) (x:Tl1Cur):(e_Tl1Cur f x).nrm=e_Tl1Cur .o x:=by simp [e_Tl1Cur,nrm_sc,nrm_lst,nrm_agg,map_nrm_i]
theorem e_Tl1Cur_nrmm (f:Fl) (xs:List Tl1Cur):(xs.map (e_Tl1Cur f)).map AV.nrm=xs.map (e_Tl1Cur .o):=by simp [e_Tl1Cur_nrm]
theorem e_Tl1Cur_als (f:Fl) (x:Tl1Cur):(e_Tl1Cur f x).als=e_Tl1Cur f.als x:=by simp [e_Tl1Cur,als_sc,als_lst,als_agg,map_als_i]
theorem e_Tl1Cur_alsm (f:Fl) (xs:List Tl1Cur):(xs.map (e_Tl1Cur f)).map AV.als=xs.map (e_Tl1Cur f.als):=by simp [e_Tl1Cur_als]
theorem e_Tl1Cur_alsc (f:Fl):AV.als ∘ e_Tl1Cur f=e_Tl1Cur f.als:=by funext x; simp [e_Tl1Cur_als]
theorem e_Tl1Cur_fix (f:Fl) (x:Tl1Cur):(e_Tl1Cur f x).fix=e_Tl1Cur f.fix x:=by simp [e_Tl1Cur,fix_sc,fix_lst,fix_agg,map_fix_i]
theorem e_Tl1Cur_fixm (f:Fl) (xs:List Tl1Cur):(xs.map (e_Tl1Cur f)).map AV.fix=xs.map (e_Tl1Cur f.fix):=by simp [e_Tl1Cur_fix]
theorem e_Tl1Cur_fz (x:Tl1Cur):(e_Tl1Cur .o x).fz=true:=by simp [e_Tl1Cur,AV.i,AV.b,AV.z,fz_sc,fz_lsto,fz_agg,fzL_nil,fzL_cons,fzL_mi,fzL_mb,fzL_mz,fzL_m8,fzL_m64,ouL_m8,ouL_m64,ou_sc,ou_lstu,ou_agg,ouL_nil,ouL_cons,ouL_mi,ouL_mb,ouL_mz]
theorem e_Tl1Cur_fzm (xs:List Tl1Cur):fzL (xs.map (e_Tl1Cur .o))=true:=fzL_of e_Tl1Cur_fz xs
theorem e_Tl1Cur_ou (x:Tl1Cur):(e_Tl1Cur .u x).ouB=true:=by simp [e_Tl1Cur,AV.i,AV.b,AV.z,fz_sc,fz_lsto,fz_agg,fzL_nil,fzL_cons,fzL_mi,fzL_mb,fzL_mz,fzL_m8,fzL_m64,ouL_m8,ouL_m64,ou_sc,ou_lstu,ou_agg,ouL_nil,ouL_cons,ouL_mi,ouL_mb,ouL_mz]
theorem e_Tl1Cur_oum (xs:List Tl1Cur):ouBL (xs.map (e_Tl1Cur .u))=true:=ouL_of e_Tl1Cur_ou xs
def e_Li (f:Fl) (xs:List Int):AV:=.lst f 1 (xs.map AV.i)
theorem e_Li_nrm (f:Fl) (x:List Int):(e_Li f x).nrm=e_Li .o x:=by simp [e_Li,nrm_sc,nrm_lst,nrm_agg,map_nrm_i]
theorem e_Li_nrmm (f:Fl) (xs:List (List Int)):(xs.map (e_Li f)).map AV.nrm=xs.map (e_Li .o):=by simp [e_Li_nrm]
theorem e_Li_als (f:Fl) (x:List Int):(e_Li f x).als=e_Li f.als x:=by simp [e_Li,als_sc,als_lst,als_agg,map_als_i]
theorem e_Li_alsm (f:Fl) (xs:List (List Int)):(xs.map (e_Li f)).map AV.als=xs.map (e_Li f.als):=by simp [e_Li_als]
theorem e_Li_alsc (f:Fl):AV.als ∘ e_Li f=e_Li f.als:=by funext x; simp [e_Li_als]
theorem e_Li_fix (f:Fl) (x:List Int):(e_Li f x).fix=e_Li f.fix x:=by simp [e_Li,fix_sc,fix_lst,fix_agg,map_fix_i]
theorem e_Li_fixm (f:Fl) (xs:List (List Int)):(xs.map (e_Li f)).map AV.fix=xs.map (e_Li f.fix):=by simp [e_Li_fix]
theorem e_Li_fz (x:List Int):(e_Li .o x).fz=true:=by simp [e_Li,AV.i,AV.b,AV.z,fz_sc,fz_lsto,fz_agg,fzL_nil,fzL_cons,fzL_mi,fzL_mb,fzL_mz,fzL_m8,fzL_m64,ouL_m8,ouL_m64,ou_sc,ou_lstu,ou_agg,ouL_nil,ouL_cons,ouL_mi,ouL_mb,ouL_mz]
theorem e_Li_fzm (xs:List (List Int)):fzL (xs.map (e_Li .o))=true:=fzL_of e_Li_fz xs
theorem e_Li_ou (x:List Int):(e_Li .u x).ouB=true:=by simp [e_Li,AV.i,AV.b,AV.z,fz_sc,fz_lsto,fz_agg,fzL_nil,fzL_cons,fzL_mi,fzL_mb,fzL_mz,fzL_m8,fzL_m64,ouL_m8,ouL_m64,ou_sc,ou_lstu,ou_agg,ouL_nil,ouL_cons,ouL_mi,ouL_mb,ouL_mz]
theorem e_Li_oum (xs:List (List Int)):ouBL (xs.map (e_Li .u))=true:=ouL_of e_Li_ou xs
structure Tl17Search where
 n:TNetwork
 list:List (List Int)
def e_Tl17Search (f:Fl) (x:Tl17Search):AV:=.agg [.lst f 1 (x.n.Nodes.map AV.z),.lst f 4 (x.n.Fibers.map (e_TFiber f)),.lst f 1 (x.list.map (e_Li f))]
theorem e_Tl17Search_nrm (f:Fl) (x:Tl17Search):(e_Tl17Search f x).nrm=e_Tl17Search .o x:=by simp [e_Tl17Search,nrm_sc,nrm_lst,nrm_agg,e_Li_nrm,e_TFiber_nrm,map_nrm_i,map_nrm_z]
theorem e_Tl17Search_nrmm (f:Fl) (xs:List Tl17Search):(xs.map (e_Tl17Search f)).map AV.nrm=xs.map (e_Tl17Search .o):=by simp [e_Tl17Search_nrm]
theorem e_Tl17Search_als (f:Fl) (x:Tl17Search):(e_Tl17Search f x).als=e_Tl17Search f.als x:=by simp [e_Tl17Search,als_sc,als_lst,als_agg,e_Li_als,e_TFiber_als,map_als_i,map_als_z]
theorem e_Tl17Search_alsm (f:Fl) (xs:List Tl17Search):(xs.map (e_Tl17Search f)).map AV.als=xs.map (e_Tl17Search f.als):=by simp [e_Tl17Search_als]
theorem e_Tl17Search_alsc (f:Fl):AV.als ∘ e_Tl17Search f=e_Tl17Search f.als:=by funext x; simp [e_Tl17Search_als]
theorem e_Tl17Search_fix (f:Fl) (x:Tl17Search):(e_Tl17Search f x).fix=e_Tl17Search f.fix x:=by simp [e_Tl17Search,fix_sc,fix_lst,fix_agg,e_Li_fix,e_TFiber_fix,map_fix_i,map_fix_z]
theorem e_Tl17Search_fixm (f:Fl) (xs:List Tl17Search):(xs.map (e_Tl17Search f)).map AV.fix=xs.map (e_Tl17Search f.fix):=by simp [e_Tl17Search_fix]
theorem e_Tl17Search_fz (x:Tl17Search):(e_Tl17Search .o x).fz=true:=by simp [e_Tl17Search,AV.i,AV.b,AV.z,fz_sc,fz_lsto,fz_agg,fzL_nil,fzL_cons,fzL_mi,fzL_mb,fzL_mz,fzL_m8,fzL_m64,ouL_m8,ouL_m64,ou_sc,ou_lstu,ou_agg,ouL_nil,ouL_cons,ouL_mi,ouL_mb,ouL_mz,e_TFiber_fzm,e_TFiber_oum,e_Li_fzm,e_Li_oum]
theorem e_Tl17Search_fzm (xs:List Tl17Search):fzL (xs.map (e_Tl17Search .o))=true:=fzL_of e_Tl17Search_fz xs
theorem e_Tl17Search_ou (x:Tl17Search):(e_Tl17Search .u x).ouB=true:=by simp [e_Tl17Search,AV.i,AV.b,AV.z,fz_sc,fz_lsto,fz_agg,fzL_nil,fzL_cons,fzL_mi,fzL_mb,fzL_mz,fzL_m8,fzL_m64,ouL_m8,ouL_m64,ou_sc,ou_lstu,ou_agg,ouL_nil,ouL_cons,ouL_mi,ouL_mb,ouL_mz,e_TFiber_fzm,e_TFiber_oum,e_Li_fzm,e_Li_oum]
theorem e_Tl17Search_oum (xs:List Tl17Search):ouBL (xs.map (e_Tl17Search .u))=true:=ouL_of e_Tl17Search_ou xs
def M_ek (codeZ0:List Int):Option Bool :=
 some (decide (65536 < (codeZ0.length:Int)))
def M_cf (aaZ0:Tl1Cur):Option (Int×Tl1Cur) :=
 (cond (decide (((aaZ0).atF) < (((aaZ0).code).length:Int))) ((geti ((aaZ0).code) ((aaZ0).atF)).bind fun yZ2=>some (IntKind.wrap .i64 yZ2)) (some 0):Option Int).bind fun oZ3=>cond (decide ((IntKind.wrap .i64 (((aaZ0).atF)+1))≤(((aaZ0).code).length:Int))) (some (oZ3,(⟨(aaZ0).code,IntKind.wrap .i64 (((aaZ0).atF)+1),IntKind.wrap .u64 ((IntKind.wrap .u64 ((IntKind.wrap .u64 (((aaZ0).seed) * 6364136223846793005))+(IntKind.wrap .u64 oZ3)))+897897)⟩:Tl1Cur))) (some (IntKind.wrap .i64 (bits .and .u64 (Int.fdiv (IntKind.wrap .u64 ((IntKind.wrap .u64 ((IntKind.wrap .u64 (((aaZ0).seed) * 6364136223846793005))+(IntKind.wrap .u64 oZ3)))+897897)) (2 ^ (min (Int.toNat 40) (IntKind.bits .u64)))) 255),(⟨(aaZ0).code,IntKind.wrap .i64 (((aaZ0).atF)+1),IntKind.wrap .u64 ((IntKind.wrap .u64 ((IntKind.wrap .u64 (((aaZ0).seed) * 6364136223846793005))+(IntKind.wrap .u64 oZ3)))+897897)⟩:Tl1Cur)))
def M_a (aaZ0:Int) (abZ0:Tl1Cur):Option (Int×Tl1Cur) :=
 cond (decide (aaZ0≤1)) (some (0,abZ0)) ((M_cf abZ0).bind fun rZ2=>cond (decide (200 < aaZ0)) ((M_cf rZ2.2).bind fun rZ4=>(grd (aaZ0 ≠ 0)).bind fun uZ5=>some (Int.tmod (IntKind.wrap .i64 ((IntKind.wrap .i64 (rZ2.1 * 256))+rZ4.1)) aaZ0,rZ4.2)) ((grd (aaZ0 ≠ 0)).bind fun uZ6=>some (Int.tmod rZ2.1 aaZ0,rZ2.2)))
def M_ct (aaZ0:Int) (abZ0:Tl1Cur):Option (Bool×Tl1Cur) :=
 (M_a aaZ0 abZ0).bind fun rZ1=>some (rZ1.1==0,rZ1.2)
def M_bq (aZ0:Int) (bZ0:Int):Option Int :=
 cond (decide (aZ0 < bZ0)) (some aZ0) (some bZ0)
def M_cg (aZ0:Int) (bZ0:Int):Option Int :=
 cond (decide (bZ0 < aZ0)) (some aZ0) (some bZ0)
def M_br (aaZ0:Tl1Cur) (abZ0:List Int):Option (Int×Tl1Cur×List Int) :=
 (M_a (abZ0.length:Int) aaZ0).bind fun rZ1=>(grd (0≤rZ1.1∧rZ1.1 < (abZ0.length:Int))).bind fun kZ2=>(abZ0[(Int.toNat rZ1.1)]?).bind fun yZ3=>some (yZ3,rZ1.2,abZ0)
def M_bx (fZ0:TFiber) (gZ0:TFiber):Option Int :=
 cond (fZ0.A != gZ0.A) (some (IntKind.wrap .i64 (fZ0.A - gZ0.A))) (cond (fZ0.B != gZ0.B) (some (IntKind.wrap .i64 (fZ0.B - gZ0.B))) (cond (fZ0.Length != gZ0.Length) (some (IntKind.wrap .i64 (fZ0.Length - gZ0.Length))) (some (IntKind.wrap .i64 (fZ0.Risk - gZ0.Risk)))))
def M_s (listZ0:List TFiber) (fZ0:TFiber) (sZ1:Int):Option (Int ⊕ Int) :=
 cond (decide (sZ1 < (listZ0.length:Int))) ((geti listZ0 sZ1).bind fun yZ3=>(M_bx yZ3 fZ0).bind fun rZ4=>cond (decide (rZ4≤0)) (some (.inl (IntKind.wrap .i64 (sZ1+1)))) (some (.inr sZ1))) (some (.inr sZ1))
def M_ch (listZ0:List TFiber) (fZ0:TFiber):Option (List TFiber) :=
 (iter (M_s listZ0 fZ0) N0 0).bind fun oZ6=>(slT listZ0 oZ6).bind fun lZ7=>(grd (lZ7.length * 32≤140737488355328)).bind fun uZ8=>bnd ([fZ0]) fun lZ9=>(grd ((lZ7.length+1) * 32≤140737488355328)).bind fun uZ12=>bnd (lZ7++lZ9) fun lZ13=>(slF listZ0 oZ6).bind fun lZ16=>(grd ((lZ13.length+lZ16.length) * 32≤140737488355328)).bind fun uZ17=>bnd (lZ13++lZ16) fun lZ18=>some lZ18
def M_k (rZ1:Int×Tl1Cur) (sZ6:Int×List TFiber×Tl1Cur):Option ((Int×List TFiber×Tl1Cur) ⊕ (List TFiber×Tl1Cur)) :=
 cond (decide (sZ6.1 < (IntKind.wrap .i64 (2+rZ1.1)))) ((grd ((IntKind.wrap .i64 (2+rZ1.1)) ≠ 0)).bind fun uZ8=>(cond (sZ6.1==(Int.tmod (IntKind.wrap .i64 (sZ6.1+1)) (IntKind.wrap .i64 (2+rZ1.1)))) (some (true,sZ6.2.2)) ((M_ct 10 sZ6.2.2).bind fun rZ10=>some (rZ10.1,rZ10.2)):Option (Bool×Tl1Cur)).bind fun oZ11=>cond (oZ11.1) (some (.inl (IntKind.wrap .i64 (sZ6.1+1),sZ6.2.1,oZ11.2))) ((M_bq sZ6.1 (Int.tmod (IntKind.wrap .i64 (sZ6.1+1)) (IntKind.wrap .i64 (2+rZ1.1)))).bind fun rZ13=>(M_cg sZ6.1 (Int.tmod (IntKind.wrap .i64 (sZ6.1+1)) (IntKind.wrap .i64 (2+rZ1.1)))).bind fun rZ14=>(M_a 8 oZ11.2).bind fun rZ15=>bnd ([0,0,0,1,2]) fun lZ16=>(M_br rZ15.2 lZ16).bind fun rZ19=>(M_ch sZ6.2.1 (⟨rZ13,rZ14,IntKind.wrap .i64 (100 * (IntKind.wrap .i64 (1+rZ15.1))),rZ19.1⟩:TFiber)).bind fun rZ20=>some (.inl (IntKind.wrap .i64 (sZ6.1+1),rZ20,rZ19.2.1)))) (some (.inr (sZ6.2.1,sZ6.2.2)))
def M_l (rZ1:Int×Tl1Cur) (sZ23:Int×List TFiber×Tl1Cur):Option ((Int×List TFiber×Tl1Cur) ⊕ (List TFiber×Tl1Cur)) :=
 cond (decide (0 < sZ23.1)) ((M_a (IntKind.wrap .i64 (2+rZ1.1)) sZ23.2.2).bind fun rZ25=>(M_a (IntKind.wrap .i64 (2+rZ1.1)) rZ25.2).bind fun rZ26=>cond (rZ25.1 != rZ26.1) ((M_bq rZ25.1 rZ26.1).bind fun rZ28=>(M_cg rZ25.1 rZ26.1).bind fun rZ29=>(M_a 8 rZ26.2).bind fun rZ30=>bnd ([0,0,0,1,2]) fun lZ31=>(M_br rZ30.2 lZ31).bind fun rZ34=>(M_ch sZ23.2.1 (⟨rZ28,rZ29,IntKind.wrap .i64 (100 * (IntKind.wrap .i64 (1+rZ30.1))),rZ34.1⟩:TFiber)).bind fun rZ35=>some (.inl (IntKind.wrap .i64 (sZ23.1 - 1),rZ35,rZ34.2.1))) (some (.inl (IntKind.wrap .i64 (sZ23.1 - 1),sZ23.2.1,rZ26.2)))) (some (.inr (sZ23.2.1,sZ23.2.2)))
def M_da (aaZ0:Tl1Cur):Option (Nat×Nat×List ByteArray×List TFiber×Tl1Cur) :=
 (M_a 5 aaZ0).bind fun rZ1=>bnd ([(⟨#[97]⟩:ByteArray),(⟨#[98]⟩:ByteArray),(⟨#[99]⟩:ByteArray),(⟨#[100]⟩:ByteArray),(⟨#[101]⟩:ByteArray),(⟨#[102]⟩:ByteArray)]) fun lZ2=>(grd (True∧0≤(IntKind.wrap .i64 (2+rZ1.1))∧True∧Int.toNat (IntKind.wrap .i64 (2+rZ1.1))≤6)).bind fun uZ5=>(iter (M_k rZ1) N0 (0,[],rZ1.2)).bind fun oZ21=>(M_a 4 oZ21.2).bind fun rZ22=>(iter (M_l rZ1) N0 (rZ22.1,oZ21.1,rZ22.2)).bind fun oZ36=>some (0,(Int.toNat (IntKind.wrap .i64 (2+rZ1.1))),lZ2,oZ36.1,oZ36.2)
def M_db (aaZ0:Tl1Cur) (abZ0:List ByteArray):Option (ByteArray×Tl1Cur×List ByteArray) :=
 (M_a (abZ0.length:Int) aaZ0).bind fun rZ1=>(grd (0≤rZ1.1∧rZ1.1 < (abZ0.length:Int))).bind fun kZ2=>(abZ0[(Int.toNat rZ1.1)]?).bind fun yZ3=>some (yZ3,rZ1.2,abZ0)
def M_ar (sZ41:List TFiber×Tl1Cur):Option ((List TFiber×Tl1Cur) ⊕ (List TFiber×Tl1Cur)) :=
 (M_a 2 sZ41.2).bind fun rZ42=>cond (decide ((sZ41.1.length:Int) < (IntKind.wrap .i64 (14+rZ42.1)))) ((grd (0≤(IntKind.wrap .i64 ((sZ41.1.length:Int) - 1))∧(IntKind.wrap .i64 ((sZ41.1.length:Int) - 1)) < (sZ41.1.length:Int))).bind fun kZ44=>(sZ41.1[(Int.toNat (IntKind.wrap .i64 ((sZ41.1.length:Int) - 1)))]?).bind fun yZ45=>bnd ([yZ45]) fun lZ46=>(grd ((sZ41.1.length+1) * 32≤140737488355328)).bind fun uZ49=>bnd (sZ41.1++lZ46) fun lZ50=>some (.inl (lZ50,rZ42.2))) (some (.inr (sZ41.1,rZ42.2)))
def M_dc (aaZ0:Tl1Cur):Option (Nat×Nat×List ByteArray×List TFiber×Tl1Cur) :=
 (M_da aaZ0).bind fun rZ1=>cond ((rZ1.2.2.2.1.length:Int)==0) (some (rZ1.1,rZ1.2.1,rZ1.2.2.1,rZ1.2.2.2.1,rZ1.2.2.2.2)) ((M_a (rZ1.2.2.2.1.length:Int) rZ1.2.2.2.2).bind fun rZ3=>(grd (0≤rZ3.1∧rZ3.1 < (rZ1.2.2.2.1.length:Int))).bind fun kZ4=>(rZ1.2.2.2.1[(Int.toNat rZ3.1)]?).bind fun yZ5=>((M_a 24 rZ3.2).bind fun rZ6=>cond (rZ6.1==0) (bnd ([(⟨#[98]⟩:ByteArray),(⟨#[]⟩:ByteArray),(⟨#[65]⟩:ByteArray),(⟨#[97,98,99,100,101,102,103,104]⟩:ByteArray),(⟨#[97,98,99,100,101,102,103,104,105]⟩:ByteArray),(⟨#[120,49]⟩:ByteArray)]) fun lZ8=>(M_db rZ6.2 lZ8).bind fun rZ11=>(grd (0≤0∧0 < (rZ1.2.1:Int))).bind fun kZ12=>(rZ1.2.2.1[(rZ1.1+(Int.toNat 0))]?).bind fun yZ13=>bnd (rZ1.2.2.1.set (rZ1.1+(Int.toNat 0)) rZ11.1) fun lZ14=>some (.inl (rZ1.1,rZ1.2.1,yZ5,lZ14,rZ1.2.2.2.1,rZ11.2.1))) (cond (rZ6.1==1) ((M_a 8 rZ6.2).bind fun rZ17=>some (.inl (rZ1.1,rZ1.2.1,(⟨IntKind.wrap .i64 (rZ17.1 - 1),yZ5.B,yZ5.Length,yZ5.Risk⟩:TFiber),rZ1.2.2.1,rZ1.2.2.2.1,rZ17.2))) (cond (rZ6.1==2) ((M_a 10 rZ6.2).bind fun rZ19=>some (.inl (rZ1.1,rZ1.2.1,(⟨yZ5.A,IntKind.wrap .i64 (rZ19.1 - 1),yZ5.Length,yZ5.Risk⟩:TFiber),rZ1.2.2.1,rZ1.2.2.2.1,rZ19.2))) (cond (rZ6.1==3) (bnd ([0,1,5000,5001]) fun lZ21=>(M_br rZ6.2 lZ21).bind fun rZ24=>some (.inl (rZ1.1,rZ1.2.1,(⟨yZ5.A,yZ5.B,rZ24.1,yZ5.Risk⟩:TFiber),rZ1.2.2.1,rZ1.2.2.2.1,rZ24.2.1))) (cond (rZ6.1==4) (bnd ([(-1),9,10]) fun lZ26=>(M_br rZ6.2 lZ26).bind fun rZ29=>some (.inl (rZ1.1,rZ1.2.1,(⟨yZ5.A,yZ5.B,yZ5.Length,rZ29.1⟩:TFiber),rZ1.2.2.1,rZ1.2.2.2.1,rZ29.2.1))) (cond (rZ6.1==5) ((grd (0≤0∧0 < (rZ1.2.2.2.1.length:Int))).bind fun kZ31=>(rZ1.2.2.2.1[(Int.toNat 0)]?).bind fun yZ32=>bnd ([yZ32]) fun lZ33=>(grd ((rZ1.2.2.2.1.length+1) * 32≤140737488355328)).bind fun uZ36=>bnd (rZ1.2.2.2.1++lZ33) fun lZ37=>some (.inl (rZ1.1,rZ1.2.1,yZ5,rZ1.2.2.1,lZ37,rZ6.2))) (cond (rZ6.1==6) ((iter (M_ar) N0 (rZ1.2.2.2.1,rZ6.2)).bind fun oZ53=>some (.inr (rZ1.1,rZ1.2.1,rZ1.2.2.1,oZ53.1,oZ53.2))) (cond (rZ6.1==7) (bnd ([(⟨#[112]⟩:ByteArray),(⟨#[113]⟩:ByteArray),(⟨#[114]⟩:ByteArray),(⟨#[115]⟩:ByteArray)]) fun lZ55=>bnd (subT rZ1.2.2.1 rZ1.1 rZ1.2.1) fun lZ58=>(grd ((rZ1.2.1+4) * 16≤140737488355328)).bind fun uZ60=>bnd (lZ58++lZ55) fun lZ61=>some (.inl (0,(rZ1.2.1+4),yZ5,lZ61,rZ1.2.2.2.1,rZ6.2))) (some (.inl (rZ1.1,rZ1.2.1,yZ5,rZ1.2.2.1,rZ1.2.2.2.1,rZ6.2)))))))))):Option ((Nat×Nat×TFiber×List ByteArray×List TFiber×Tl1Cur) ⊕ (Nat×Nat×List ByteArray×List TFiber×Tl1Cur))).bind fun oZ63=>(match oZ63 with | .inl vZ64=>(grd (0≤rZ3.1∧rZ3.1 < (vZ64.2.2.2.2.1.length:Int))).bind fun kZ66=>(vZ64.2.2.2.2.1[(Int.toNat rZ3.1)]?).bind fun yZ67=>bnd (vZ64.2.2.2.2.1.set (Int.toNat rZ3.1) vZ64.2.2.1) fun lZ68=>some (vZ64.1,vZ64.2.1,vZ64.2.2.2.1,lZ68,vZ64.2.2.2.2.2) | .inr xZ65=>some xZ65))
def M_cy (codeZ0:List Int):Option TNetwork :=
 (M_dc (⟨codeZ0,0,0⟩:Tl1Cur)).bind fun rZ1=>bnd (subT rZ1.2.2.1 rZ1.1 rZ1.2.1) fun lZ2=>some (⟨lZ2,rZ1.2.2.2.1⟩:TNetwork)
def M_cz (codeZ0:List Int):Option TNetwork :=
 (M_cy codeZ0).bind fun rZ1=>some (⟨rZ1.Nodes,rZ1.Fibers⟩:TNetwork)
def M_bj (nZ0:Int) (lowZ0:Int) (highZ0:Int):Option Bool :=
 cond (decide (lowZ0≤nZ0)) (some (decide (nZ0≤highZ0))) (some false)
def M_t (sZ0:ByteArray) (sZ1:Int):Option (Int ⊕ (Unit ⊕ Bool)) :=
 cond (decide (sZ1 < (sZ0.size:Int))) (((getz sZ0 sZ1).bind fun yZ3=>cond (decide (97≤(yZ3.toNat:Int))) (cond (decide (48≤(yZ3.toNat:Int))) (some (decide ((yZ3.toNat:Int)≤122),decide ((yZ3.toNat:Int)≤57))) (some (decide ((yZ3.toNat:Int)≤122),false))) (cond (decide (48≤(yZ3.toNat:Int))) (some (false,decide ((yZ3.toNat:Int)≤57))) (some (false,false))):Option (Bool×Bool)).bind fun oZ7=>cond (!oZ7.1) (cond (!oZ7.2) (some (.inr (.inr false))) (cond (sZ1==0) (some (.inr (.inr false))) (some (.inl (IntKind.wrap .i64 (sZ1+1)))))) (some (.inl (IntKind.wrap .i64 (sZ1+1))))) (some (.inr (.inl ())))
def M_dd (sZ0:ByteArray):Option Bool :=
 (iter (M_t sZ0) N0 0).bind fun oZ11=>(match oZ11 with | .inl vZ12=>(M_bj (sZ0.size:Int) 1 8).bind fun rZ14=>some rZ14 | .inr xZ13=>some xZ13)
def M_as (sZ0:List ByteArray) (vZ0:ByteArray) (sZ1:Int):Option (Int ⊕ (Unit ⊕ Int)) :=
 cond (decide (sZ1 < (sZ0.length:Int))) ((geti sZ0 sZ1).bind fun yZ3=>cond (vZ0.toList==yZ3.toList) (some (.inr (.inr sZ1))) (some (.inl (IntKind.wrap .i64 (sZ1+1))))) (some (.inr (.inl ())))
def M_el (sZ0:List ByteArray) (vZ0:ByteArray):Option Int :=
 (iter (M_as sZ0 vZ0) N0 0).bind fun oZ5=>(match oZ5 with | .inl vZ6=>some (-1) | .inr xZ7=>some xZ7)
def M_de (sZ0:List ByteArray) (vZ0:ByteArray):Option Bool :=
 (M_el sZ0 vZ0).bind fun rZ1=>some (decide (0≤rZ1))
def M_bs (xZ0:Int):Option Bool :=
 some (xZ0 != xZ0)
def M_bn (xZ0:Int) (yZ0:Int):Option Int :=
 (M_bs xZ0).bind fun rZ1=>(M_bs yZ0).bind fun rZ2=>cond (rZ1) (cond (rZ2) (some 0) (some (-1))) (cond (rZ2) (some 1) (cond (decide (xZ0 < yZ0)) (some (-1)) (cond (decide (yZ0 < xZ0)) (some 1) (some 0))))
def M_m (valsZ0:List Int) (sZ1:Int):Option (Int ⊕ (Unit ⊕ Int)) :=
 cond (decide (sZ1 < (valsZ0.length:Int))) ((geti valsZ0 sZ1).bind fun yZ3=>cond (yZ3 != 0) (some (.inr (.inr yZ3))) (some (.inl (IntKind.wrap .i64 (sZ1+1))))) (some (.inr (.inl ())))
def M_cb (valsZ0:List Int):Option Int :=
 (iter (M_m valsZ0) N0 0).bind fun oZ5=>(match oZ5 with | .inl vZ6=>some 0 | .inr xZ7=>some xZ7)
def M_df (aZ0:TFiber) (bZ0:TFiber):Option Int :=
 (M_bn aZ0.A bZ0.A).bind fun rZ1=>(M_bn aZ0.B bZ0.B).bind fun rZ2=>(M_bn aZ0.Length bZ0.Length).bind fun rZ3=>(M_bn aZ0.Risk bZ0.Risk).bind fun rZ4=>bnd ([rZ1,rZ2,rZ3,rZ4]) fun lZ5=>(M_cb lZ5).bind fun rZ9=>some rZ9
def M_at (nZ0:TNetwork) (sZ1:Int):Option (Int ⊕ (Unit ⊕ Bool)) :=
 cond (decide (sZ1 < (nZ0.Nodes.length:Int))) ((geti nZ0.Nodes sZ1).bind fun yZ3=>(M_dd yZ3).bind fun rZ4=>cond (!rZ4) (some (.inr (.inr false))) ((slT nZ0.Nodes sZ1).bind fun lZ6=>(M_de lZ6 yZ3).bind fun rZ7=>cond (rZ7) (some (.inr (.inr false))) (some (.inl (IntKind.wrap .i64 (sZ1+1)))))) (some (.inr (.inl ())))
def M_u (nZ0:TNetwork) (sZ12:Int):Option (Int ⊕ (Unit ⊕ Bool)) :=
 cond (decide (sZ12 < (nZ0.Fibers.length:Int))) ((geti nZ0.Fibers sZ12).bind fun yZ14=>cond (decide (yZ14.A < 0)) (some (.inr (.inr false))) (cond (decide (yZ14.B≤yZ14.A)) (some (.inr (.inr false))) (cond (decide ((nZ0.Nodes.length:Int)≤yZ14.B)) (some (.inr (.inr false))) ((M_bj yZ14.Length 1 5000).bind fun rZ18=>cond (!rZ18) (some (.inr (.inr false))) ((M_bj yZ14.Risk 0 9).bind fun rZ20=>cond (!rZ20) (some (.inr (.inr false))) (cond (decide (0 < sZ12)) ((geti nZ0.Fibers (IntKind.wrap .i64 (sZ12 - 1))).bind fun yZ23=>(M_df yZ23 yZ14).bind fun rZ24=>cond (decide (0 < rZ24)) (some (.inr (.inr false))) (some (.inl (IntKind.wrap .i64 (sZ12+1))))) (some (.inl (IntKind.wrap .i64 (sZ12+1)))))))))) (some (.inr (.inl ())))
def M_bt (nZ0:TNetwork):Option Bool :=
 (iter (M_at nZ0) N0 0).bind fun oZ9=>(match oZ9 with | .inl vZ10=>(iter (M_u nZ0) N0 0).bind fun oZ26=>(match oZ26 with | .inl vZ27=>(M_bj (nZ0.Nodes.length:Int) 2 8).bind fun rZ29=>cond (rZ29) (some (decide ((nZ0.Fibers.length:Int)≤14))) (some false) | .inr xZ28=>some xZ28) | .inr xZ11=>some xZ11)
def M_au (sZ0:List Int) (vZ0:Int) (sZ1:Int):Option (Int ⊕ (Unit ⊕ Int)) :=
 cond (decide (sZ1 < (sZ0.length:Int))) ((geti sZ0 sZ1).bind fun yZ3=>cond (vZ0==yZ3) (some (.inr (.inr sZ1))) (some (.inl (IntKind.wrap .i64 (sZ1+1))))) (some (.inr (.inl ())))
def M_em (sZ0:List Int) (vZ0:Int):Option Int :=
 (iter (M_au sZ0 vZ0) N0 0).bind fun oZ5=>(match oZ5 with | .inl vZ6=>some (-1) | .inr xZ7=>some xZ7)
def M_ae (sZ0:List Int) (vZ0:Int):Option Bool :=
 (M_em sZ0 vZ0).bind fun rZ1=>some (decide (0≤rZ1))
def M_af (nZ0:TNetwork) (sZ1:Int×List Int):Option ((Int×List Int) ⊕ (List Int)) :=
 cond (decide (sZ1.1 < (nZ0.Nodes.length:Int))) (bnd ([sZ1.1]) fun lZ3=>(grd ((sZ1.2.length+1) * 8≤140737488355328)).bind fun uZ6=>bnd (sZ1.2++lZ3) fun lZ7=>some (.inl (IntKind.wrap .i64 (sZ1.1+1),lZ7))) (some (.inr sZ1.2))
def M_f (nZ0:TNetwork) (goneZ0:List Int) (sZ13:Int×List Int):Option ((Int×List Int) ⊕ (List Int)) :=
 cond (decide (sZ13.1 < (nZ0.Fibers.length:Int))) ((geti nZ0.Fibers sZ13.1).bind fun yZ15=>(M_ae goneZ0 sZ13.1).bind fun rZ16=>cond (!rZ16) ((grd (0≤yZ15.A∧yZ15.A < (sZ13.2.length:Int))).bind fun kZ18=>(sZ13.2[(Int.toNat yZ15.A)]?).bind fun yZ19=>(grd (0≤yZ15.B∧yZ15.B < (sZ13.2.length:Int))).bind fun kZ20=>(sZ13.2[(Int.toNat yZ15.B)]?).bind fun yZ21=>bnd (sZ13.2.set (Int.toNat yZ15.A) (if yZ21 < yZ19 then yZ21 else yZ19)) fun lZ22=>(lZ22[(Int.toNat yZ15.B)]?).bind fun yZ24=>bnd (lZ22.set (Int.toNat yZ15.B) (if yZ21 < yZ19 then yZ21 else yZ19)) fun lZ25=>some (.inl (IntKind.wrap .i64 (sZ13.1+1),lZ25))) (some (.inl (IntKind.wrap .i64 (sZ13.1+1),sZ13.2)))) (some (.inr sZ13.2))
def M_ag (nZ0:TNetwork) (goneZ0:List Int) (sZ11:Int×List Int):Option ((Int×List Int) ⊕ (List Int)) :=
 cond (decide (sZ11.1 < (nZ0.Nodes.length:Int))) (((iter (M_f nZ0 goneZ0) N0 (0,sZ11.2)).bind fun oZ27=>some oZ27:Option (List Int)).bind fun oZ29=>some (.inl (IntKind.wrap .i64 (sZ11.1+1),oZ29))) (some (.inr sZ11.2))
def M_bp (nZ0:TNetwork) (goneZ0:List Int):Option (List Int) :=
 (iter (M_af nZ0) N0 (0,[])).bind fun oZ10=>(iter (M_ag nZ0 goneZ0) N0 (0,oZ10)).bind fun oZ30=>some oZ30
def M_i (nZ0:TNetwork) (sZ3:Int×List Int):Option ((Int×List Int) ⊕ (List Int)) :=
 cond (decide (sZ3.1 < (nZ0.Fibers.length:Int))) ((geti nZ0.Fibers sZ3.1).bind fun yZ5=>bnd ([sZ3.1]) fun lZ6=>(M_bp nZ0 lZ6).bind fun rZ10=>(grd (0≤yZ5.A∧yZ5.A < (rZ10.length:Int))).bind fun kZ11=>(rZ10[(Int.toNat yZ5.A)]?).bind fun yZ12=>(grd (0≤yZ5.B∧yZ5.B < (rZ10.length:Int))).bind fun kZ13=>(rZ10[(Int.toNat yZ5.B)]?).bind fun yZ14=>cond (yZ12 != yZ14) (bnd ([sZ3.1]) fun lZ16=>(grd ((sZ3.2.length+1) * 8≤140737488355328)).bind fun uZ19=>bnd (sZ3.2++lZ16) fun lZ20=>some (.inl (IntKind.wrap .i64 (sZ3.1+1),lZ20))) (some (.inl (IntKind.wrap .i64 (sZ3.1+1),sZ3.2)))) (some (.inr sZ3.2))
def M_cn (nZ0:TNetwork):Option (List Int×Bool) :=
 (M_bt nZ0).bind fun rZ1=>cond (!rZ1) (some (([]),false)) ((iter (M_i nZ0) N0 (0,[])).bind fun oZ23=>some (oZ23,true))
def M_bm (xZ0:Int) (aZ0:Int) (bZ0:Int):Option Bool :=
 cond (decide (aZ0≤xZ0)) (some (decide (xZ0≤bZ0))) (some false)
def M_dg (bZ0:Int):Option Bool :=
 cond (decide (97≤bZ0)) (cond (decide (bZ0≤122)) (some true) (cond (decide (48≤bZ0)) (some (decide (bZ0≤57))) (some false))) (cond (decide (48≤bZ0)) (some (decide (bZ0≤57))) (some false))
def M_av (sZ0:ByteArray) (sZ7:Int):Option (Int ⊕ (Unit ⊕ Bool)) :=
 cond (decide (sZ7 < (sZ0.size:Int))) ((getz sZ0 sZ7).bind fun yZ9=>(M_dg (yZ9.toNat:Int)).bind fun rZ10=>cond (!rZ10) (some (.inr (.inr false))) (some (.inl (IntKind.wrap .i64 (sZ7+1))))) (some (.inr (.inl ())))
def M_dh (sZ0:ByteArray):Option Bool :=
 ((M_bm (sZ0.size:Int) 1 8).bind fun rZ1=>cond (!rZ1) (some true) ((getz sZ0 0).bind fun yZ3=>cond (decide ((yZ3.toNat:Int) < 97)) (some true) (some (decide (122 < (yZ3.toNat:Int))))):Option Bool).bind fun oZ5=>cond (oZ5) (some false) ((iter (M_av sZ0) N0 0).bind fun oZ12=>(match oZ12 with | .inl vZ13=>some true | .inr xZ14=>some xZ14))
def M_aw (listZ0:List ByteArray) (nameZ0:ByteArray) (sZ1:Int):Option (Int ⊕ (Unit ⊕ Int)) :=
 cond (decide (sZ1 < (listZ0.length:Int))) ((geti listZ0 sZ1).bind fun yZ3=>cond (yZ3.toList==nameZ0.toList) (some (.inr (.inr sZ1))) (some (.inl (IntKind.wrap .i64 (sZ1+1))))) (some (.inr (.inl ())))
def M_di (listZ0:List ByteArray) (nameZ0:ByteArray):Option Int :=
 (iter (M_aw listZ0 nameZ0) N0 0).bind fun oZ5=>(match oZ5 with | .inl vZ6=>some (-1) | .inr xZ7=>some xZ7)
def M_dj (fZ0:TFiber) (nodesZ0:Int):Option Bool :=
 (M_bm fZ0.A 0 (IntKind.wrap .i64 (nodesZ0 - 1))).bind fun rZ1=>cond (rZ1) ((M_bm fZ0.B (IntKind.wrap .i64 (fZ0.A+1)) (IntKind.wrap .i64 (nodesZ0 - 1))).bind fun rZ3=>cond (rZ3) ((M_bm fZ0.Length 1 5000).bind fun rZ5=>cond (rZ5) ((M_bm fZ0.Risk 0 9).bind fun rZ7=>some rZ7) (some false)) (some false)) (some false)
def M_ax (nZ0:TNetwork) (sZ5:Int):Option (Int ⊕ (Unit ⊕ Bool)) :=
 cond (decide (sZ5 < (nZ0.Nodes.length:Int))) (((geti nZ0.Nodes sZ5).bind fun yZ7=>(M_dh yZ7).bind fun rZ8=>cond (!rZ8) (some true) ((M_di nZ0.Nodes yZ7).bind fun rZ10=>some (rZ10 != sZ5)):Option Bool).bind fun oZ11=>cond (oZ11) (some (.inr (.inr false))) (some (.inl (IntKind.wrap .i64 (sZ5+1))))) (some (.inr (.inl ())))
def M_ay (nZ0:TNetwork) (sZ16:Int):Option (Int ⊕ (Unit ⊕ Bool)) :=
 cond (decide (sZ16 < (nZ0.Fibers.length:Int))) (((geti nZ0.Fibers sZ16).bind fun yZ18=>(M_dj yZ18 (nZ0.Nodes.length:Int)).bind fun rZ19=>cond (!rZ19) (some true) (cond (decide (0 < sZ16)) ((geti nZ0.Fibers (IntKind.wrap .i64 (sZ16 - 1))).bind fun yZ22=>(M_bx yZ22 yZ18).bind fun rZ23=>some (decide (0 < rZ23))) (some false)):Option Bool).bind fun oZ24=>cond (oZ24) (some (.inr (.inr false))) (some (.inl (IntKind.wrap .i64 (sZ16+1))))) (some (.inr (.inl ())))
def M_ci (nZ0:TNetwork):Option Bool :=
 ((M_bm (nZ0.Nodes.length:Int) 2 8).bind fun rZ1=>cond (!rZ1) (some true) (some (decide (14 < (nZ0.Fibers.length:Int)))):Option Bool).bind fun oZ3=>cond (oZ3) (some false) ((iter (M_ax nZ0) N0 0).bind fun oZ13=>(match oZ13 with | .inl vZ14=>(iter (M_ay nZ0) N0 0).bind fun oZ26=>(match oZ26 with | .inl vZ27=>some true | .inr xZ28=>some xZ28) | .inr xZ15=>some xZ15))
def M_ah (nZ0:TNetwork) (sZ1:Int×List Int):Option ((Int×List Int) ⊕ (List Int)) :=
 cond (decide (sZ1.1 < (nZ0.Nodes.length:Int))) (bnd ([sZ1.1]) fun lZ3=>(grd ((sZ1.2.length+1) * 8≤140737488355328)).bind fun uZ6=>bnd (sZ1.2++lZ3) fun lZ7=>some (.inl (IntKind.wrap .i64 (sZ1.1+1),lZ7))) (some (.inr sZ1.2))
def M_g (nZ0:TNetwork) (goneZ0:Int) (sZ13:Bool×Int×List Int):Option ((Bool×Int×List Int) ⊕ (Bool×List Int)) :=
 cond (decide (sZ13.2.1 < (nZ0.Fibers.length:Int))) ((geti nZ0.Fibers sZ13.2.1).bind fun yZ15=>((grd (0≤(IntKind.wrap .u64 sZ13.2.1))).bind fun uZ16=>cond ((bits .and .i64 (Int.fdiv goneZ0 (2 ^ (min (Int.toNat (IntKind.wrap .u64 sZ13.2.1)) (IntKind.bits .i64)))) 1)==1) (some true) ((grd (0≤yZ15.A∧yZ15.A < (sZ13.2.2.length:Int))).bind fun kZ18=>(sZ13.2.2[(Int.toNat yZ15.A)]?).bind fun yZ19=>(grd (0≤yZ15.B∧yZ15.B < (sZ13.2.2.length:Int))).bind fun kZ20=>(sZ13.2.2[(Int.toNat yZ15.B)]?).bind fun yZ21=>some (yZ19==yZ21)):Option Bool).bind fun oZ22=>cond (oZ22) (some (.inl (sZ13.1,IntKind.wrap .i64 (sZ13.2.1+1),sZ13.2.2))) ((grd (0≤yZ15.A∧yZ15.A < (sZ13.2.2.length:Int))).bind fun kZ24=>(sZ13.2.2[(Int.toNat yZ15.A)]?).bind fun yZ25=>(grd (0≤yZ15.B∧yZ15.B < (sZ13.2.2.length:Int))).bind fun kZ26=>(sZ13.2.2[(Int.toNat yZ15.B)]?).bind fun yZ27=>(M_bq yZ25 yZ27).bind fun rZ28=>bnd (sZ13.2.2.set (Int.toNat yZ15.A) rZ28) fun lZ29=>(lZ29[(Int.toNat yZ15.B)]?).bind fun yZ31=>bnd (lZ29.set (Int.toNat yZ15.B) rZ28) fun lZ32=>some (.inl (true,IntKind.wrap .i64 (sZ13.2.1+1),lZ32)))) (some (.inr (sZ13.1,sZ13.2.2)))
def M_az (nZ0:TNetwork) (goneZ0:Int) (sZ11:Bool×List Int):Option ((Bool×List Int) ⊕ (List Int)) :=
 cond (sZ11.1) ((iter (M_g nZ0 goneZ0) N0 (false,0,sZ11.2)).bind fun oZ34=>some (.inl (oZ34.1,oZ34.2))) (some (.inr sZ11.2))
def M_cm (nZ0:TNetwork) (goneZ0:Int):Option (List Int) :=
 (iter (M_ah nZ0) N0 (0,[])).bind fun oZ10=>(iter (M_az nZ0 goneZ0) N0 (true,oZ10)).bind fun oZ36=>some oZ36
def M_j (nZ0:TNetwork) (sZ3:Int×List Int):Option ((Int×List Int) ⊕ (List Int)) :=
 cond (decide (sZ3.1 < (nZ0.Fibers.length:Int))) ((grd (0≤(IntKind.wrap .u64 sZ3.1))).bind fun uZ5=>(M_cm nZ0 (IntKind.wrap .i64 (1 * 2 ^ (min (Int.toNat (IntKind.wrap .u64 sZ3.1)) (IntKind.bits .i64))))).bind fun rZ6=>(geti nZ0.Fibers sZ3.1).bind fun yZ7=>(grd (0≤yZ7.A∧yZ7.A < (rZ6.length:Int))).bind fun kZ8=>(rZ6[(Int.toNat yZ7.A)]?).bind fun yZ9=>(grd (0≤yZ7.B∧yZ7.B < (rZ6.length:Int))).bind fun kZ10=>(rZ6[(Int.toNat yZ7.B)]?).bind fun yZ11=>cond (yZ9 != yZ11) (bnd ([sZ3.1]) fun lZ13=>(grd ((sZ3.2.length+1) * 8≤140737488355328)).bind fun uZ16=>bnd (sZ3.2++lZ13) fun lZ17=>some (.inl (IntKind.wrap .i64 (sZ3.1+1),lZ17))) (some (.inl (IntKind.wrap .i64 (sZ3.1+1),sZ3.2)))) (some (.inr sZ3.2))
def M_co (nZ0:TNetwork):Option (List Int×Bool) :=
 (M_ci nZ0).bind fun rZ1=>cond (!rZ1) (some (([]),false)) ((iter (M_j nZ0) N0 (0,[])).bind fun oZ20=>some (oZ20,true))
def M_ao (aZ0:List Int) (bZ0:List Int) (sZ2:Int):Option (Int ⊕ (Unit ⊕ Bool)) :=
 cond (decide (sZ2 < (aZ0.length:Int))) ((geti aZ0 sZ2).bind fun yZ4=>(geti bZ0 sZ2).bind fun yZ5=>cond (yZ4 != yZ5) (some (.inr (.inr false))) (some (.inl (IntKind.wrap .i64 (sZ2+1))))) (some (.inr (.inl ())))
def M_bv (aZ0:List Int) (bZ0:List Int):Option Bool :=
 cond ((aZ0.length:Int) != (bZ0.length:Int)) (some false) ((iter (M_ao aZ0 bZ0) N0 0).bind fun oZ7=>(match oZ7 with | .inl vZ8=>some true | .inr xZ9=>some xZ9))
def M_ap (lZ0:List Int) (xZ0:Int) (sZ1:Int):Option (Int ⊕ (Unit ⊕ Bool)) :=
 cond (decide (sZ1 < (lZ0.length:Int))) ((geti lZ0 sZ1).bind fun yZ3=>cond (yZ3==xZ0) (some (.inr (.inr true))) (some (.inl (IntKind.wrap .i64 (sZ1+1))))) (some (.inr (.inl ())))
def M_cu (lZ0:List Int) (xZ0:Int):Option Bool :=
 (iter (M_ap lZ0 xZ0) N0 0).bind fun oZ5=>(match oZ5 with | .inl vZ6=>some false | .inr xZ7=>some xZ7)
def M_r (lZ0:List Int) (nZ0:Int) (sZ1:Int):Option (Int ⊕ (Unit ⊕ Bool)) :=
 cond (decide (sZ1 < (lZ0.length:Int))) ((geti lZ0 sZ1).bind fun yZ3=>(M_bj yZ3 0 (IntKind.wrap .i64 (nZ0 - 1))).bind fun rZ4=>cond (!rZ4) (some (.inr (.inr false))) (cond (decide (0 < sZ1)) ((geti lZ0 (IntKind.wrap .i64 (sZ1 - 1))).bind fun yZ7=>cond (decide (yZ3≤yZ7)) (some (.inr (.inr false))) (some (.inl (IntKind.wrap .i64 (sZ1+1))))) (some (.inl (IntKind.wrap .i64 (sZ1+1)))))) (some (.inr (.inl ())))
def M_cv (lZ0:List Int) (nZ0:Int):Option Bool :=
 (iter (M_r lZ0 nZ0) N0 0).bind fun oZ9=>(match oZ9 with | .inl vZ10=>some true | .inr xZ11=>some xZ11)
def M_ej (nZ0:TNetwork) (goneZ0:List Int):Option Bool :=
 (M_bt nZ0).bind fun rZ1=>cond (rZ1) ((M_cv goneZ0 (nZ0.Fibers.length:Int)).bind fun rZ3=>some rZ3) (some false)
def M_cw (nZ0:TNetwork) (goneZ0:List Int):Option (List Int×Bool) :=
 (M_ej nZ0 goneZ0).bind fun rZ1=>cond (!rZ1) (some (([]),false)) ((M_bp nZ0 goneZ0).bind fun rZ3=>some (rZ3,true))
def M_cp (nZ0:TNetwork) (goneZ0:List Int) (aZ0:Int) (bZ0:Int):Option Bool :=
 (M_cw nZ0 goneZ0).bind fun rZ1=>cond (rZ1.2) (cond (decide (0≤aZ0)) (cond (decide (0≤bZ0)) (cond (decide (aZ0 < (rZ1.1.length:Int))) (cond (decide (bZ0 < (rZ1.1.length:Int))) ((grd (0≤aZ0∧aZ0 < (rZ1.1.length:Int))).bind fun kZ7=>(rZ1.1[(Int.toNat aZ0)]?).bind fun yZ8=>(grd (0≤bZ0∧bZ0 < (rZ1.1.length:Int))).bind fun kZ9=>(rZ1.1[(Int.toNat bZ0)]?).bind fun yZ10=>some (yZ8 != yZ10)) (some false)) (some false)) (some false)) (some false)) (some false)
def M_bu (fZ0:TFiber) (nodeZ0:Int):Option Int :=
 cond (nodeZ0==fZ0.A) (some fZ0.B) (cond (nodeZ0==fZ0.B) (some fZ0.A) (some (-1)))
def M_v (nZ0:TNetwork) (ringZ0:List Int) (sZ1:Int×Int×List Int):Option ((Int×Int×List Int) ⊕ ((Int×List Int) ⊕ (List Int×Int×Bool))) :=
 cond (decide (sZ1.2.1 < (ringZ0.length:Int))) ((geti ringZ0 sZ1.2.1).bind fun yZ3=>((M_bj yZ3 0 (IntKind.wrap .i64 ((nZ0.Fibers.length:Int) - 1))).bind fun rZ4=>cond (!rZ4) (some true) ((slT ringZ0 sZ1.2.1).bind fun lZ6=>(M_ae lZ6 yZ3).bind fun rZ7=>some rZ7):Option Bool).bind fun oZ8=>cond (oZ8) (some (.inr (.inr (([]),0,false)))) (bnd ([sZ1.1]) fun lZ10=>(grd ((sZ1.2.2.length+1) * 8≤140737488355328)).bind fun uZ13=>bnd (sZ1.2.2++lZ10) fun lZ14=>(geti nZ0.Fibers yZ3).bind fun yZ17=>(M_bu yZ17 sZ1.1).bind fun rZ18=>cond (decide (rZ18 < 0)) (some (.inr (.inr (([]),0,false)))) (some (.inl (rZ18,IntKind.wrap .i64 (sZ1.2.1+1),lZ14))))) (some (.inr (.inl (sZ1.1,sZ1.2.2))))
def M_dk (nZ0:TNetwork) (startZ0:Int) (ringZ0:List Int):Option (List Int×Int×Bool) :=
 (iter (M_v nZ0 ringZ0) N0 (startZ0,0,[])).bind fun oZ20=>(match oZ20 with | .inl vZ21=>some (vZ21.2,vZ21.1,true) | .inr xZ22=>some xZ22)
def M_ba (xZ0:List Int) (sZ3:Int×Int):Option ((Int×Int) ⊕ Int) :=
 cond (decide (sZ3.2 < (xZ0.length:Int))) ((geti xZ0 sZ3.2).bind fun yZ5=>some (.inl ((if yZ5 < sZ3.1 then yZ5 else sZ3.1),IntKind.wrap .i64 (sZ3.2+1)))) (some (.inr sZ3.1))
def M_dl (xZ0:List Int):Option Int :=
 cond (decide ((xZ0.length:Int) < 1)) (none) ((geti xZ0 0).bind fun yZ2=>(iter (M_ba xZ0) N0 (yZ2,1)).bind fun oZ6=>some oZ6)
def M_cj (sZ0:List Int):Option (List Int) :=
 cond (sZ0.isEmpty) (amb (some ([])) ((grd (sZ0.length * 8≤140737488355328)).bind fun uZ2=>some sZ0)) ((grd (sZ0.length * 8≤140737488355328)).bind fun uZ3=>some sZ0)
def M_ai (sZ1:Int×Int×List Int):Option ((Int×Int×List Int) ⊕ (List Int)) :=
 cond (decide (sZ1.1 < sZ1.2.1)) ((grd (0≤sZ1.2.1∧sZ1.2.1 < (sZ1.2.2.length:Int))).bind fun kZ3=>(sZ1.2.2[(Int.toNat sZ1.2.1)]?).bind fun yZ4=>(grd (0≤sZ1.1∧sZ1.1 < (sZ1.2.2.length:Int))).bind fun kZ5=>(sZ1.2.2[(Int.toNat sZ1.1)]?).bind fun yZ6=>bnd (sZ1.2.2.set (Int.toNat sZ1.1) yZ4) fun lZ7=>(lZ7[(Int.toNat sZ1.2.1)]?).bind fun yZ9=>bnd (lZ7.set (Int.toNat sZ1.2.1) yZ6) fun lZ10=>some (.inl (IntKind.wrap .i64 (sZ1.1+1),IntKind.wrap .i64 (sZ1.2.1 - 1),lZ10))) (some (.inr sZ1.2.2))
def M_dm (aaZ0:List Int):Option (List Int) :=
 (iter (M_ai) N0 (0,IntKind.wrap .i64 ((aaZ0.length:Int) - 1),aaZ0)).bind fun oZ12=>some oZ12
def M_w (s1Z0:List Int) (s2Z0:List Int) (sZ1:Int):Option (Int ⊕ (Unit ⊕ Int)) :=
 cond (decide (sZ1 < (s1Z0.length:Int))) ((geti s1Z0 sZ1).bind fun yZ3=>cond (decide ((s2Z0.length:Int)≤sZ1)) (some (.inr (.inr 1))) ((geti s2Z0 sZ1).bind fun yZ5=>(M_bn yZ3 yZ5).bind fun rZ6=>cond (rZ6 != 0) (some (.inr (.inr rZ6))) (some (.inl (IntKind.wrap .i64 (sZ1+1)))))) (some (.inr (.inl ())))
def M_by (s1Z0:List Int) (s2Z0:List Int):Option Int :=
 (iter (M_w s1Z0 s2Z0) N0 0).bind fun oZ8=>(match oZ8 with | .inl vZ9=>cond (decide ((s1Z0.length:Int) < (s2Z0.length:Int))) (some (-1)) (some 0) | .inr xZ10=>some xZ10)
def M_aj (rZ8:List Int×Int×Bool) (sZ14:Int):Option (Int ⊕ (Unit ⊕ (List Int×Bool))) :=
 cond (decide (sZ14 < (rZ8.1.length:Int))) ((grd (0≤sZ14∧sZ14 < (rZ8.1.length:Int))).bind fun kZ16=>(rZ8.1[(Int.toNat sZ14)]?).bind fun yZ17=>(grd (True∧0≤sZ14∧True∧Int.toNat sZ14≤rZ8.1.length)).bind fun uZ18=>bnd (subT rZ8.1 0 (Int.toNat sZ14)) fun lZ19=>(M_ae lZ19 yZ17).bind fun rZ21=>cond (rZ21) (some (.inr (.inr (([]),false)))) (some (.inl (IntKind.wrap .i64 (sZ14+1))))) (some (.inr (.inl ())))
def M_bz (nZ0:TNetwork) (ringZ0:List Int):Option (List Int×Bool) :=
 (cond (decide ((ringZ0.length:Int) < 2)) (some true) ((geti ringZ0 0).bind fun yZ2=>(M_bj yZ2 0 (IntKind.wrap .i64 ((nZ0.Fibers.length:Int) - 1))).bind fun rZ3=>some (!rZ3)):Option Bool).bind fun oZ4=>cond (oZ4) (some (([]),false)) ((geti ringZ0 0).bind fun yZ6=>(geti nZ0.Fibers yZ6).bind fun yZ7=>(M_dk nZ0 yZ7.A ringZ0).bind fun rZ8=>(cond (!rZ8.2.2) (some true) (cond (rZ8.2.1 != yZ7.A) (some true) ((M_dl rZ8.1).bind fun rZ11=>some (rZ11 != yZ7.A))):Option Bool).bind fun oZ12=>cond (oZ12) (some (([]),false)) ((iter (M_aj rZ8) N0 0).bind fun oZ23=>(match oZ23 with | .inl vZ24=>(M_cj ringZ0).bind fun rZ26=>(M_dm rZ26).bind fun rZ27=>bnd (subT rZ27 0 rZ26.length) fun lZ28=>(M_by ringZ0 lZ28).bind fun rZ30=>some (rZ8.1,(decide (rZ30 < 0))) | .inr xZ25=>some xZ25)))
def M_c (aaZ0:Int) (abZ0:Int) (acZ0:Int) (adZ0:List Int) (aeZ0:TNetwork) (rcZ0:Int→Int→Int→List Int→TNetwork→List (List Int)→Option (TNetwork×List (List Int))) (sZ1:Int×TNetwork×List (List Int)):Option ((Int×TNetwork×List (List Int)) ⊕ (TNetwork×List (List Int))) :=
 cond (decide (sZ1.1 < (((aeZ0).Fibers).length:Int))) ((geti ((aeZ0).Fibers) sZ1.1).bind fun yZ3=>(M_bu yZ3 abZ0).bind fun rZ4=>(cond (decide (rZ4 < aaZ0)) (some true) ((M_ae adZ0 sZ1.1).bind fun rZ6=>some rZ6):Option Bool).bind fun oZ7=>cond (oZ7) (some (.inl (IntKind.wrap .i64 (sZ1.1+1),sZ1.2.1,sZ1.2.2))) (bnd ([sZ1.1]) fun lZ10=>(grd ((adZ0.length+1) * 8≤140737488355328)).bind fun uZ13=>bnd (adZ0++lZ10) fun lZ14=>cond (rZ4==aaZ0) ((M_bz sZ1.2.1 lZ14).bind fun rZ19=>cond (rZ19.2) (bnd ([lZ14]) fun lZ21=>(grd ((sZ1.2.2.length+1) * 24≤140737488355328)).bind fun uZ24=>bnd (sZ1.2.2++lZ21) fun lZ25=>some (.inl (IntKind.wrap .i64 (sZ1.1+1),sZ1.2.1,lZ25))) (some (.inl (IntKind.wrap .i64 (sZ1.1+1),sZ1.2.1,sZ1.2.2)))) ((grd (0≤rZ4)).bind fun uZ28=>cond ((bits .and .i64 (Int.fdiv acZ0 (2 ^ (min (Int.toNat rZ4) (IntKind.bits .i64)))) 1)==0) ((grd (0≤rZ4)).bind fun uZ30=>(rcZ0 aaZ0 rZ4 (bits .or .i64 acZ0 (IntKind.wrap .i64 (1 * 2 ^ (min (Int.toNat rZ4) (IntKind.bits .i64))))) lZ14 sZ1.2.1 sZ1.2.2).bind fun rZ31=>some (.inl (IntKind.wrap .i64 (sZ1.1+1),rZ31.1,rZ31.2))) (some (.inl (IntKind.wrap .i64 (sZ1.1+1),sZ1.2.1,sZ1.2.2)))))) (some (.inr (sZ1.2.1,sZ1.2.2)))
def M_dn (rcZ0:Int→Int→Int→List Int→TNetwork→List (List Int)→Option (TNetwork×List (List Int))) (aaZ0:Int) (abZ0:Int) (acZ0:Int) (adZ0:List Int) (aeZ0:TNetwork) (afZ0:List (List Int)):Option (TNetwork×List (List Int)) :=
 (iter (M_c aaZ0 abZ0 acZ0 adZ0 aeZ0 rcZ0) N0 (0,aeZ0,afZ0)).bind fun oZ32=>some (oZ32.1,oZ32.2)
def M_cc:Nat→Int→Int→Int→List Int→TNetwork→List (List Int)→Option (TNetwork×List (List Int))
 | 0,_,_,_,_,_,_=>none
 | n+1,aaZ0,abZ0,acZ0,adZ0,aeZ0,afZ0=>M_dn (M_cc n) aaZ0 abZ0 acZ0 adZ0 aeZ0 afZ0
def M_d (aaZ0:Int) (abZ0:Int) (acZ0:Int) (adZ0:List Int) (aeZ0:TNetwork) (sZ1:Int×TNetwork×List (List Int)):Option ((Int×TNetwork×List (List Int)) ⊕ (TNetwork×List (List Int))) :=
 cond (decide (sZ1.1 < (((aeZ0).Fibers).length:Int))) ((geti ((aeZ0).Fibers) sZ1.1).bind fun yZ3=>(M_bu yZ3 abZ0).bind fun rZ4=>(cond (decide (rZ4 < aaZ0)) (some true) ((M_ae adZ0 sZ1.1).bind fun rZ6=>some rZ6):Option Bool).bind fun oZ7=>cond (oZ7) (some (.inl (IntKind.wrap .i64 (sZ1.1+1),sZ1.2.1,sZ1.2.2))) (bnd ([sZ1.1]) fun lZ10=>(grd ((adZ0.length+1) * 8≤140737488355328)).bind fun uZ13=>bnd (adZ0++lZ10) fun lZ14=>cond (rZ4==aaZ0) ((M_bz sZ1.2.1 lZ14).bind fun rZ19=>cond (rZ19.2) (bnd ([lZ14]) fun lZ21=>(grd ((sZ1.2.2.length+1) * 24≤140737488355328)).bind fun uZ24=>bnd (sZ1.2.2++lZ21) fun lZ25=>some (.inl (IntKind.wrap .i64 (sZ1.1+1),sZ1.2.1,lZ25))) (some (.inl (IntKind.wrap .i64 (sZ1.1+1),sZ1.2.1,sZ1.2.2)))) ((grd (0≤rZ4)).bind fun uZ28=>cond ((bits .and .i64 (Int.fdiv acZ0 (2 ^ (min (Int.toNat rZ4) (IntKind.bits .i64)))) 1)==0) ((grd (0≤rZ4)).bind fun uZ30=>(M_cc N0 aaZ0 rZ4 (bits .or .i64 acZ0 (IntKind.wrap .i64 (1 * 2 ^ (min (Int.toNat rZ4) (IntKind.bits .i64))))) lZ14 sZ1.2.1 sZ1.2.2).bind fun rZ31=>some (.inl (IntKind.wrap .i64 (sZ1.1+1),rZ31.1,rZ31.2))) (some (.inl (IntKind.wrap .i64 (sZ1.1+1),sZ1.2.1,sZ1.2.2)))))) (some (.inr (sZ1.2.1,sZ1.2.2)))
def M_en (aaZ0:Int) (abZ0:Int) (acZ0:Int) (adZ0:List Int) (aeZ0:TNetwork) (afZ0:List (List Int)):Option (TNetwork×List (List Int)) :=
 (iter (M_d aaZ0 abZ0 acZ0 adZ0 aeZ0) N0 (0,aeZ0,afZ0)).bind fun oZ32=>some (oZ32.1,oZ32.2)
def M_ca (aZ0:List Int) (bZ0:List Int):Option Int :=
 (M_bn (aZ0.length:Int) (bZ0.length:Int)).bind fun rZ1=>(M_by aZ0 bZ0).bind fun rZ2=>bnd ([rZ1,rZ2]) fun lZ3=>(M_cb lZ3).bind fun rZ7=>some rZ7
def M_bb (nZ0:TNetwork) (sZ1:Int×TNetwork×List (List Int)):Option ((Int×TNetwork×List (List Int)) ⊕ (List (List Int))) :=
 cond (decide (sZ1.1 < (nZ0.Nodes.length:Int))) ((grd (0≤sZ1.1)).bind fun uZ3=>(M_en sZ1.1 sZ1.1 (IntKind.wrap .i64 (1 * 2 ^ (min (Int.toNat sZ1.1) (IntKind.bits .i64)))) ([]) sZ1.2.1 sZ1.2.2).bind fun rZ4=>some (.inl (IntKind.wrap .i64 (sZ1.1+1),rZ4.1,rZ4.2))) (some (.inr sZ1.2.2))
def M_do (nZ0:TNetwork):Option (List (List Int)) :=
 (iter (M_bb nZ0) N0 (0,nZ0,[])).bind fun oZ5=>(sortX (fun x0 x1=>M_ca x0 x1) oZ5).bind fun lZ6=>some lZ6
def M_dp (nZ0:TNetwork):Option (List (List Int)×Bool) :=
 (M_bt nZ0).bind fun rZ1=>cond (!rZ1) (some (([]),false)) ((M_do nZ0).bind fun rZ3=>cond (decide (60 < (rZ3.length:Int))) (some (([]),false)) (some (rZ3,true)))
def M_ep (xZ0:Int):Option Int :=
 (cond (decide (4294967296≤xZ0)) (some (Int.fdiv xZ0 (2 ^ (min (Int.toNat 32) (IntKind.bits .u64))),32)) (some (xZ0,0)):Option (Int×Int)).bind fun oZ2=>(cond (decide (65536≤oZ2.1)) (some (Int.fdiv oZ2.1 (2 ^ (min (Int.toNat 16) (IntKind.bits .u64))),IntKind.wrap .i64 (oZ2.2+16))) (some (oZ2.1,oZ2.2)):Option (Int×Int)).bind fun oZ4=>(cond (decide (256≤oZ4.1)) (some (Int.fdiv oZ4.1 (2 ^ (min (Int.toNat 8) (IntKind.bits .u64))),IntKind.wrap .i64 (oZ4.2+8))) (some (oZ4.1,oZ4.2)):Option (Int×Int)).bind fun oZ6=>(getz (⟨#[0,1,2,2,3,3,3,3,4,4,4,4,4,4,4,4,5,5,5,5,5,5,5,5,5,5,5,5,5,5,5,5,6,6,6,6,6,6,6,6,6,6,6,6,6,6,6,6,6,6,6,6,6,6,6,6,6,6,6,6,6,6,6,6,7,7,7,7,7,7,7,7,7,7,7,7,7,7,7,7,7,7,7,7,7,7,7,7,7,7,7,7,7,7,7,7,7,7,7,7,7,7,7,7,7,7,7,7,7,7,7,7,7,7,7,7,7,7,7,7,7,7,7,7,7,7,7,7,8,8,8,8,8,8,8,8,8,8,8,8,8,8,8,8,8,8,8,8,8,8,8,8,8,8,8,8,8,8,8,8,8,8,8,8,8,8,8,8,8,8,8,8,8,8,8,8,8,8,8,8,8,8,8,8,8,8,8,8,8,8,8,8,8,8,8,8,8,8,8,8,8,8,8,8,8,8,8,8,8,8,8,8,8,8,8,8,8,8,8,8,8,8,8,8,8,8,8,8,8,8,8,8,8,8,8,8,8,8,8,8,8,8,8,8,8,8,8,8,8,8,8,8,8,8,8,8]⟩:ByteArray) (IntKind.wrap .u8 oZ6.1)).bind fun yZ7=>some (IntKind.wrap .i64 (oZ6.2+(IntKind.wrap .i64 (yZ7.toNat:Int))))
def M_dq (xZ0:Int):Option Int :=
 (M_ep xZ0).bind fun rZ1=>some rZ1
def M_dr (xZ0:Int) (yZ0:Int):Option Bool :=
 (M_bs xZ0).bind fun rZ1=>cond (rZ1) ((M_bs yZ0).bind fun rZ3=>cond (!rZ3) (some true) (some (decide (xZ0 < yZ0)))) (some (decide (xZ0 < yZ0)))
def M_n (aaZ0:Int) (sZ3:Int×List Int):Option ((Int×List Int) ⊕ (List Int)) :=
 (cond (decide (aaZ0 < sZ3.1)) ((grd (0≤sZ3.1∧sZ3.1 < (sZ3.2.length:Int))).bind fun kZ5=>(sZ3.2[(Int.toNat sZ3.1)]?).bind fun yZ6=>(grd (0≤(IntKind.wrap .i64 (sZ3.1 - 1))∧(IntKind.wrap .i64 (sZ3.1 - 1)) < (sZ3.2.length:Int))).bind fun kZ7=>(sZ3.2[(Int.toNat (IntKind.wrap .i64 (sZ3.1 - 1)))]?).bind fun yZ8=>(M_dr yZ6 yZ8).bind fun rZ9=>some rZ9) (some false):Option Bool).bind fun oZ10=>cond (oZ10) ((grd (0≤(IntKind.wrap .i64 (sZ3.1 - 1))∧(IntKind.wrap .i64 (sZ3.1 - 1)) < (sZ3.2.length:Int))).bind fun kZ12=>(sZ3.2[(Int.toNat (IntKind.wrap .i64 (sZ3.1 - 1)))]?).bind fun yZ13=>(grd (0≤sZ3.1∧sZ3.1 < (sZ3.2.length:Int))).bind fun kZ14=>(sZ3.2[(Int.toNat sZ3.1)]?).bind fun yZ15=>bnd (sZ3.2.set (Int.toNat sZ3.1) yZ13) fun lZ16=>(lZ16[(Int.toNat (IntKind.wrap .i64 (sZ3.1 - 1)))]?).bind fun yZ18=>bnd (lZ16.set (Int.toNat (IntKind.wrap .i64 (sZ3.1 - 1))) yZ15) fun lZ19=>some (.inl (IntKind.wrap .i64 (sZ3.1 - 1),lZ19))) (some (.inr sZ3.2))
def M_ak (aaZ0:Int) (abZ0:Int) (sZ1:Int×List Int):Option ((Int×List Int) ⊕ (List Int)) :=
 cond (decide (sZ1.1 < abZ0)) (((iter (M_n aaZ0) N0 (sZ1.1,sZ1.2)).bind fun oZ21=>some oZ21:Option (List Int)).bind fun oZ23=>some (.inl (IntKind.wrap .i64 (sZ1.1+1),oZ23))) (some (.inr sZ1.2))
def M_ds (aaZ0:Int) (abZ0:Int) (acZ0:List Int):Option (List Int) :=
 (iter (M_ak aaZ0 abZ0) N0 (IntKind.wrap .i64 (aaZ0+1),acZ0)).bind fun oZ24=>some oZ24
def M_bo (aaZ0:Int) (abZ0:Int) (acZ0:Int) (adZ0:List Int) (sZ1:Unit):Option (Unit ⊕ (Empty ⊕ (List Int))) :=
 cond (decide ((IntKind.wrap .i64 (abZ0 - aaZ0))≤12)) ((M_ds aaZ0 abZ0 adZ0).bind fun rZ3=>some (.inr (.inr rZ3))) (cond (acZ0==0) (none) (none))
def M_eo (aaZ0:Int) (abZ0:Int) (acZ0:Int) (adZ0:List Int):Option (List Int) :=
 (iter (M_bo aaZ0 abZ0 acZ0 adZ0) N0 ()).bind fun oZ5=>(match oZ5 with | .inl vZ6=>(vZ6.elim) | .inr xZ7=>some xZ7)
def M_dt (aaZ0:List Int):Option (List Int) :=
 (M_dq (IntKind.wrap .u64 (aaZ0.length:Int))).bind fun rZ1=>(M_eo 0 (aaZ0.length:Int) rZ1 aaZ0).bind fun rZ2=>some rZ2
def M_x (nZ0:TNetwork) (ringZ0:List Int) (rZ3:List Int×Bool) (sZ4:Int×List Int):Option ((Int×List Int) ⊕ (List Int)) :=
 cond (decide (sZ4.1 < (nZ0.Fibers.length:Int))) ((geti nZ0.Fibers sZ4.1).bind fun yZ6=>((M_ae ringZ0 sZ4.1).bind fun rZ7=>cond (!rZ7) ((M_ae rZ3.1 yZ6.A).bind fun rZ9=>cond (rZ9) ((M_ae rZ3.1 yZ6.B).bind fun rZ11=>some rZ11) (some false)) (some false):Option Bool).bind fun oZ12=>cond (oZ12) (bnd ([sZ4.1]) fun lZ14=>(grd ((sZ4.2.length+1) * 8≤140737488355328)).bind fun uZ17=>bnd (sZ4.2++lZ14) fun lZ18=>some (.inl (IntKind.wrap .i64 (sZ4.1+1),lZ18))) (some (.inl (IntKind.wrap .i64 (sZ4.1+1),sZ4.2)))) (some (.inr sZ4.2))
def M_du (nZ0:TNetwork) (ringZ0:List Int):Option (List Int×List Int) :=
 (M_cj ringZ0).bind fun rZ1=>(M_dt rZ1).bind fun rZ2=>(M_bz nZ0 ringZ0).bind fun rZ3=>(iter (M_x nZ0 ringZ0 rZ3) N0 (0,[])).bind fun oZ21=>bnd (subT rZ2 0 rZ1.length) fun lZ22=>some (lZ22,oZ21)
def M_dv (aaZ0:Int):Option (Nat×Nat×List Int) :=
 cond (decide (aaZ0 < 0)) (none) (cond (decide (0 < (IntKind.wrap .i64 (aaZ0 - (IntKind.wrap .i64 (0 - ((0:Nat):Int))))))) ((grd (0 < IntKind.wrap .i64 (aaZ0 - (IntKind.wrap .i64 (0 - ((0:Nat):Int))))∧(IntKind.wrap .i64 (aaZ0 - (IntKind.wrap .i64 (0 - ((0:Nat):Int))))) * ((8:Nat):Int)≤140737488355328)).bind fun uZ3=>bnd (List.replicate (Int.toNat (IntKind.wrap .i64 (aaZ0 - (IntKind.wrap .i64 (0 - ((0:Nat):Int)))))) 0) fun lZ4=>(grd (True∧0≤0∧True∧Int.toNat 0≤(Int.toNat (IntKind.wrap .i64 (aaZ0 - (IntKind.wrap .i64 (0 - ((0:Nat):Int)))))))).bind fun uZ6=>some (0,(Int.toNat 0),lZ4)) (some (0,0,[])))
def M_al (slicesZ0:List (List Int)) (sZ1:Int×Int):Option ((Int×Int) ⊕ Int) :=
 cond (decide (sZ1.2 < (slicesZ0.length:Int))) ((geti slicesZ0 sZ1.2).bind fun yZ3=>cond (decide ((IntKind.wrap .i64 (sZ1.1+(yZ3.length:Int))) < 0)) (none) (some (.inl (IntKind.wrap .i64 (sZ1.1+(yZ3.length:Int)),IntKind.wrap .i64 (sZ1.2+1))))) (some (.inr sZ1.1))
def M_bk (slicesZ0:List (List Int)) (sZ7:Nat×Nat×Int×List Int):Option ((Nat×Nat×Int×List Int) ⊕ (Nat×Nat×List Int)) :=
 cond (decide (sZ7.2.2.1 < (slicesZ0.length:Int))) ((geti slicesZ0 sZ7.2.2.1).bind fun yZ9=>bnd (subT sZ7.2.2.2 sZ7.1 sZ7.2.1) fun lZ10=>(grd ((sZ7.2.1+yZ9.length) * 8≤140737488355328)).bind fun uZ12=>bnd (lZ10++yZ9) fun lZ13=>some (.inl (0,(sZ7.2.1+yZ9.length),IntKind.wrap .i64 (sZ7.2.2.1+1),lZ13))) (some (.inr (sZ7.1,sZ7.2.1,sZ7.2.2.2)))
def M_dw (slicesZ0:List (List Int)):Option (List Int) :=
 (iter (M_al slicesZ0) N0 (0,0)).bind fun oZ5=>(M_dv oZ5).bind fun rZ6=>(iter (M_bk slicesZ0) N0 (rZ6.1,rZ6.2.1,0,rZ6.2.2)).bind fun oZ15=>bnd (subT oZ15.2.2 oZ15.1 oZ15.2.1) fun lZ16=>some lZ16
def M_o (acZ0:Nat) (adZ0:Nat) (aeZ0:Bool) (rZ6:List Int) (sZ7:Int×Int×List Bool):Option ((Int×Int×List Bool) ⊕ (Int×List Bool)) :=
 cond (decide (sZ7.2.1 < (rZ6.length:Int))) ((grd (0≤sZ7.2.1∧sZ7.2.1 < (rZ6.length:Int))).bind fun kZ9=>(rZ6[(Int.toNat sZ7.2.1)]?).bind fun yZ10=>((grd (0≤yZ10∧yZ10 < (adZ0:Int))).bind fun kZ11=>(sZ7.2.2[(acZ0+(Int.toNat yZ10))]?).bind fun yZ12=>cond (!yZ12) (some (IntKind.wrap .i64 (sZ7.1+1))) (some sZ7.1):Option Int).bind fun oZ14=>(grd (0≤yZ10∧yZ10 < (adZ0:Int))).bind fun kZ15=>(sZ7.2.2[(acZ0+(Int.toNat yZ10))]?).bind fun yZ16=>cond (yZ16) (bnd (sZ7.2.2.set (acZ0+(Int.toNat yZ10)) true) fun lZ18=>some (.inl (oZ14,IntKind.wrap .i64 (sZ7.2.1+1),lZ18))) (bnd (sZ7.2.2.set (acZ0+(Int.toNat yZ10)) aeZ0) fun lZ20=>some (.inl (oZ14,IntKind.wrap .i64 (sZ7.2.1+1),lZ20)))) (some (.inr (sZ7.1,sZ7.2.2)))
def M_dx (aaZ0:TNetwork) (abZ0:List Int) (acZ0:Nat) (adZ0:Nat) (aeZ0:Bool) (afZ0:List Bool):Option (Int×List Bool) :=
 (M_du aaZ0 abZ0).bind fun rZ1=>bnd ([rZ1.1,rZ1.2]) fun lZ2=>(M_dw lZ2).bind fun rZ6=>(iter (M_o acZ0 adZ0 aeZ0 rZ6) N0 (0,0,afZ0)).bind fun oZ22=>some (oZ22.1,oZ22.2)
def M_bc (nZ0:TNetwork) (rZ1:List (List Int)×Bool) (sZ6:Nat×Int×List Bool):Option ((Nat×Int×List Bool) ⊕ (Nat×List Bool)) :=
 cond (decide (sZ6.2.1 < (rZ1.1.length:Int))) ((grd (0≤sZ6.2.1∧sZ6.2.1 < (rZ1.1.length:Int))).bind fun kZ8=>(rZ1.1[(Int.toNat sZ6.2.1)]?).bind fun yZ9=>(M_dx nZ0 yZ9 0 sZ6.1 true sZ6.2.2).bind fun rZ10=>some (.inl (sZ6.1,IntKind.wrap .i64 (sZ6.2.1+1),rZ10.2))) (some (.inr (sZ6.1,sZ6.2.2)))
def M_p (oZ11:Nat×List Bool) (sZ12:Int×List Int):Option ((Int×List Int) ⊕ (List Int)) :=
 cond (decide (sZ12.1 < (oZ11.1:Int))) ((grd (0≤sZ12.1∧sZ12.1 < (oZ11.1:Int))).bind fun kZ14=>(oZ11.2[(Int.toNat sZ12.1)]?).bind fun yZ15=>cond (!yZ15) (bnd ([sZ12.1]) fun lZ17=>(grd ((sZ12.2.length+1) * 8≤140737488355328)).bind fun uZ20=>bnd (sZ12.2++lZ17) fun lZ21=>some (.inl (IntKind.wrap .i64 (sZ12.1+1),lZ21))) (some (.inl (IntKind.wrap .i64 (sZ12.1+1),sZ12.2)))) (some (.inr sZ12.2))
def M_cr (nZ0:TNetwork):Option (List Int×Bool) :=
 (M_dp nZ0).bind fun rZ1=>cond (!rZ1.2) (some (([]),false)) ((grd (0≤(nZ0.Fibers.length:Int)∧(nZ0.Fibers.length:Int)≤(nZ0.Fibers.length:Int)∧(nZ0.Fibers.length:Int) * ((1:Nat):Int)≤140737488355328∧(nZ0.Fibers.length:Int)≤9223372036854775807)).bind fun uZ3=>bnd (List.replicate (Int.toNat (nZ0.Fibers.length:Int)) false) fun lZ4=>(iter (M_bc nZ0 rZ1) N0 ((Int.toNat (nZ0.Fibers.length:Int)),0,lZ4)).bind fun oZ11=>(iter (M_p oZ11) N0 (0,[])).bind fun oZ24=>some (oZ24,true))
def M_cd (nZ0:TNetwork) (fiberZ0:Int) (nodeZ0:Int):Option Int :=
 (geti nZ0.Fibers fiberZ0).bind fun yZ1=>cond (nodeZ0==yZ1.A) (some yZ1.B) (cond (nodeZ0==yZ1.B) (some yZ1.A) (some (-1)))
def M_bd (lZ0:List Int) (nZ0:Int) (sZ1:Int):Option (Int ⊕ (Unit ⊕ Bool)) :=
 cond (decide (sZ1 < (lZ0.length:Int))) ((geti lZ0 sZ1).bind fun yZ3=>cond (yZ3==nZ0) (some (.inr (.inr true))) (some (.inl (IntKind.wrap .i64 (sZ1+1))))) (some (.inr (.inl ())))
def M_be (lZ0:List Int) (nZ0:Int):Option Bool :=
 (iter (M_bd lZ0 nZ0) N0 0).bind fun oZ5=>(match oZ5 with | .inl vZ6=>some false | .inr xZ7=>some xZ7)
def M_ck (lZ0:List Int):Option (List Int) :=
 (grd (lZ0.length * 8≤140737488355328)).bind fun uZ1=>some lZ0
def M_bf (ringZ0:List Int) (sZ1:Int×List Int):Option ((Int×List Int) ⊕ (List Int)) :=
 cond (decide (0≤sZ1.1)) ((geti ringZ0 sZ1.1).bind fun yZ3=>bnd ([yZ3]) fun lZ4=>(grd ((sZ1.2.length+1) * 8≤140737488355328)).bind fun uZ7=>bnd (sZ1.2++lZ4) fun lZ8=>some (.inl (IntKind.wrap .i64 (sZ1.1 - 1),lZ8))) (some (.inr sZ1.2))
def M_dy (ringZ0:List Int):Option (List Int) :=
 (iter (M_bf ringZ0) N0 (IntKind.wrap .i64 ((ringZ0.length:Int) - 1),[])).bind fun oZ11=>some oZ11
def M_bg (aZ0:List Int) (bZ0:List Int) (sZ2:Int):Option (Int ⊕ (Unit ⊕ Bool)) :=
 cond (decide (sZ2 < (aZ0.length:Int))) ((geti aZ0 sZ2).bind fun yZ4=>(geti bZ0 sZ2).bind fun yZ5=>cond (yZ4 != yZ5) (some (.inr (.inr (decide (yZ4 < yZ5))))) (some (.inl (IntKind.wrap .i64 (sZ2+1))))) (some (.inr (.inl ())))
def M_bw (aZ0:List Int) (bZ0:List Int):Option Bool :=
 cond ((aZ0.length:Int) != (bZ0.length:Int)) (some (decide ((aZ0.length:Int) < (bZ0.length:Int)))) ((iter (M_bg aZ0 bZ0) N0 0).bind fun oZ7=>(match oZ7 with | .inl vZ8=>some false | .inr xZ9=>some xZ9))
def M_am (aaZ0:List (List Int)) (abZ0:List Int) (sZ1:Int):Option (Int ⊕ Int) :=
 cond (decide (sZ1 < (aaZ0.length:Int))) ((grd (0≤sZ1∧sZ1 < (aaZ0.length:Int))).bind fun kZ3=>(aaZ0[(Int.toNat sZ1)]?).bind fun yZ4=>(M_bw yZ4 abZ0).bind fun rZ5=>cond (rZ5) (some (.inl (IntKind.wrap .i64 (sZ1+1)))) (some (.inr sZ1))) (some (.inr sZ1))
def M_dz (aaZ0:List (List Int)) (abZ0:List Int):Option (List (List Int)×List (List Int)) :=
 (iter (M_am aaZ0 abZ0) N0 0).bind fun oZ7=>(grd (True∧0≤oZ7∧True∧Int.toNat oZ7≤aaZ0.length)).bind fun uZ8=>bnd (subT aaZ0 0 (Int.toNat oZ7)) fun lZ9=>(grd (lZ9.length * 24≤140737488355328)).bind fun uZ11=>bnd ([abZ0]) fun lZ12=>(grd ((lZ9.length+1) * 24≤140737488355328)).bind fun uZ15=>bnd (lZ9++lZ12) fun lZ16=>(grd (0≤oZ7∧True∧Int.toNat oZ7≤aaZ0.length∧True)).bind fun uZ19=>bnd (subT aaZ0 (Int.toNat oZ7) (aaZ0.length - (Int.toNat oZ7))) fun lZ20=>(grd ((lZ16.length+lZ20.length) * 24≤140737488355328)).bind fun uZ22=>bnd (lZ16++lZ20) fun lZ23=>some (lZ23,aaZ0)
def M_e (aaZ0:Int) (abZ0:Int) (afZ0:List Int) (agZ0:List Int) (rcZ0:Int→Int→List ByteArray→List TFiber→List (List Int)→List Int→List Int→Option (List ByteArray×List TFiber×List (List Int)×List Int×List Int)) (sZ1:Int×List ByteArray×List TFiber×List (List Int)):Option ((Int×List ByteArray×List TFiber×List (List Int)) ⊕ (List ByteArray×List TFiber×List (List Int))) :=
 (cond (decide (sZ1.1 < (sZ1.2.2.1.length:Int))) (some (decide ((sZ1.2.2.2.length:Int)≤60))) (some false):Option Bool).bind fun oZ3=>cond (oZ3) ((M_cd (⟨sZ1.2.1,sZ1.2.2.1⟩:TNetwork) sZ1.1 abZ0).bind fun rZ5=>(cond (decide (rZ5 < aaZ0)) (some true) ((M_be afZ0 sZ1.1).bind fun rZ7=>some rZ7):Option Bool).bind fun oZ8=>cond (oZ8) (some (.inl (IntKind.wrap .i64 (sZ1.1+1),sZ1.2.1,sZ1.2.2.1,sZ1.2.2.2))) ((M_ck afZ0).bind fun rZ10=>bnd ([sZ1.1]) fun lZ11=>(grd ((rZ10.length+1) * 8≤140737488355328)).bind fun uZ14=>bnd (rZ10++lZ11) fun lZ15=>cond (rZ5==aaZ0) (((cond (decide (1 < (lZ15.length:Int))) ((M_dy lZ15).bind fun rZ20=>(M_bw rZ20 lZ15).bind fun rZ21=>some (!rZ21)) (some false):Option Bool).bind fun oZ22=>cond (oZ22) ((M_dz sZ1.2.2.2 lZ15).bind fun rZ24=>some rZ24.1) (some sZ1.2.2.2):Option (List (List Int))).bind fun oZ25=>some (.inl (IntKind.wrap .i64 (sZ1.1+1),sZ1.2.1,sZ1.2.2.1,oZ25))) ((M_be agZ0 rZ5).bind fun rZ26=>cond (!rZ26) ((M_ck agZ0).bind fun rZ28=>bnd ([rZ5]) fun lZ29=>(grd ((rZ28.length+1) * 8≤140737488355328)).bind fun uZ32=>bnd (rZ28++lZ29) fun lZ33=>(rcZ0 aaZ0 rZ5 sZ1.2.1 sZ1.2.2.1 sZ1.2.2.2 lZ15 lZ33).bind fun rZ36=>some (.inl (IntKind.wrap .i64 (sZ1.1+1),rZ36.1,rZ36.2.1,rZ36.2.2.1))) (some (.inl (IntKind.wrap .i64 (sZ1.1+1),sZ1.2.1,sZ1.2.2.1,sZ1.2.2.2)))))) (some (.inr (sZ1.2.1,sZ1.2.2.1,sZ1.2.2.2)))
def M_ea (rcZ0:Int→Int→List ByteArray→List TFiber→List (List Int)→List Int→List Int→Option (List ByteArray×List TFiber×List (List Int)×List Int×List Int)) (aaZ0:Int) (abZ0:Int) (acZ0:List ByteArray) (adZ0:List TFiber) (aeZ0:List (List Int)) (afZ0:List Int) (agZ0:List Int):Option (List ByteArray×List TFiber×List (List Int)×List Int×List Int) :=
 (iter (M_e aaZ0 abZ0 afZ0 agZ0 rcZ0) N0 (0,acZ0,adZ0,aeZ0)).bind fun oZ37=>some (oZ37.1,oZ37.2.1,oZ37.2.2,afZ0,agZ0)
def M_ce:Nat→Int→Int→List ByteArray→List TFiber→List (List Int)→List Int→List Int→Option (List ByteArray×List TFiber×List (List Int)×List Int×List Int)
 | 0,_,_,_,_,_,_,_=>none
 | n+1,aaZ0,abZ0,acZ0,adZ0,aeZ0,afZ0,agZ0=>M_ea (M_ce n) aaZ0 abZ0 acZ0 adZ0 aeZ0 afZ0 agZ0
def M_bl (aaZ0:TNetwork) (sZ1:Int×List ByteArray×List TFiber×List (List Int)):Option ((Int×List ByteArray×List TFiber×List (List Int)) ⊕ (List ByteArray×List TFiber×List (List Int))) :=
 cond (decide (sZ1.1 < (((aaZ0).Nodes).length:Int))) (bnd ([sZ1.1]) fun lZ3=>(M_ce N0 sZ1.1 sZ1.1 sZ1.2.1 sZ1.2.2.1 sZ1.2.2.2 ([]) lZ3).bind fun rZ6=>some (.inl (IntKind.wrap .i64 (sZ1.1+1),rZ6.1,rZ6.2.1,rZ6.2.2.1))) (some (.inr (sZ1.2.1,sZ1.2.2.1,sZ1.2.2.2)))
def M_eb (aaZ0:TNetwork):Option (List (List Int)) :=
 (iter (M_bl aaZ0) N0 (0,(aaZ0).Nodes,(aaZ0).Fibers,[])).bind fun oZ7=>some oZ7.2.2
def M_ec (aaZ0:TNetwork):Option (Bool×List (List Int)) :=
 (M_ci aaZ0).bind fun rZ1=>cond (!rZ1) (some (false,[])) ((M_eb aaZ0).bind fun rZ3=>cond (decide (60 < (rZ3.length:Int))) (some (false,[])) (some (true,rZ3)))
def M_y (nZ0:TNetwork) (ringZ0:List Int) (sZ1:Int×Int×List Int):Option ((Int×Int×List Int) ⊕ ((Int×List Int) ⊕ (List Int×Bool))) :=
 cond (decide (sZ1.2.1 < (ringZ0.length:Int))) (((geti ringZ0 sZ1.2.1).bind fun yZ3=>(M_bm yZ3 0 (IntKind.wrap .i64 ((nZ0.Fibers.length:Int) - 1))).bind fun rZ4=>cond (!rZ4) (some true) ((slT ringZ0 sZ1.2.1).bind fun lZ6=>(M_be lZ6 yZ3).bind fun rZ7=>cond (rZ7) (some true) ((M_be sZ1.2.2 sZ1.1).bind fun rZ9=>some rZ9)):Option Bool).bind fun oZ10=>cond (oZ10) (some (.inr (.inr (sZ1.2.2,false)))) (bnd ([sZ1.1]) fun lZ12=>(grd ((sZ1.2.2.length+1) * 8≤140737488355328)).bind fun uZ15=>bnd (sZ1.2.2++lZ12) fun lZ16=>(geti ringZ0 sZ1.2.1).bind fun yZ19=>(M_cd nZ0 yZ19 sZ1.1).bind fun rZ20=>cond (decide (rZ20 < 0)) (some (.inr (.inr (lZ16,false)))) (some (.inl (rZ20,IntKind.wrap .i64 (sZ1.2.1+1),lZ16))))) (some (.inr (.inl (sZ1.1,sZ1.2.2))))
def M_ed (nZ0:TNetwork) (ringZ0:List Int) (fromZ0:Int):Option (List Int×Bool) :=
 (iter (M_y nZ0 ringZ0) N0 (fromZ0,0,[])).bind fun oZ22=>(match oZ22 with | .inl vZ23=>cond (vZ23.1==fromZ0) (some (vZ23.2,(decide (1 < (ringZ0.length:Int))))) (some (vZ23.2,false)) | .inr xZ24=>some xZ24)
def M_bh (nZ0:TNetwork) (ringZ0:List Int) (sZ1:Int):Option (Int ⊕ (Unit ⊕ (List Int))) :=
 cond (decide (sZ1 < (nZ0.Nodes.length:Int))) ((M_ed nZ0 ringZ0 sZ1).bind fun rZ3=>cond (rZ3.2) (some (.inr (.inr rZ3.1))) (some (.inl (IntKind.wrap .i64 (sZ1+1))))) (some (.inr (.inl ())))
def M_ee (nZ0:TNetwork) (ringZ0:List Int):Option (List Int) :=
 (iter (M_bh nZ0 ringZ0) N0 0).bind fun oZ5=>(match oZ5 with | .inl vZ6=>some ([]) | .inr xZ7=>some xZ7)
def M_h (nZ0:TNetwork) (ringZ0:List Int) (rZ1:List Int) (sZ2:Int×List Int×List Int):Option ((Int×List Int×List Int) ⊕ (List Int×List Int)) :=
 cond (decide (sZ2.1 < (nZ0.Fibers.length:Int))) ((M_be ringZ0 sZ2.1).bind fun rZ4=>cond (rZ4) (bnd ([sZ2.1]) fun lZ6=>(grd ((sZ2.2.1.length+1) * 8≤140737488355328)).bind fun uZ9=>bnd (sZ2.2.1++lZ6) fun lZ10=>some (.inl (IntKind.wrap .i64 (sZ2.1+1),lZ10,sZ2.2.2))) (((geti nZ0.Fibers sZ2.1).bind fun yZ13=>(M_be rZ1 yZ13.A).bind fun rZ14=>cond (rZ14) ((M_be rZ1 yZ13.B).bind fun rZ16=>some rZ16) (some false):Option Bool).bind fun oZ17=>cond (oZ17) (bnd ([sZ2.1]) fun lZ19=>(grd ((sZ2.2.2.length+1) * 8≤140737488355328)).bind fun uZ22=>bnd (sZ2.2.2++lZ19) fun lZ23=>some (.inl (IntKind.wrap .i64 (sZ2.1+1),sZ2.2.1,lZ23))) (some (.inl (IntKind.wrap .i64 (sZ2.1+1),sZ2.2.1,sZ2.2.2))))) (some (.inr (sZ2.2.1,sZ2.2.2)))
def M_ef (nZ0:TNetwork) (ringZ0:List Int):Option (List Int×List Int) :=
 (M_ee nZ0 ringZ0).bind fun rZ1=>(iter (M_h nZ0 ringZ0 rZ1) N0 (0,[],[])).bind fun oZ26=>some (oZ26.1,oZ26.2)
def M_an (listZ0:List Int) (sZ1:Int×Int):Option ((Int×Int) ⊕ Int) :=
 cond (decide (sZ1.2 < (listZ0.length:Int))) ((geti listZ0 sZ1.2).bind fun yZ3=>(grd (0≤(IntKind.wrap .u64 yZ3))).bind fun uZ4=>some (.inl (bits .or .i64 sZ1.1 (IntKind.wrap .i64 (1 * 2 ^ (min (Int.toNat (IntKind.wrap .u64 yZ3)) (IntKind.bits .i64)))),IntKind.wrap .i64 (sZ1.2+1)))) (some (.inr sZ1.1))
def M_cl (listZ0:List Int):Option Int :=
 (iter (M_an listZ0) N0 (0,0)).bind fun oZ5=>some oZ5
def M_eg (nZ0:TNetwork) (ringZ0:List Int):Option Int :=
 (M_ef nZ0 ringZ0).bind fun rZ1=>(M_cl rZ1.1).bind fun rZ2=>(M_cl rZ1.2).bind fun rZ3=>some (bits .or .i64 rZ2 rZ3)
def M_bi (nZ0:TNetwork) (rZ1:Bool×List (List Int)) (sZ3:Int×Int):Option ((Int×Int) ⊕ Int) :=
 cond (decide (sZ3.2 < (rZ1.2.length:Int))) ((grd (0≤sZ3.2∧sZ3.2 < (rZ1.2.length:Int))).bind fun kZ5=>(rZ1.2[(Int.toNat sZ3.2)]?).bind fun yZ6=>(M_eg nZ0 yZ6).bind fun rZ7=>some (.inl (bits .or .i64 sZ3.1 rZ7,IntKind.wrap .i64 (sZ3.2+1)))) (some (.inr sZ3.1))
def M_q (nZ0:TNetwork) (oZ8:Int) (sZ9:Int×List Int):Option ((Int×List Int) ⊕ (List Int)) :=
 cond (decide (sZ9.1 < (nZ0.Fibers.length:Int))) ((grd (0≤(IntKind.wrap .u64 sZ9.1))).bind fun uZ11=>cond ((bits .and .i64 (Int.fdiv oZ8 (2 ^ (min (Int.toNat (IntKind.wrap .u64 sZ9.1)) (IntKind.bits .i64)))) 1)==0) (bnd ([sZ9.1]) fun lZ13=>(grd ((sZ9.2.length+1) * 8≤140737488355328)).bind fun uZ16=>bnd (sZ9.2++lZ13) fun lZ17=>some (.inl (IntKind.wrap .i64 (sZ9.1+1),lZ17))) (some (.inl (IntKind.wrap .i64 (sZ9.1+1),sZ9.2)))) (some (.inr sZ9.2))
def M_cs (nZ0:TNetwork):Option (List Int×Bool) :=
 (M_ec nZ0).bind fun rZ1=>cond (!rZ1.1) (some (([]),false)) ((iter (M_bi nZ0 rZ1) N0 (0,0)).bind fun oZ8=>(iter (M_q nZ0 oZ8) N0 (0,[])).bind fun oZ20=>some (oZ20,true))
def M_z (nZ0:TNetwork) (sZ1:Int×List (List Int)) (sZ3:Int×List Int):Option ((Int×List Int) ⊕ (List Int)) :=
 cond (decide (sZ3.1 < (nZ0.Fibers.length:Int))) ((geti nZ0.Fibers sZ3.1).bind fun yZ5=>cond (yZ5.Risk==sZ1.1) (bnd ([sZ3.1]) fun lZ7=>(grd ((sZ3.2.length+1) * 8≤140737488355328)).bind fun uZ10=>bnd (sZ3.2++lZ7) fun lZ11=>some (.inl (IntKind.wrap .i64 (sZ3.1+1),lZ11))) (some (.inl (IntKind.wrap .i64 (sZ3.1+1),sZ3.2)))) (some (.inr sZ3.2))
def M_aa (nZ0:TNetwork) (sZ1:Int×List (List Int)):Option ((Int×List (List Int)) ⊕ (List (List Int))) :=
 cond (decide (sZ1.1≤9)) ((iter (M_z nZ0 sZ1) N0 (0,[])).bind fun oZ14=>cond (decide (0 < (oZ14.length:Int))) (bnd ([oZ14]) fun lZ16=>(grd ((sZ1.2.length+1) * 24≤140737488355328)).bind fun uZ19=>bnd (sZ1.2++lZ16) fun lZ20=>some (.inl (IntKind.wrap .i64 (sZ1.1+1),lZ20))) (some (.inl (IntKind.wrap .i64 (sZ1.1+1),sZ1.2)))) (some (.inr sZ1.2))
def M_ab (nZ0:TNetwork) (sZ24:Int×List (List Int)):Option ((Int×List (List Int)) ⊕ (List (List Int))) :=
 cond (decide (sZ24.1 < (nZ0.Fibers.length:Int))) ((geti nZ0.Fibers sZ24.1).bind fun yZ26=>cond (yZ26.Risk==0) (bnd ([sZ24.1]) fun lZ28=>bnd ([lZ28]) fun lZ32=>(grd ((sZ24.2.length+1) * 24≤140737488355328)).bind fun uZ35=>bnd (sZ24.2++lZ32) fun lZ36=>some (.inl (IntKind.wrap .i64 (sZ24.1+1),lZ36))) (some (.inl (IntKind.wrap .i64 (sZ24.1+1),sZ24.2)))) (some (.inr sZ24.2))
def M_eh (nZ0:TNetwork):Option (List (List Int)) :=
 (iter (M_aa nZ0) N0 (1,[])).bind fun oZ23=>(iter (M_ab nZ0) N0 (0,oZ23)).bind fun oZ39=>some oZ39
def M_b (butZ0:Int) (rZ1:List Int) (rZ2:List Int) (sZ3:Int) (sZ5:Int):Option (Int ⊕ (Unit ⊕ Bool)) :=
 cond (decide (sZ5 < sZ3)) (cond (sZ3 != butZ0) (cond (sZ5 != butZ0) ((grd (0≤sZ3∧sZ3 < (rZ1.length:Int))).bind fun kZ9=>(rZ1[(Int.toNat sZ3)]?).bind fun yZ10=>(grd (0≤sZ5∧sZ5 < (rZ1.length:Int))).bind fun kZ11=>(rZ1[(Int.toNat sZ5)]?).bind fun yZ12=>cond (yZ10==yZ12) ((grd (0≤sZ3∧sZ3 < (rZ2.length:Int))).bind fun kZ14=>(rZ2[(Int.toNat sZ3)]?).bind fun yZ15=>(grd (0≤sZ5∧sZ5 < (rZ2.length:Int))).bind fun kZ16=>(rZ2[(Int.toNat sZ5)]?).bind fun yZ17=>cond (yZ15 != yZ17) (some (.inr (.inr true))) (some (.inl (IntKind.wrap .i64 (sZ5+1))))) (some (.inl (IntKind.wrap .i64 (sZ5+1))))) (some (.inl (IntKind.wrap .i64 (sZ5+1))))) (some (.inl (IntKind.wrap .i64 (sZ5+1))))) (some (.inr (.inl ())))
def M_aq (nZ0:TNetwork) (butZ0:Int) (rZ1:List Int) (rZ2:List Int) (sZ3:Int):Option (Int ⊕ (Unit ⊕ Bool)) :=
 cond (decide (sZ3 < (nZ0.Nodes.length:Int))) (((iter (M_b butZ0 rZ1 rZ2 sZ3) N0 0).bind fun oZ19=>(match oZ19 with | .inl vZ20=>some (.inl ()) | .inr xZ21=>some (.inr xZ21)):Option (Unit ⊕ Bool)).bind fun oZ24=>(match oZ24 with | .inl vZ25=>some (.inl (IntKind.wrap .i64 (sZ3+1))) | .inr xZ26=>some (.inr (.inr xZ26)))) (some (.inr (.inl ())))
def M_cx (nZ0:TNetwork) (goneZ0:List Int) (butZ0:Int):Option Bool :=
 (M_bp nZ0 ([])).bind fun rZ1=>(M_bp nZ0 goneZ0).bind fun rZ2=>(iter (M_aq nZ0 butZ0 rZ1 rZ2) N0 0).bind fun oZ28=>(match oZ28 with | .inl vZ29=>some false | .inr xZ30=>some xZ30)
def M_ac (nZ0:TNetwork) (rZ3:List (List Int)) (sZ4:Int×List Int):Option ((Int×List Int) ⊕ (List Int)) :=
 cond (decide (sZ4.1 < (rZ3.length:Int))) ((grd (0≤sZ4.1∧sZ4.1 < (rZ3.length:Int))).bind fun kZ6=>(rZ3[(Int.toNat sZ4.1)]?).bind fun yZ7=>(M_cx nZ0 yZ7 (-1)).bind fun rZ8=>cond (rZ8) (bnd ([sZ4.1]) fun lZ10=>(grd ((sZ4.2.length+1) * 8≤140737488355328)).bind fun uZ13=>bnd (sZ4.2++lZ10) fun lZ14=>some (.inl (IntKind.wrap .i64 (sZ4.1+1),lZ14))) (some (.inl (IntKind.wrap .i64 (sZ4.1+1),sZ4.2)))) (some (.inr sZ4.2))
def M_cq (nZ0:TNetwork):Option (List Int×Bool) :=
 (M_bt nZ0).bind fun rZ1=>cond (!rZ1) (some (([]),false)) ((M_eh nZ0).bind fun rZ3=>(iter (M_ac nZ0 rZ3) N0 (0,[])).bind fun oZ17=>some (oZ17,true))
def M_ad (rZ3:TNetwork) (rZ4:List Int×Bool) (sZ14:Int):Option (Int ⊕ (Unit ⊕ Bool)) :=
 cond (decide (sZ14 < (rZ3.Fibers.length:Int))) ((M_cu rZ4.1 sZ14).bind fun rZ16=>bnd ([sZ14]) fun lZ17=>(grd (0≤sZ14∧sZ14 < (rZ3.Fibers.length:Int))).bind fun kZ20=>(rZ3.Fibers[(Int.toNat sZ14)]?).bind fun yZ21=>(M_cp (⟨rZ3.Nodes,rZ3.Fibers⟩:TNetwork) lZ17 yZ21.A yZ21.B).bind fun rZ23=>cond (!(rZ16==rZ23)) (some (.inr (.inr false))) (some (.inl (IntKind.wrap .i64 (sZ14+1))))) (some (.inr (.inl ())))
def M_ei (codeZ0:List Int):Option Bool :=
 (M_ek codeZ0).bind fun rZ1=>cond (rZ1) (some true) ((M_cz codeZ0).bind fun rZ3=>(M_cn (⟨rZ3.Nodes,rZ3.Fibers⟩:TNetwork)).bind fun rZ4=>(M_co (⟨rZ3.Nodes,rZ3.Fibers⟩:TNetwork)).bind fun rZ5=>(cond (!(rZ4.2==rZ5.2)) (some true) ((M_bv rZ4.1 rZ5.1).bind fun rZ7=>cond (!rZ7) (some true) (some (!rZ4.2))):Option Bool).bind fun oZ9=>cond (oZ9) ((cond (rZ4.2==rZ5.2) ((M_bv rZ4.1 rZ5.1).bind fun rZ12=>some rZ12) (some false):Option Bool).bind fun oZ13=>some oZ13) ((iter (M_ad rZ3 rZ4) N0 0).bind fun oZ25=>(match oZ25 with | .inl vZ26=>(M_cr (⟨rZ3.Nodes,rZ3.Fibers⟩:TNetwork)).bind fun rZ28=>(M_cs (⟨rZ3.Nodes,rZ3.Fibers⟩:TNetwork)).bind fun rZ29=>(cond (!(rZ28.2==rZ29.2)) (some true) (cond (rZ28.2) ((M_bv rZ28.1 rZ4.1).bind fun rZ32=>some (!rZ32)) (some false)):Option Bool).bind fun oZ33=>cond (oZ33) (some false) ((M_cq (⟨rZ3.Nodes,rZ3.Fibers⟩:TNetwork)).bind fun rZ35=>cond (rZ35.2) (cond ((rZ4.1.length:Int)==0) (some true) (some (decide (0 < (rZ35.1.length:Int))))) (some false)) | .inr xZ27=>some xZ27)))
end Vs

namespace Vs
open Go Go.Proofs
theorem hmix:Tryz.prog.follows .mixedOrders=true:=Tryz.checked.mixed
def lay130_ren:Go.Shelf.Ren:=⟨fun | 6=>130 | 15=>119 | 14=>156 | 28=>151 | 29=>152 | 20=>172 | 21=>173 | 22=>174 | 23=>175 | 24=>176 | 25=>177 | 26=>178 | 27=>179 | 46=>184 | 47=>168 | 48=>169 | 49=>185 | 50=>186 | 57=>188 | n=>n,fun | 22=>39 | 24=>27 | 25=>123 | 3=>3 | 39=>70 | 0=>0 | 53=>152 | 55=>89 | 4=>4 | 46=>146 | 45=>145 | 50=>55 | 5=>5 | 9=>9 | 66=>163 | 70=>167 | 76=>176 | 77=>177 | n=>n,fun | n=>n⟩
theorem lay130:Go.Proofs.SlLaysF.n6 Tryz.prog lay130_ren:={
 mixed:=by kernel_rfl
 f6:=⟨Tryz.f130.name,by decide,Tryz.func130.trans (congrArg some (by kernel_rfl))⟩
 f14:=⟨Tryz.f156.name,by decide,Tryz.func156.trans (congrArg some (by kernel_rfl))⟩
 f15:=Tryz.func119.trans (congrArg some (by kernel_rfl))
 f20:=⟨Tryz.f172.name,by decide,Tryz.func172.trans (congrArg some (by kernel_rfl))⟩
 f21:=⟨Tryz.f173.name,by decide,Tryz.func173.trans (congrArg some (by kernel_rfl))⟩
 f22:=⟨Tryz.f174.name,by decide,Tryz.func174.trans (congrArg some (by kernel_rfl))⟩
 f23:=⟨Tryz.f175.name,by decide,Tryz.func175.trans (congrArg some (by kernel_rfl))⟩
 f24:=⟨Tryz.f176.name,by decide,Tryz.func176.trans (congrArg some (by kernel_rfl))⟩
 f25:=⟨Tryz.f177.name,by decide,Tryz.func177.trans (congrArg some (by kernel_rfl))⟩
 f26:=⟨Tryz.f178.name,by decide,Tryz.func178.trans (congrArg some (by kernel_rfl))⟩
 f27:=⟨Tryz.f179.name,by decide,Tryz.func179.trans (congrArg some (by kernel_rfl))⟩
 f28:=Tryz.func151.trans (congrArg some (by kernel_rfl))
 f29:=Tryz.func152.trans (congrArg some (by kernel_rfl))
 f46:=⟨Tryz.f184.name,by decide,Tryz.func184.trans (congrArg some (by kernel_rfl))⟩
 f47:=Tryz.func168.trans (congrArg some (by kernel_rfl))
 f48:=Tryz.func169.trans (congrArg some (by kernel_rfl))
 f49:=⟨Tryz.f185.name,by decide,Tryz.func185.trans (congrArg some (by kernel_rfl))⟩
 f50:=⟨Tryz.f186.name,by decide,Tryz.func186.trans (congrArg some (by kernel_rfl))⟩
 f57:=⟨Tryz.f188.name,by decide,Tryz.func188.trans (congrArg some (by kernel_rfl))⟩
 t0:=Tryz.underlying0
 a0:=Tryz.isAgg0
 z0:=Tryz.sizeOf0
 v0:=Tryz.zeroValue0
 t3:=Tryz.underlying3
 a3:=Tryz.isAgg3
 z3:=Tryz.sizeOf3
 v3:=Tryz.zeroValue3
 t4:=Tryz.underlying4
 a4:=Tryz.isAgg4
 z4:=Tryz.sizeOf4
 v4:=Tryz.zeroValue4
 t5:=Tryz.underlying5
 a5:=Tryz.isAgg5
 z5:=Tryz.sizeOf5
 v5:=Tryz.zeroValue5
 t9:=Tryz.underlying9
 a9:=Tryz.isAgg9
 z9:=Tryz.sizeOf9
 v9:=Tryz.zeroValue9
 t22:=Tryz.underlying39
 a22:=Tryz.isAgg39
 z22:=Tryz.sizeOf39
 v22:=Tryz.zeroValue39
 a24:=Tryz.isAgg27
 z24:=Tryz.sizeOf27
 t25:=Tryz.underlying123
 a25:=Tryz.isAgg123
 z25:=Tryz.sizeOf123
 v25:=Tryz.zeroValue123
 t39:=Tryz.underlying70
 a39:=Tryz.isAgg70
 z39:=Tryz.sizeOf70
 v39:=Tryz.zeroValue70
 t45:=Tryz.underlying145
 a45:=Tryz.isAgg145
 z45:=Tryz.sizeOf145
 v45:=Tryz.zeroValue145
 t46:=Tryz.underlying146
 a46:=Tryz.isAgg146
 z46:=Tryz.sizeOf146
 v46:=Tryz.zeroValue146
 t50:=Tryz.underlying55
 a50:=Tryz.isAgg55
 z50:=Tryz.sizeOf55
 v50:=Tryz.zeroValue55
 t53:=Tryz.underlying152
 a53:=Tryz.isAgg152
 z53:=Tryz.sizeOf152
 v53:=Tryz.zeroValue152
 t55:=Tryz.underlying89
 a55:=Tryz.isAgg89
 z55:=Tryz.sizeOf89
 v55:=Tryz.zeroValue89
 t66:=Tryz.underlying163
 a66:=Tryz.isAgg163
 z66:=Tryz.sizeOf163
 v66:=Tryz.zeroValue163
 t70:=Tryz.underlying167
 a70:=Tryz.isAgg167
 z70:=Tryz.sizeOf167
 v70:=Tryz.zeroValue167
 t76:=Tryz.underlying176
 a76:=Tryz.isAgg176
 z76:=Tryz.sizeOf176
 v76:=Tryz.zeroValue176
 t77:=Tryz.underlying177
 a77:=Tryz.isAgg177
 z77:=Tryz.sizeOf177
 v77:=Tryz.zeroValue177 }
theorem sort130:SortC Tryz.prog 130 1 sh1:=sortC1 (ρ:=lay130_ren) lay130 (AnyF.slices_SortFunc_none { lay130 with }) ⟨_,Tryz.func130,by kernel_rfl,by kernel_rfl⟩
def A22:ACode:=(.seq (.reg [Zo 2 (.mv (.c (.b false)))] []) (.seq (.reg [Zm 3 0,Zk 4 3,Zd 5 .gtr 4 65536,Zm 2 5] []) .ret))
def V22:List RV:=[.t 2]
theorem m22:mtcF Tryz.prog 22 1 A22 V22=true:=by kernel_rfl
def A109M1R1:ACode:=(.seq (.reg [Zm 25 0,Zo 26 (.nilc (Zt 25)),Za 27 1 26,Zl 28 27,Zd 29 .add 28 1,Zo 30 (.nilc (Zt 25)),Za 31 1 30,⟨none,.store 1 (Zt 31) (Zt 29),none⟩] []) (.seq (.reg [Zm 32 0,Zm 33 0,Zo 34 (.nilc (Zt 33)),Za 35 2 34,Zl 36 35,Zo 37 (.bin .mul (Zt 36) (.c (.sc (.int .u64 6364136223846793005)))),Zm 38 3,Zo 39 (.conv .u64 (Zt 38)),Zb 40 .add 37 39,Zo 41 (.bin .add (Zt 40) (.c (.sc (.int .u64 897897)))),Zo 42 (.nilc (Zt 32)),Za 43 2 42,⟨none,.store 1 (Zt 43) (Zt 41),none⟩] []) (.seq (.seq (.drw [Zm 44 0,Zo 45 (.nilc (Zt 44)),Za 46 1 45,Zl 47 46,Zm 48 0,Zo 49 (.nilc (Zt 48)),Za 50 0 49,Zl 51 50,Zk 52 51,Zb 53 .leq 47 52] []) (.cond (Zt 53) (.seq (.reg [Zm 54 3,Zm 2 54] []) .ret) .skip)) (.seq (.reg [Zm 55 0,Zo 56 (.nilc (Zt 55)),Za 57 2 56,Zl 58 57,Zo 59 (.bin .shr (Zt 58) (.c (.sc (.int .u64 40)))),Zo 60 (.bin .and (Zt 59) (.c (.sc (.int .u64 255)))),Zo 61 (.conv .i64 (Zt 60)),Zm 2 61] []) .ret))))
def A109M1:ACode:=(.seq (.reg [Zn 2 0] []) (.seq (.reg [Zn 3 0] []) (.seqr (.seq (.drw [Zm 4 0,Zo 5 (.nilc (Zt 4)),Za 6 1 5,Zl 7 6,Zm 8 0,Zo 9 (.nilc (Zt 8)),Za 10 0 9,Zl 11 10,Zk 12 11,Zb 13 .lss 7 12] []) (.cond (Zt 13) (.drw [Zm 14 0,Zo 15 (.nilc (Zt 14)),Za 16 0 15,Zl 17 16,Zm 18 0,Zo 19 (.nilc (Zt 18)),Za 20 1 19,Zl 21 20,Zx 22 1 17 21,Zl 23 22,Zo 24 (.conv .i64 (Zt 23)),Zm 3 24] []) .skip)) [0,3] [1000000000] A109M1R1)))
def V109M1:List RV:=[.t 2]
theorem m109M1:mtcF Tryz.prog 109 1 A109M1 V109M1=true:=by kernel_rfl
def A67M1:ACode:=(.seq (.reg [Zn 4 0] []) (.seq (.seq (.reg [Zm 6 1,Zd 7 .leq 6 1] []) (.cond (Zt 7) (.seq (.reg [Zn 4 0] []) .ret) .skip)) (.seq (.reg [Zm 8 0,Zo 9 (.callM 109 [(Zt 8)] [1000000000]),Zm 5 9] []) (.seq (.seq (.reg [Zm 10 1,Zd 11 .gtr 10 200] []) (.cond (Zt 11) (.reg [Zm 12 5,Zd 13 .mul 12 256,Zm 14 0,Zo 15 (.callM 109 [(Zt 14)] [1000000000]),Zb 16 .add 13 15,Zm 5 16] []) .skip)) (.seq (.reg [Zm 17 5,Zm 18 1,Zb 19 .rem 17 18,Zm 4 19] []) .ret)))))
def V67M1:List RV:=[.t 4]
theorem m67M1:mtcF Tryz.prog 67 2 A67M1 V67M1=true:=by kernel_rfl
def A139M1:ACode:=(.seq (.reg [Zo 4 (.mv (.c (.b false)))] []) (.seq (.reg [Zm 5 0,Zm 6 1,Zo 7 (.callM 67 [(Zt 5),(Zt 6)] [1000000000]),Zd 8 .eql 7 0,Zm 4 8] []) .ret))
def V139M1:List RV:=[.t 4]
theorem m139M1:mtcF Tryz.prog 139 2 A139M1 V139M1=true:=by kernel_rfl
def A104:ACode:=(.seq (.reg [Zn 4 0] []) (.seq (.seq (.reg [Zm 5 0,Zm 6 1,Zb 7 .lss 5 6] []) (.cond (Zt 7) (.seq (.reg [Zm 8 0,Zm 4 8] []) .ret) .skip)) (.seq (.reg [Zm 9 1,Zm 4 9] []) .ret)))
def V104:List RV:=[.t 4]
theorem m104:mtcF Tryz.prog 104 2 A104 V104=true:=by kernel_rfl
def A74:ACode:=(.seq (.reg [Zn 4 0] []) (.seq (.seq (.reg [Zm 5 0,Zm 6 1,Zb 7 .gtr 5 6] []) (.cond (Zt 7) (.seq (.reg [Zm 8 0,Zm 4 8] []) .ret) .skip)) (.seq (.reg [Zm 9 1,Zm 4 9] []) .ret)))
def V74:List RV:=[.t 4]
theorem m74:mtcF Tryz.prog 74 2 A74 V74=true:=by kernel_rfl
def A66M1:ACode:=(.seq (.reg [Zn 4 0] []) (.seq (.reg [Zm 5 1,Zm 6 0,Zm 7 1,Zk 8 7,Zo 9 (.callM 67 [(Zt 6),(Zt 8)] [1000000000]),Zx 10 1 5 9,Zl 11 10,Zm 4 11] []) .ret))
def V66M1:List RV:=[.t 4]
theorem m66M1:mtcF Tryz.prog 66 2 A66M1 V66M1=true:=by kernel_rfl
def A103:ACode:=(.seq (.reg [Zo 2 (.box 4 (Zt 0)),Zo 3 (.box 4 (Zt 1)),Zn 4 0] []) (.seq (.blk 0 (.seq (.reg [Za 6 0 2,Zl 7 6,Za 8 0 3,Zl 9 8,Zb 10 .neq 7 9,Zm 5 10] []) (.cond (Zt 5) (.seq (.reg [Za 11 0 2,Zl 12 11,Za 13 0 3,Zl 14 13,Zb 15 .sub 12 14,Zm 4 15] []) .ret) (.seq (.reg [Za 17 1 2,Zl 18 17,Za 19 1 3,Zl 20 19,Zb 21 .neq 18 20,Zm 16 21] []) (.cond (Zt 16) (.seq (.reg [Za 22 1 2,Zl 23 22,Za 24 1 3,Zl 25 24,Zb 26 .sub 23 25,Zm 4 26] []) .ret) (.seq (.reg [Za 28 2 2,Zl 29 28,Za 30 2 3,Zl 31 30,Zb 32 .neq 29 31,Zm 27 32] []) (.cond (Zt 27) (.seq (.reg [Za 33 2 2,Zl 34 33,Za 35 2 3,Zl 36 35,Zb 37 .sub 34 36,Zm 4 37] []) .ret) .skip))))))) (.seq (.reg [Za 38 3 2,Zl 39 38,Za 40 3 3,Zl 41 40,Zb 42 .sub 39 41,Zm 4 42] []) .ret)))
def V103:List RV:=[.t 4]
theorem m103:mtcF Tryz.prog 103 2 A103 V103=true:=by kernel_rfl
def A140L1:ACode:=(.seq (.seq (.drw [Zm 6 5,Zm 7 0,Zk 8 7,Zb 9 .lss 6 8,Zm 10 9,⟨(some 11),.mv (Zt 0),(some (10,true))⟩,⟨(some 12),.mv (Zt 5),(some (10,true))⟩,⟨(some 13),.idx 4 (Zt 11) (Zt 12),(some (10,true))⟩,⟨(some 14),.load 4 true (Zt 13),(some (10,true))⟩,⟨(some 15),.load 4 true (Zt 3),(some (10,true))⟩,⟨(some 16),.call 103 [(Zt 14),(Zt 15)],(some (10,true))⟩,⟨(some 17),.bin .leq (Zt 16) (.c (.i 0)),(some (10,true))⟩,Zo 18 (.pick (Zt 10) (Zt 17) (.c (.b false)))] []) (.cond (Zt 18) .skip (.exit 0))) (.blk 1 (.reg [Zm 19 5,Zd 20 .add 19 1,Zm 5 20] [])))
def A140R2:ACode:=(.seq (.drw [Zo 21 (.bsl 4 true []),Zm 22 0,Zm 23 5,Zo 24 (.slc 4 (Zt 22) none (some (Zt 23)) none),Zo 25 (.app 4 32 false (Zt 21) (Zt 24)),Zo 26 (.load 4 true (Zt 3)),Zo 27 (.bsl 4 true [(Zt 26)]),Zo 28 (.app 4 32 true (Zt 25) (Zt 27)),Zm 29 0,Zm 30 5,Zo 31 (.slc 4 (Zt 29) (some (Zt 30)) none none),Zo 32 (.app 4 32 false (Zt 28) (Zt 31)),Zm 4 32] [.s 4]) .ret)
def A140:ACode:=(.seq (.reg [Zo 3 (.box 4 (Zt 1)),Zo 4 (.mv (.c (.lst .u 4 [])))] [.s 4]) (.seq (.reg [Zn 5 0] []) (.seqr (.blk 0 (.loop A140L1)) [0,3,5] [3] A140R2)))
def V140:List RV:=[.t 4]
theorem m140:mtcF Tryz.prog 140 2 A140 V140=true:=by kernel_rfl
def A107M1R1:ACode:=(.cond (Zt 32) (.exit 1) .skip)
def A107M1L2:ACode:=(.seq (.seq (.reg [Zm 17 5,Zm 18 3,Zb 19 .lss 17 18] []) (.cond (Zt 19) .skip (.exit 0))) (.seq (.blk 1 (.seq (.reg [Zm 22 5,Zd 23 .add 22 1,Zm 24 3,Zb 25 .rem 23 24,Zm 6 25] []) (.seq (.seqr (.reg [Zm 26 5,Zm 27 6,Zb 28 .eql 26 27,Zm 29 28,⟨(some 30),.mv (Zt 0),(some (29,false))⟩,⟨(some 31),.callM 139 [(Zt 30),(.c (.i 10))] [1000000000],(some (29,false))⟩,Zo 32 (.pick (Zt 29) (.c (.b true)) (Zt 31))] []) [0,2,3,4,5,6,32] [2,4,500000256,500000257,1000000000] A107M1R1) (.drw [Zo 33 (.fdv [46,1000000000] 1 (Zt 4)),Zo 34 (.ldv [46,1000000000] 1 false (Zt 33)),Zm 35 5,Zm 36 6,Zo 37 (.call 104 [(Zt 35),(Zt 36)]),Zm 38 5,Zm 39 6,Zo 40 (.call 74 [(Zt 38),(Zt 39)]),Zm 41 0,Zo 42 (.callM 67 [(Zt 41),(.c (.i 8))] [1000000000]),Zo 43 (.bin .add (.c (.i 1)) (Zt 42)),Zo 44 (.bin .mul (.c (.i 100)) (Zt 43)),Zm 45 0,Zo 46 (.bsl 1 true [(.c (.i 0)),(.c (.i 0)),(.c (.i 0)),(.c (.i 1)),(.c (.i 2))]),Zo 47 (.callM 66 [(Zt 45),(Zt 46)] [1000000000,46]),Zo 48 (.build [.i 0,.i 0,.i 0,.i 0] [(0,1,(Zt 37)),(1,1,(Zt 40)),(2,1,(Zt 44)),(3,1,(Zt 47))]),Zo 49 (.call 140 [(Zt 34),(Zt 48)]),Za 50 1 4,⟨none,.store 1 (Zt 50) (Zt 49),none⟩] [.f false 500000257 4 1])))) (.reg [Zm 20 5,Zd 21 .add 20 1,Zm 5 21] [])))
def A107M1L4:ACode:=(.seq (.seq (.reg [Zm 53 7,Zd 54 .gtr 53 0] []) (.cond (Zt 54) .skip (.exit 2))) (.seq (.blk 3 (.seq (.reg [Zm 57 0,Zm 58 3,Zo 59 (.callM 67 [(Zt 57),(Zt 58)] [1000000000]),Zm 60 0,Zm 61 3,Zo 62 (.callM 67 [(Zt 60),(Zt 61)] [1000000000]),Zm 8 59,Zm 9 62] []) (.seq (.reg [Zm 63 8,Zm 64 9,Zb 65 .neq 63 64] []) (.cond (Zt 65) (.drw [Zo 66 (.fdv [79,1000000000] 1 (Zt 4)),Zo 67 (.ldv [79,1000000000] 1 false (Zt 66)),Zm 68 8,Zm 69 9,Zo 70 (.call 104 [(Zt 68),(Zt 69)]),Zm 71 8,Zm 72 9,Zo 73 (.call 74 [(Zt 71),(Zt 72)]),Zm 74 0,Zo 75 (.callM 67 [(Zt 74),(.c (.i 8))] [1000000000]),Zo 76 (.bin .add (.c (.i 1)) (Zt 75)),Zo 77 (.bin .mul (.c (.i 100)) (Zt 76)),Zm 78 0,Zo 79 (.bsl 1 true [(.c (.i 0)),(.c (.i 0)),(.c (.i 0)),(.c (.i 1)),(.c (.i 2))]),Zo 80 (.callM 66 [(Zt 78),(Zt 79)] [1000000000,79]),Zo 81 (.build [.i 0,.i 0,.i 0,.i 0] [(0,1,(Zt 70)),(1,1,(Zt 73)),(2,1,(Zt 77)),(3,1,(Zt 80))]),Zo 82 (.call 140 [(Zt 67),(Zt 81)]),Za 83 1 4,⟨none,.store 1 (Zt 83) (Zt 82),none⟩] [.f false 500000257 4 1]) .skip)))) (.reg [Zm 55 7,Zd 56 .sub 55 1,Zm 7 56] [])))
def A107M1R5:ACode:=(.seq (.reg [Zo 84 (.load 2 true (Zt 4)),⟨none,.store 2 (Zt 2) (Zt 84),none⟩] [.f false 500000128 2 0,.f false 500000129 2 1]) .ret)
def A107M1R3:ACode:=(.seqa (.reg [Zm 51 0,Zo 52 (.callM 67 [(Zt 51),(.c (.i 4))] [1000000000]),Zm 7 52] []) (.blk 2 (.loop A107M1L4)) [2,4] [2,4,500000256,500000257,1000000000] A107M1R5)
def A107M1:ACode:=(.seq (.reg [Zo 2 (.alloc (.agg [.lst .u 1 [],.lst .u 4 []]))] []) (.seq (.reg [Zm 10 0,Zo 11 (.callM 67 [(Zt 10),(.c (.i 5))] [1000000000]),Zo 12 (.bin .add (.c (.i 2)) (Zt 11)),Zm 3 12] []) (.seq (.reg [Zo 13 (.bsl 1 false [(.c (.z ⟨#[97]⟩)),(.c (.z ⟨#[98]⟩)),(.c (.z ⟨#[99]⟩)),(.c (.z ⟨#[100]⟩)),(.c (.z ⟨#[101]⟩)),(.c (.z ⟨#[102]⟩))]),Zm 14 3,Zo 15 (.slc 1 (Zt 13) none (some (Zt 14)) none),Zo 16 (.build [.lst .u 1 [],.lst .u 4 []] [(0,1,(Zt 15))]),Zo 4 (.alloc (.agg [.lst .u 1 [],.lst .u 4 []])),⟨none,.store 2 (Zt 4) (Zt 16),none⟩] [.f false 500000256 4 0,.f false 500000257 4 1]) (.seqa (.reg [Zn 5 0] []) (.blk 0 (.loop A107M1L2)) [0,2,3,4] [2,4,500000256,500000257,1000000000] A107M1R3))))
def V107M1:List RV:=[.c 2 2 true]
theorem m107M1:mtcF Tryz.prog 107 1 A107M1 V107M1=true:=by kernel_rfl
def A134M1:ACode:=(.seq (.reg [Zo 4 (.mv (.c (.z ⟨#[]⟩)))] []) (.seq (.reg [Zm 5 1,Zm 6 0,Zm 7 1,Zk 8 7,Zo 9 (.callM 67 [(Zt 6),(Zt 8)] [1000000000]),Zx 10 1 5 9,Zl 11 10,Zm 4 11] []) .ret))
def V134M1:List RV:=[.t 4]
theorem m134M1:mtcF Tryz.prog 134 2 A134M1 V134M1=true:=by kernel_rfl
def A96M1L1:ACode:=(.seq (.seq (.drw [Zo 70 (.fdv [1000000000] 1 (Zt 3)),Zo 71 (.ldv [1000000000] 1 false (Zt 70)),Zo 72 (.lnv [1000000000] (Zt 71)),Zm 73 0,Zo 74 (.callM 67 [(Zt 73),(.c (.i 2))] [1000000000]),Zo 75 (.bin .add (.c (.i 14)) (Zt 74)),Zb 76 .lss 72 75] []) (.cond (Zt 76) .skip (.exit 1))) (.blk 2 (.drw [Za 77 1 3,Zl 78 77,Za 79 1 3,Zl 80 79,Za 81 1 3,Zl 82 81,Zk 83 82,Zd 84 .sub 83 1,Zx 85 4 80 84,Zo 86 (.load 4 true (Zt 85)),Zo 87 (.bsl 4 true [(Zt 86)]),Zo 88 (.app 4 32 true (Zt 78) (Zt 87)),Za 89 1 3,⟨none,.store 1 (Zt 89) (Zt 88),none⟩] [.f false 500000193 3 1])))
def A96M1R2:ACode:=(.seq (.reg [Zo 90 (.load 2 true (Zt 3)),⟨none,.store 2 (Zt 2) (Zt 90),none⟩] [.f false 500000128 2 0,.f false 500000129 2 1]) .ret)
def A96M1R3:ACode:=(.seq (.reg [Za 98 1 3,Zl 99 98,Zm 100 4,Zo 101 (.load 4 true (Zt 5)),Zx 102 4 99 100,⟨none,.store 4 (Zt 102) (Zt 101),none⟩] []) (.seq (.reg [Zo 103 (.load 2 true (Zt 3)),⟨none,.store 2 (Zt 2) (Zt 103),none⟩] [.f false 500000128 2 0,.f false 500000129 2 1]) .ret))
def A96M1:ACode:=(.seq (.reg [Zo 2 (.alloc (.agg [.lst .u 1 [],.lst .u 4 []]))] []) (.seq (.reg [Zm 6 0,Zo 7 (.callM 107 [(Zt 6)] [1000000000]),Zo 3 (.alloc (.agg [.lst .u 1 [],.lst .u 4 []])),⟨none,.store 2 (Zt 3) (Zt 7),none⟩] [.f false 500000192 3 0,.f false 500000193 3 1]) (.seq (.seq (.reg [Za 8 1 3,Zl 9 8,Zk 10 9,Zd 11 .eql 10 0] []) (.cond (Zt 11) (.seq (.reg [Zo 12 (.load 2 true (Zt 3)),⟨none,.store 2 (Zt 2) (Zt 12),none⟩] [.f false 500000128 2 0,.f false 500000129 2 1]) .ret) .skip)) (.seq (.reg [Zm 13 0,Za 14 1 3,Zl 15 14,Zk 16 15,Zo 17 (.callM 67 [(Zt 13),(Zt 16)] [1000000000]),Zm 4 17] []) (.seq (.reg [Za 18 1 3,Zl 19 18,Zm 20 4,Zx 21 4 19 20,Zo 22 (.load 4 true (Zt 21)),Zo 5 (.alloc (.agg [.i 0,.i 0,.i 0,.i 0])),⟨none,.store 4 (Zt 5) (Zt 22),none⟩] []) (.seqr (.seq (.reg [Zm 23 0,Zo 24 (.callM 67 [(Zt 23),(.c (.i 24))] [1000000000])] []) (.blk 0 (.seq (.reg [Zd 26 .eql 24 0,Zm 25 26] []) (.cond (Zt 25) (.drw [Zo 27 (.fdv [30,1000000000] 0 (Zt 3)),Zo 28 (.ldv [30,1000000000] 1 false (Zt 27)),Zm 29 0,Zo 30 (.bsl 1 true [(.c (.z ⟨#[98]⟩)),(.c (.z ⟨#[]⟩)),(.c (.z ⟨#[65]⟩)),(.c (.z ⟨#[97,98,99,100,101,102,103,104]⟩)),(.c (.z ⟨#[97,98,99,100,101,102,103,104,105]⟩)),(.c (.z ⟨#[120,49]⟩))]),Zo 31 (.callM 134 [(Zt 29),(Zt 30)] [1000000000,30]),Zo 32 (.idx 1 (Zt 28) (.c (.i 0))),⟨none,.store 1 (Zt 32) (Zt 31),none⟩] []) (.seq (.reg [Zd 34 .eql 24 1,Zm 33 34] []) (.cond (Zt 33) (.reg [Zm 35 0,Zo 36 (.callM 67 [(Zt 35),(.c (.i 8))] [1000000000]),Zd 37 .sub 36 1,Za 38 0 5,⟨none,.store 1 (Zt 38) (Zt 37),none⟩] []) (.seq (.reg [Zd 40 .eql 24 2,Zm 39 40] []) (.cond (Zt 39) (.reg [Zm 41 0,Zo 42 (.callM 67 [(Zt 41),(.c (.i 10))] [1000000000]),Zd 43 .sub 42 1,Za 44 1 5,⟨none,.store 1 (Zt 44) (Zt 43),none⟩] []) (.seq (.reg [Zd 46 .eql 24 3,Zm 45 46] []) (.cond (Zt 45) (.reg [Zm 47 0,Zo 48 (.bsl 1 false [(.c (.i 0)),(.c (.i 1)),(.c (.i 5000)),(.c (.i 5001))]),Zo 49 (.callM 66 [(Zt 47),(Zt 48)] [1000000000,48]),Za 50 2 5,⟨none,.store 1 (Zt 50) (Zt 49),none⟩] []) (.seq (.reg [Zd 52 .eql 24 4,Zm 51 52] []) (.cond (Zt 51) (.reg [Zm 53 0,Zo 54 (.bsl 1 false [(.c (.i (-1))),(.c (.i 9)),(.c (.i 10))]),Zo 55 (.callM 66 [(Zt 53),(Zt 54)] [1000000000,54]),Za 56 3 5,⟨none,.store 1 (Zt 56) (Zt 55),none⟩] []) (.seq (.reg [Zd 58 .eql 24 5,Zm 57 58] []) (.cond (Zt 57) (.drw [Za 59 1 3,Zl 60 59,Za 61 1 3,Zl 62 61,Zo 63 (.idx 4 (Zt 62) (.c (.i 0))),Zo 64 (.load 4 true (Zt 63)),Zo 65 (.bsl 4 true [(Zt 64)]),Zo 66 (.app 4 32 true (Zt 60) (Zt 65)),Za 67 1 3,⟨none,.store 1 (Zt 67) (Zt 66),none⟩] [.f false 500000193 3 1]) (.seq (.reg [Zd 69 .eql 24 6,Zm 68 69] []) (.cond (Zt 68) (.seqr (.blk 1 (.loop A96M1L1)) [2,3] [2,3,500000192,500000193,1000000000] A96M1R2) (.seq (.reg [Zd 92 .eql 24 7,Zm 91 92] []) (.cond (Zt 91) (.reg [Za 93 0 3,Zl 94 93,Zo 95 (.bsl 1 false [(.c (.z ⟨#[112]⟩)),(.c (.z ⟨#[113]⟩)),(.c (.z ⟨#[114]⟩)),(.c (.z ⟨#[115]⟩))]),Zo 96 (.app 1 16 true (Zt 94) (Zt 95)),Za 97 0 3,⟨none,.store 1 (Zt 97) (Zt 96),none⟩] [.f false 500000192 3 0]) .skip)))))))))))))))))) [2,3,4,5] [2,3,5,500000192,500000193,1000000000] A96M1R3))))))
def V96M1:List RV:=[.c 2 2 true]
theorem m96M1:mtcF Tryz.prog 96 1 A96M1 V96M1=true:=by kernel_rfl
def A56:ACode:=(.seq (.reg [Zo 2 (.alloc (.agg [.lst .u 1 [],.lst .u 4 []]))] []) (.seq (.reg [Zm 4 0,Zo 5 (.build [.lst .u 1 [],.i 0,.sc (.int .u64 0)] [(0,1,(Zt 4))]),Zo 6 (.box 3 (Zt 5)),Zm 3 6] []) (.seq (.reg [Zm 7 3,Zo 8 (.callM 96 [(Zt 7)] [6]),⟨none,.store 2 (Zt 2) (Zt 8),none⟩] []) .ret)))
def V56:List RV:=[.c 2 2 true]
theorem m56:mtcF Tryz.prog 56 1 A56 V56=true:=by kernel_rfl
def A23:ACode:=(.seq (.reg [Zo 2 (.alloc (.agg [.lst .u 1 [],.lst .u 4 []]))] []) (.seq (.reg [Zm 3 0,Zo 4 (.call 56 [(Zt 3)]),⟨none,.store 2 (Zt 2) (Zt 4),none⟩] []) .ret))
def V23:List RV:=[.c 2 2 true]
theorem m23:mtcF Tryz.prog 23 1 A23 V23=true:=by kernel_rfl
def A70:ACode:=(.seq (.reg [Zo 6 (.mv (.c (.b false)))] []) (.seq (.reg [Zm 7 1,Zm 8 0,Zb 9 .leq 7 8,Zm 10 9,⟨(some 11),.mv (Zt 0),(some (10,true))⟩,⟨(some 12),.mv (Zt 2),(some (10,true))⟩,⟨(some 13),.bin .leq (Zt 11) (Zt 12),(some (10,true))⟩,Zo 14 (.pick (Zt 10) (Zt 13) (.c (.b false))),Zm 6 14] []) .ret))
def V70:List RV:=[.t 6]
theorem m70:mtcF Tryz.prog 70 3 A70 V70=true:=by kernel_rfl
def A97R1:ACode:=(.seq (.reg [Zm 31 4,Zo 32 (.un .not (Zt 31)),Zm 33 32,⟨(some 34),.mv (Zt 5),(some (33,true))⟩,⟨(some 35),.un .not (Zt 34),(some (33,true))⟩,⟨(some 36),.mv (Zt 35),(some (33,true))⟩,⟨(some 37),.mv (Zt 3),(some (36,false))⟩,⟨(some 38),.bin .eql (Zt 37) (.c (.i 0)),(some (36,false))⟩,⟨(some 39),.pick (Zt 36) (.c (.b true)) (Zt 38),(some (33,true))⟩,Zo 40 (.pick (Zt 33) (Zt 39) (.c (.b false)))] []) (.cond (Zt 40) (.seq (.reg [Zo 2 (.mv (.c (.b false)))] []) .ret) .skip))
def A97L2:ACode:=(.seq (.reg [Zb 9 .lss 8 7] []) (.seq (.cond (Zt 9) .skip (.exit 0)) (.seq (.blk 1 (.seq (.reg [Zm 10 8,Zm 3 10] []) (.seqr (.drw [Zm 11 0,Zm 12 3,Zo 13 (.stri (Zt 11) (Zt 12)),Zo 14 (.bin .geq (Zt 13) (.c (.sc (.int .u8 97)))),Zm 15 14,⟨(some 16),.mv (Zt 0),(some (15,true))⟩,⟨(some 17),.mv (Zt 3),(some (15,true))⟩,⟨(some 18),.stri (Zt 16) (Zt 17),(some (15,true))⟩,⟨(some 19),.bin .leq (Zt 18) (.c (.sc (.int .u8 122))),(some (15,true))⟩,Zo 20 (.pick (Zt 15) (Zt 19) (.c (.b false))),Zm 21 0,Zm 22 3,Zo 23 (.stri (Zt 21) (Zt 22)),Zo 24 (.bin .geq (Zt 23) (.c (.sc (.int .u8 48)))),Zm 25 24,⟨(some 26),.mv (Zt 0),(some (25,true))⟩,⟨(some 27),.mv (Zt 3),(some (25,true))⟩,⟨(some 28),.stri (Zt 26) (Zt 27),(some (25,true))⟩,⟨(some 29),.bin .leq (Zt 28) (.c (.sc (.int .u8 57))),(some (25,true))⟩,Zo 30 (.pick (Zt 25) (Zt 29) (.c (.b false))),Zm 4 20,Zm 5 30] []) [0,3,4,5,7,8] [] A97R1))) (.reg [Zd 41 .add 8 1,Zm 8 41] []))))
def A97R3:ACode:=(.seq (.reg [Zm 42 0,Zo 43 (.lenz (Zt 42)),Zo 44 (.call 70 [(Zt 43),(.c (.i 1)),(.c (.i 8))]),Zm 2 44] []) .ret)
def A97:ACode:=(.seq (.reg [Zo 2 (.mv (.c (.b false)))] []) (.seqa (.reg [Zm 6 0,Zo 7 (.lenz (Zt 6)),Zn 8 0] []) (.blk 0 (.loop A97L2)) [0] [] A97R3))
def V97:List RV:=[.t 2]
theorem m97:mtcF Tryz.prog 97 1 A97 V97=true:=by kernel_rfl
def A135L1:ACode:=(.seq (.reg [Zb 9 .lss 8 7] []) (.seq (.cond (Zt 9) .skip (.exit 0)) (.seq (.blk 1 (.seq (.reg [Zm 10 8,Zm 5 10] []) (.seq (.reg [Zm 11 1,Zm 12 0,Zm 13 5,Zx 14 1 12 13,Zl 15 14,Zb 16 .eql 11 15] []) (.cond (Zt 16) (.seq (.reg [Zm 17 5,Zm 4 17] []) .ret) .skip)))) (.reg [Zd 18 .add 8 1,Zm 8 18] []))))
def A135R2:ACode:=(.seq (.reg [Zn 4 (-1)] []) .ret)
def A135:ACode:=(.seq (.reg [Zn 4 0] []) (.seqa (.reg [Zm 6 0,Zk 7 6,Zn 8 0] []) (.blk 0 (.loop A135L1)) [] [] A135R2))
def V135:List RV:=[.t 4]
theorem m135:mtcF Tryz.prog 135 2 A135 V135=true:=by kernel_rfl
def A98:ACode:=(.seq (.reg [Zo 4 (.mv (.c (.b false)))] []) (.seq (.reg [Zm 5 0,Zm 6 1,Zo 7 (.call 135 [(Zt 5),(Zt 6)]),Zd 8 .geq 7 0,Zm 4 8] []) .ret))
def V98:List RV:=[.t 4]
theorem m98:mtcF Tryz.prog 98 2 A98 V98=true:=by kernel_rfl
def A153:ACode:=(.seq (.reg [Zo 2 (.mv (.c (.b false)))] []) (.seq (.reg [Zm 3 0,Zm 4 0,Zb 5 .neq 3 4,Zm 2 5] []) .ret))
def V153:List RV:=[.t 2]
theorem m153:mtcF Tryz.prog 153 1 A153 V153=true:=by kernel_rfl
def A121:ACode:=(.seq (.reg [Zn 4 0] []) (.seq (.reg [Zm 7 0,Zo 8 (.call 153 [(Zt 7)]),Zm 5 8] []) (.seq (.reg [Zm 9 1,Zo 10 (.call 153 [(Zt 9)]),Zm 6 10] []) (.seq (.seq (.reg [Zm 11 5] []) (.cond (Zt 11) (.seq (.seq (.reg [Zm 12 6] []) (.cond (Zt 12) (.seq (.reg [Zn 4 0] []) .ret) .skip)) (.seq (.reg [Zn 4 (-1)] []) .ret)) .skip)) (.seq (.seq (.reg [Zm 13 6] []) (.cond (Zt 13) (.seq (.reg [Zn 4 1] []) .ret) .skip)) (.seq (.seq (.reg [Zm 14 0,Zm 15 1,Zb 16 .lss 14 15] []) (.cond (Zt 16) (.seq (.reg [Zn 4 (-1)] []) .ret) .skip)) (.seq (.seq (.reg [Zm 17 0,Zm 18 1,Zb 19 .gtr 17 18] []) (.cond (Zt 19) (.seq (.reg [Zn 4 1] []) .ret) .skip)) (.seq (.reg [Zn 4 0] []) .ret))))))))
def V121:List RV:=[.t 4]
theorem m121:mtcF Tryz.prog 121 2 A121 V121=true:=by kernel_rfl
def A120L1:ACode:=(.seq (.reg [Zb 9 .lss 8 7] []) (.seq (.cond (Zt 9) .skip (.exit 0)) (.seq (.blk 1 (.seq (.reg [Zx 10 1 6 8,Zl 11 10,Zm 5 11] []) (.seq (.reg [Zm 12 5,Zm 13 3,Zb 14 .neq 12 13] []) (.cond (Zt 14) (.seq (.reg [Zm 15 5,Zm 2 15] []) .ret) .skip)))) (.reg [Zd 16 .add 8 1,Zm 8 16] []))))
def A120R2:ACode:=(.seq (.reg [Zm 17 3,Zm 2 17] []) .ret)
def A120:ACode:=(.seq (.reg [Zn 2 0] []) (.seq (.reg [Zn 3 0] []) (.seqa (.reg [Zm 6 0,Zk 7 6,Zn 8 0] []) (.blk 0 (.loop A120L1)) [3] [] A120R2)))
def V120:List RV:=[.t 2]
theorem m120:mtcF Tryz.prog 120 1 A120 V120=true:=by kernel_rfl
def A99:ACode:=(.seq (.reg [Zo 2 (.box 4 (Zt 0)),Zo 3 (.box 4 (Zt 1)),Zn 4 0] []) (.seq (.drw [Za 5 0 2,Zl 6 5,Za 7 0 3,Zl 8 7,Zo 9 (.call 121 [(Zt 6),(Zt 8)]),Za 10 1 2,Zl 11 10,Za 12 1 3,Zl 13 12,Zo 14 (.call 121 [(Zt 11),(Zt 13)]),Za 15 2 2,Zl 16 15,Za 17 2 3,Zl 18 17,Zo 19 (.call 121 [(Zt 16),(Zt 18)]),Za 20 3 2,Zl 21 20,Za 22 3 3,Zl 23 22,Zo 24 (.call 121 [(Zt 21),(Zt 23)]),Zo 25 (.bsl 1 true [(Zt 9),(Zt 14),(Zt 19),(Zt 24)]),Zo 26 (.call 120 [(Zt 25)]),Zm 4 26] []) .ret))
def V99:List RV:=[.t 4]
theorem m99:mtcF Tryz.prog 99 2 A99 V99=true:=by kernel_rfl
def A57L1:ACode:=(.seq (.reg [Zb 11 .lss 10 9] []) (.seq (.cond (Zt 11) .skip (.exit 0)) (.seq (.blk 1 (.seq (.reg [Zm 12 10,Zx 13 1 8 10,Zl 14 13,Zm 3 12,Zm 4 14] []) (.seq (.reg [Zm 15 4,Zo 16 (.call 97 [(Zt 15)]),Zo 17 (.un .not (Zt 16)),Zm 18 17,⟨(some 19),.fad 0 (Zt 1),(some (18,false))⟩,⟨(some 20),.load 1 false (Zt 19),(some (18,false))⟩,⟨(some 21),.mv (Zt 3),(some (18,false))⟩,⟨(some 22),.slc 1 (Zt 20) none (some (Zt 21)) none,(some (18,false))⟩,⟨(some 23),.mv (Zt 4),(some (18,false))⟩,⟨(some 24),.call 98 [(Zt 22),(Zt 23)],(some (18,false))⟩,Zo 25 (.pick (Zt 18) (.c (.b true)) (Zt 24))] []) (.cond (Zt 25) (.seq (.reg [Zo 2 (.mv (.c (.b false)))] []) .ret) .skip)))) (.reg [Zd 26 .add 10 1,Zm 10 26] []))))
def A57L3:ACode:=(.seq (.reg [Zb 31 .lss 30 29] []) (.seq (.cond (Zt 31) .skip (.exit 2)) (.seq (.blk 3 (.seq (.reg [Zm 32 30,Zx 33 4 28 30,Zo 34 (.load 4 true (Zt 33)),Zo 6 (.alloc (.agg [.i 0,.i 0,.i 0,.i 0])),Zm 5 32,⟨none,.store 4 (Zt 6) (Zt 34),none⟩] []) (.seq (.drw [Za 35 0 6,Zl 36 35,Zd 37 .lss 36 0,Zm 38 37,⟨(some 39),.fad 0 (Zt 6),(some (38,false))⟩,⟨(some 40),.load 1 false (Zt 39),(some (38,false))⟩,⟨(some 41),.fad 1 (Zt 6),(some (38,false))⟩,⟨(some 42),.load 1 false (Zt 41),(some (38,false))⟩,⟨(some 43),.bin .geq (Zt 40) (Zt 42),(some (38,false))⟩,Zo 44 (.pick (Zt 38) (.c (.b true)) (Zt 43)),Zm 45 44,⟨(some 46),.fad 1 (Zt 6),(some (45,false))⟩,⟨(some 47),.load 1 false (Zt 46),(some (45,false))⟩,⟨(some 48),.fad 0 (Zt 1),(some (45,false))⟩,⟨(some 49),.load 1 false (Zt 48),(some (45,false))⟩,⟨(some 50),.len (Zt 49),(some (45,false))⟩,⟨(some 51),.bin .geq (Zt 47) (Zt 50),(some (45,false))⟩,Zo 52 (.pick (Zt 45) (.c (.b true)) (Zt 51)),Zm 53 52,⟨(some 54),.fad 2 (Zt 6),(some (53,false))⟩,⟨(some 55),.load 1 false (Zt 54),(some (53,false))⟩,⟨(some 56),.call 70 [(Zt 55),(.c (.i 1)),(.c (.i 5000))],(some (53,false))⟩,⟨(some 57),.un .not (Zt 56),(some (53,false))⟩,Zo 58 (.pick (Zt 53) (.c (.b true)) (Zt 57)),Zm 59 58,⟨(some 60),.fad 3 (Zt 6),(some (59,false))⟩,⟨(some 61),.load 1 false (Zt 60),(some (59,false))⟩,⟨(some 62),.call 70 [(Zt 61),(.c (.i 0)),(.c (.i 9))],(some (59,false))⟩,⟨(some 63),.un .not (Zt 62),(some (59,false))⟩,Zo 64 (.pick (Zt 59) (.c (.b true)) (Zt 63)),Zm 65 64,⟨(some 66),.mv (Zt 5),(some (65,false))⟩,⟨(some 67),.bin .gtr (Zt 66) (.c (.i 0)),(some (65,false))⟩,⟨(some 68),.mv (Zt 67),(some (65,false))⟩,⟨(some 69),.fad 1 (Zt 1),(some (68,true))⟩,⟨(some 70),.load 1 false (Zt 69),(some (68,true))⟩,⟨(some 71),.mv (Zt 5),(some (68,true))⟩,⟨(some 72),.bin .sub (Zt 71) (.c (.i 1)),(some (68,true))⟩,⟨(some 73),.idx 4 (Zt 70) (Zt 72),(some (68,true))⟩,⟨(some 74),.load 4 true (Zt 73),(some (68,true))⟩,⟨(some 75),.load 4 true (Zt 6),(some (68,true))⟩,⟨(some 76),.call 99 [(Zt 74),(Zt 75)],(some (68,true))⟩,⟨(some 77),.bin .gtr (Zt 76) (.c (.i 0)),(some (68,true))⟩,⟨(some 78),.pick (Zt 68) (Zt 77) (.c (.b false)),(some (65,false))⟩,Zo 79 (.pick (Zt 65) (.c (.b true)) (Zt 78))] []) (.cond (Zt 79) (.seq (.reg [Zo 2 (.mv (.c (.b false)))] []) .ret) .skip)))) (.reg [Zd 80 .add 30 1,Zm 30 80] []))))
def A57R4:ACode:=(.seq (.reg [Za 81 0 1,Zl 82 81,Zk 83 82,Zo 84 (.call 70 [(Zt 83),(.c (.i 2)),(.c (.i 8))]),Zm 85 84,⟨(some 86),.fad 1 (Zt 1),(some (85,true))⟩,⟨(some 87),.load 1 false (Zt 86),(some (85,true))⟩,⟨(some 88),.len (Zt 87),(some (85,true))⟩,⟨(some 89),.bin .leq (Zt 88) (.c (.i 14)),(some (85,true))⟩,Zo 90 (.pick (Zt 85) (Zt 89) (.c (.b false))),Zm 2 90] []) .ret)
def A57R2:ACode:=(.seqa (.reg [Za 27 1 1,Zl 28 27,Zk 29 28,Zn 30 0] []) (.blk 2 (.loop A57L3)) [1] [1] A57R4)
def A57:ACode:=(.seq (.reg [Zo 1 (.box 2 (Zt 0)),Zo 2 (.mv (.c (.b false)))] []) (.seqa (.reg [Za 7 0 1,Zl 8 7,Zk 9 8,Zn 10 0] []) (.blk 0 (.loop A57L1)) [1] [1] A57R2))
def V57:List RV:=[.t 2]
theorem m57:mtcF Tryz.prog 57 1 A57 V57=true:=by kernel_rfl
def A76L1:ACode:=(.seq (.reg [Zb 9 .lss 8 7] []) (.seq (.cond (Zt 9) .skip (.exit 0)) (.seq (.blk 1 (.seq (.reg [Zm 10 8,Zm 5 10] []) (.seq (.reg [Zm 11 1,Zm 12 0,Zm 13 5,Zx 14 1 12 13,Zl 15 14,Zb 16 .eql 11 15] []) (.cond (Zt 16) (.seq (.reg [Zm 17 5,Zm 4 17] []) .ret) .skip)))) (.reg [Zd 18 .add 8 1,Zm 8 18] []))))
def A76R2:ACode:=(.seq (.reg [Zn 4 (-1)] []) .ret)
def A76:ACode:=(.seq (.reg [Zn 4 0] []) (.seqa (.reg [Zm 6 0,Zk 7 6,Zn 8 0] []) (.blk 0 (.loop A76L1)) [] [] A76R2))
def V76:List RV:=[.t 4]
theorem m76:mtcF Tryz.prog 76 2 A76 V76=true:=by kernel_rfl
def A79:ACode:=(.seq (.reg [Zo 4 (.mv (.c (.b false)))] []) (.seq (.reg [Zm 5 0,Zm 6 1,Zo 7 (.call 76 [(Zt 5),(Zt 6)]),Zd 8 .geq 7 0,Zm 4 8] []) .ret))
def V79:List RV:=[.t 4]
theorem m79:mtcF Tryz.prog 79 2 A79 V79=true:=by kernel_rfl
def A58L1:ACode:=(.seq (.reg [Zb 15 .lss 14 13] []) (.seq (.cond (Zt 15) .skip (.exit 0)) (.seq (.blk 1 (.seq (.reg [Zm 16 14,Zm 6 16] []) (.reg [Zm 17 5,Zm 18 6,Zo 19 (.bsl 1 false [(Zt 18)]),Zo 20 (.app 1 8 true (Zt 17) (Zt 19)),Zm 5 20] [.s 5]))) (.reg [Zd 21 .add 14 1,Zm 14 21] []))))
def A58L3:ACode:=(.seq (.reg [Zb 31 .lss 30 29] []) (.seq (.cond (Zt 31) .skip (.exit 4)) (.seq (.blk 5 (.seq (.reg [Zm 32 30,Zx 33 4 28 30,Zo 34 (.load 4 true (Zt 33)),Zo 8 (.alloc (.agg [.i 0,.i 0,.i 0,.i 0])),Zm 7 32,⟨none,.store 4 (Zt 8) (Zt 34),none⟩] []) (.seq (.reg [Zm 35 1,Zm 36 7,Zo 37 (.call 79 [(Zt 35),(Zt 36)]),Zo 38 (.un .not (Zt 37))] []) (.cond (Zt 38) (.seq (.drw [Zm 39 5,Za 40 0 8,Zl 41 40,Zx 42 1 39 41,Zl 43 42,Zm 44 5,Za 45 1 8,Zl 46 45,Zx 47 1 44 46,Zl 48 47,Zo 49 (.mn (Zt 43) (Zt 48)),Zm 9 49] []) (.drw [Zm 50 5,Za 51 0 8,Zo 52 (.ldv [] 1 false (Zt 51)),Zm 53 5,Za 54 1 8,Zo 55 (.ldv [] 1 false (Zt 54)),Zm 56 9,Zm 57 9,Zx 58 1 50 52,⟨none,.str 1 (Zt 58) (Zt 56),none⟩,Zx 59 1 53 55,⟨none,.str 1 (Zt 59) (Zt 57),none⟩] [])) .skip)))) (.reg [Zd 60 .add 30 1,Zm 30 60] []))))
def A58R4:ACode:=(.reg [Zd 61 .add 25 1,Zm 25 61] [])
def A58L5:ACode:=(.seq (.reg [Zb 26 .lss 25 24] []) (.seq (.cond (Zt 26) .skip (.exit 2)) (.seqr (.blk 3 (.seq (.reg [Za 27 1 2,Zl 28 27,Zk 29 28,Zn 30 0] []) (.blk 4 (.loop A58L3)))) [1,2,5,24,25] [2,5] A58R4)))
def A58R6:ACode:=(.seq (.reg [Zm 62 5,Zm 4 62] [.s 4]) .ret)
def A58R2:ACode:=(.seqa (.reg [Za 22 0 2,Zl 23 22,Zk 24 23,Zn 25 0] []) (.blk 2 (.loop A58L5)) [5] [5] A58R6)
def A58:ACode:=(.seq (.reg [Zo 2 (.box 2 (Zt 0)),Zo 4 (.mv (.c (.lst .u 1 [])))] [.s 4]) (.seq (.reg [Zo 10 (.bsl 1 false []),Zm 5 10] [.s 5]) (.seqa (.reg [Za 11 0 2,Zl 12 11,Zk 13 12,Zn 14 0] []) (.blk 0 (.loop A58L1)) [1,2,5] [2,5] A58R2)))
def V58:List RV:=[.t 4]
theorem m58:mtcF Tryz.prog 58 2 A58 V58=true:=by kernel_rfl
def A24L1:ACode:=(.seq (.reg [Zb 16 .lss 15 14] []) (.seq (.cond (Zt 16) .skip (.exit 0)) (.seq (.blk 1 (.seq (.reg [Zm 17 15,Zx 18 4 13 15,Zo 19 (.load 4 true (Zt 18)),Zo 6 (.alloc (.agg [.i 0,.i 0,.i 0,.i 0])),Zm 5 17,⟨none,.store 4 (Zt 6) (Zt 19),none⟩] []) (.seq (.reg [Zo 20 (.load 2 true (Zt 1)),Zm 21 5,Zo 22 (.bsl 1 false [(Zt 21)]),Zo 23 (.call 58 [(Zt 20),(Zt 22)]),Zm 7 23] [.s 7]) (.seq (.drw [Zm 24 7,Za 25 0 6,Zl 26 25,Zx 27 1 24 26,Zl 28 27,Zm 29 7,Za 30 1 6,Zl 31 30,Zx 32 1 29 31,Zl 33 32,Zb 34 .neq 28 33] []) (.cond (Zt 34) (.reg [Zm 35 4,Zm 36 5,Zo 37 (.bsl 1 false [(Zt 36)]),Zo 38 (.app 1 8 true (Zt 35) (Zt 37)),Zm 4 38] [.s 4]) .skip))))) (.reg [Zd 39 .add 15 1,Zm 15 39] []))))
def A24R2:ACode:=(.seq (.reg [Zm 40 4,Zm 2 40,Zo 3 (.mv (.c (.b true)))] [.s 2]) .ret)
def A24:ACode:=(.seq (.reg [Zo 1 (.box 2 (Zt 0)),Zo 2 (.mv (.c (.lst .u 1 []))),Zo 3 (.mv (.c (.b false)))] [.s 2]) (.seq (.seq (.reg [Zo 8 (.load 2 true (Zt 1)),Zo 9 (.call 57 [(Zt 8)]),Zo 10 (.un .not (Zt 9))] []) (.cond (Zt 10) (.seq (.reg [Zo 2 (.mv (.c (.lst .u 1 []))),Zo 3 (.mv (.c (.b false)))] [.s 2]) .ret) .skip)) (.seq (.reg [Zo 11 (.bsl 1 false []),Zm 4 11] [.s 4]) (.seqa (.reg [Za 12 1 1,Zl 13 12,Zk 14 13,Zn 15 0] []) (.blk 0 (.loop A24L1)) [4] [4] A24R2))))
def V24:List RV:=[.t 2,.t 3]
theorem m24:mtcF Tryz.prog 24 1 A24 V24=true:=by kernel_rfl
def A72:ACode:=(.seq (.reg [Zo 6 (.mv (.c (.b false)))] []) (.seq (.reg [Zm 7 0,Zm 8 1,Zb 9 .geq 7 8,Zm 10 9,⟨(some 11),.mv (Zt 0),(some (10,true))⟩,⟨(some 12),.mv (Zt 2),(some (10,true))⟩,⟨(some 13),.bin .leq (Zt 11) (Zt 12),(some (10,true))⟩,Zo 14 (.pick (Zt 10) (Zt 13) (.c (.b false))),Zm 6 14] []) .ret))
def V72:List RV:=[.t 6]
theorem m72:mtcF Tryz.prog 72 3 A72 V72=true:=by kernel_rfl
def A136:ACode:=(.seq (.reg [Zo 2 (.mv (.c (.b false)))] []) (.seq (.reg [Zm 3 0,Zo 4 (.bin .geq (Zt 3) (.c (.sc (.int .u8 97)))),Zm 5 4,⟨(some 6),.mv (Zt 0),(some (5,true))⟩,⟨(some 7),.bin .leq (Zt 6) (.c (.sc (.int .u8 122))),(some (5,true))⟩,Zo 8 (.pick (Zt 5) (Zt 7) (.c (.b false))),Zm 9 8,⟨(some 10),.mv (Zt 0),(some (9,false))⟩,⟨(some 11),.bin .geq (Zt 10) (.c (.sc (.int .u8 48))),(some (9,false))⟩,⟨(some 12),.mv (Zt 11),(some (9,false))⟩,⟨(some 13),.mv (Zt 0),(some (12,true))⟩,⟨(some 14),.bin .leq (Zt 13) (.c (.sc (.int .u8 57))),(some (12,true))⟩,⟨(some 15),.pick (Zt 12) (Zt 14) (.c (.b false)),(some (9,false))⟩,Zo 16 (.pick (Zt 9) (.c (.b true)) (Zt 15)),Zm 2 16] []) .ret))
def V136:List RV:=[.t 2]
theorem m136:mtcF Tryz.prog 136 1 A136 V136=true:=by kernel_rfl
def A100R1:ACode:=(.cond (Zt 17) (.seq (.reg [Zo 2 (.mv (.c (.b false)))] []) .ret) .skip)
def A100L2:ACode:=(.seq (.seq (.reg [Zm 18 3,Zm 19 0,Zo 20 (.lenz (Zt 19)),Zb 21 .lss 18 20] []) (.cond (Zt 21) .skip (.exit 0))) (.seq (.blk 1 (.seq (.reg [Zm 24 0,Zm 25 3,Zo 26 (.stri (Zt 24) (Zt 25)),Zo 27 (.call 136 [(Zt 26)]),Zo 28 (.un .not (Zt 27))] []) (.cond (Zt 28) (.seq (.reg [Zo 2 (.mv (.c (.b false)))] []) .ret) .skip))) (.reg [Zm 22 3,Zd 23 .add 22 1,Zm 3 23] [])))
def A100R3:ACode:=(.seq (.reg [Zo 2 (.mv (.c (.b true)))] []) .ret)
def A100:ACode:=(.seq (.reg [Zo 2 (.mv (.c (.b false)))] []) (.seq (.seqr (.reg [Zm 4 0,Zo 5 (.lenz (Zt 4)),Zo 6 (.call 72 [(Zt 5),(.c (.i 1)),(.c (.i 8))]),Zo 7 (.un .not (Zt 6)),Zm 8 7,⟨(some 9),.mv (Zt 0),(some (8,false))⟩,⟨(some 10),.stri (Zt 9) (.c (.i 0)),(some (8,false))⟩,⟨(some 11),.bin .lss (Zt 10) (.c (.sc (.int .u8 97))),(some (8,false))⟩,Zo 12 (.pick (Zt 8) (.c (.b true)) (Zt 11)),Zm 13 12,⟨(some 14),.mv (Zt 0),(some (13,false))⟩,⟨(some 15),.stri (Zt 14) (.c (.i 0)),(some (13,false))⟩,⟨(some 16),.bin .gtr (Zt 15) (.c (.sc (.int .u8 122))),(some (13,false))⟩,Zo 17 (.pick (Zt 13) (.c (.b true)) (Zt 16))] []) [0,17] [] A100R1) (.seqa (.reg [Zn 3 0] []) (.blk 0 (.loop A100L2)) [] [] A100R3)))
def V100:List RV:=[.t 2]
theorem m100:mtcF Tryz.prog 100 1 A100 V100=true:=by kernel_rfl
def A101L1:ACode:=(.seq (.seq (.reg [Zm 6 5,Zm 7 0,Zk 8 7,Zb 9 .lss 6 8] []) (.cond (Zt 9) .skip (.exit 0))) (.seq (.blk 1 (.seq (.reg [Zm 12 0,Zm 13 5,Zx 14 1 12 13,Zl 15 14,Zm 16 1,Zb 17 .eql 15 16] []) (.cond (Zt 17) (.seq (.reg [Zm 18 5,Zm 4 18] []) .ret) .skip))) (.reg [Zm 10 5,Zd 11 .add 10 1,Zm 5 11] [])))
def A101R2:ACode:=(.seq (.reg [Zn 4 (-1)] []) .ret)
def A101:ACode:=(.seq (.reg [Zn 4 0] []) (.seqa (.reg [Zn 5 0] []) (.blk 0 (.loop A101L1)) [] [] A101R2))
def V101:List RV:=[.t 4]
theorem m101:mtcF Tryz.prog 101 2 A101 V101=true:=by kernel_rfl
def A102:ACode:=(.seq (.reg [Zo 2 (.box 4 (Zt 0)),Zo 4 (.mv (.c (.b false)))] []) (.seq (.reg [Za 5 0 2,Zl 6 5,Zm 7 1,Zd 8 .sub 7 1,Zo 9 (.call 72 [(Zt 6),(.c (.i 0)),(Zt 8)]),Zm 10 9,⟨(some 11),.fad 1 (Zt 2),(some (10,true))⟩,⟨(some 12),.load 1 false (Zt 11),(some (10,true))⟩,⟨(some 13),.fad 0 (Zt 2),(some (10,true))⟩,⟨(some 14),.load 1 false (Zt 13),(some (10,true))⟩,⟨(some 15),.bin .add (Zt 14) (.c (.i 1)),(some (10,true))⟩,⟨(some 16),.mv (Zt 1),(some (10,true))⟩,⟨(some 17),.bin .sub (Zt 16) (.c (.i 1)),(some (10,true))⟩,⟨(some 18),.call 72 [(Zt 12),(Zt 15),(Zt 17)],(some (10,true))⟩,Zo 19 (.pick (Zt 10) (Zt 18) (.c (.b false))),Zm 20 19,⟨(some 21),.fad 2 (Zt 2),(some (20,true))⟩,⟨(some 22),.load 1 false (Zt 21),(some (20,true))⟩,⟨(some 23),.call 72 [(Zt 22),(.c (.i 1)),(.c (.i 5000))],(some (20,true))⟩,Zo 24 (.pick (Zt 20) (Zt 23) (.c (.b false))),Zm 25 24,⟨(some 26),.fad 3 (Zt 2),(some (25,true))⟩,⟨(some 27),.load 1 false (Zt 26),(some (25,true))⟩,⟨(some 28),.call 72 [(Zt 27),(.c (.i 0)),(.c (.i 9))],(some (25,true))⟩,Zo 29 (.pick (Zt 25) (Zt 28) (.c (.b false))),Zm 4 29] []) .ret))
def V102:List RV:=[.t 4]
theorem m102:mtcF Tryz.prog 102 2 A102 V102=true:=by kernel_rfl
def A59R1:ACode:=(.cond (Zt 15) (.seq (.reg [Zo 2 (.mv (.c (.b false)))] []) .ret) .skip)
def A59R2:ACode:=(.cond (Zt 41) (.seq (.reg [Zo 2 (.mv (.c (.b false)))] []) .ret) .skip)
def A59L3:ACode:=(.seq (.seq (.reg [Zm 16 3,Za 17 0 1,Zl 18 17,Zk 19 18,Zb 20 .lss 16 19] []) (.cond (Zt 20) .skip (.exit 0))) (.seq (.blk 1 (.seqr (.drw [Za 23 0 1,Zl 24 23,Zm 25 3,Zx 26 1 24 25,Zl 27 26,Zo 28 (.call 100 [(Zt 27)]),Zo 29 (.un .not (Zt 28)),Zm 30 29,⟨(some 31),.fad 0 (Zt 1),(some (30,false))⟩,⟨(some 32),.load 1 false (Zt 31),(some (30,false))⟩,⟨(some 33),.fad 0 (Zt 1),(some (30,false))⟩,⟨(some 34),.load 1 false (Zt 33),(some (30,false))⟩,⟨(some 35),.mv (Zt 3),(some (30,false))⟩,⟨(some 36),.idx 1 (Zt 34) (Zt 35),(some (30,false))⟩,⟨(some 37),.load 1 false (Zt 36),(some (30,false))⟩,⟨(some 38),.call 101 [(Zt 32),(Zt 37)],(some (30,false))⟩,⟨(some 39),.mv (Zt 3),(some (30,false))⟩,⟨(some 40),.bin .neq (Zt 38) (Zt 39),(some (30,false))⟩,Zo 41 (.pick (Zt 30) (.c (.b true)) (Zt 40))] []) [1,3,41] [1] A59R2)) (.reg [Zm 21 3,Zd 22 .add 21 1,Zm 3 22] [])))
def A59R5:ACode:=(.cond (Zt 77) (.seq (.reg [Zo 2 (.mv (.c (.b false)))] []) .ret) .skip)
def A59L6:ACode:=(.seq (.seq (.reg [Zm 42 4,Za 43 1 1,Zl 44 43,Zk 45 44,Zb 46 .lss 42 45] []) (.cond (Zt 46) .skip (.exit 2))) (.seq (.blk 3 (.seqr (.drw [Za 49 1 1,Zl 50 49,Zm 51 4,Zx 52 4 50 51,Zo 53 (.load 4 true (Zt 52)),Za 54 0 1,Zl 55 54,Zk 56 55,Zo 57 (.call 102 [(Zt 53),(Zt 56)]),Zo 58 (.un .not (Zt 57)),Zm 59 58,⟨(some 60),.mv (Zt 4),(some (59,false))⟩,⟨(some 61),.bin .gtr (Zt 60) (.c (.i 0)),(some (59,false))⟩,⟨(some 62),.mv (Zt 61),(some (59,false))⟩,⟨(some 63),.fad 1 (Zt 1),(some (62,true))⟩,⟨(some 64),.load 1 false (Zt 63),(some (62,true))⟩,⟨(some 65),.mv (Zt 4),(some (62,true))⟩,⟨(some 66),.bin .sub (Zt 65) (.c (.i 1)),(some (62,true))⟩,⟨(some 67),.idx 4 (Zt 64) (Zt 66),(some (62,true))⟩,⟨(some 68),.load 4 true (Zt 67),(some (62,true))⟩,⟨(some 69),.fad 1 (Zt 1),(some (62,true))⟩,⟨(some 70),.load 1 false (Zt 69),(some (62,true))⟩,⟨(some 71),.mv (Zt 4),(some (62,true))⟩,⟨(some 72),.idx 4 (Zt 70) (Zt 71),(some (62,true))⟩,⟨(some 73),.load 4 true (Zt 72),(some (62,true))⟩,⟨(some 74),.call 103 [(Zt 68),(Zt 73)],(some (62,true))⟩,⟨(some 75),.bin .gtr (Zt 74) (.c (.i 0)),(some (62,true))⟩,⟨(some 76),.pick (Zt 62) (Zt 75) (.c (.b false)),(some (59,false))⟩,Zo 77 (.pick (Zt 59) (.c (.b true)) (Zt 76))] []) [1,4,77] [1] A59R5)) (.reg [Zm 47 4,Zd 48 .add 47 1,Zm 4 48] [])))
def A59R7:ACode:=(.seq (.reg [Zo 2 (.mv (.c (.b true)))] []) .ret)
def A59R4:ACode:=(.seqa (.reg [Zn 4 0] []) (.blk 2 (.loop A59L6)) [] [] A59R7)
def A59:ACode:=(.seq (.reg [Zo 1 (.box 2 (Zt 0)),Zo 2 (.mv (.c (.b false)))] []) (.seq (.seqr (.reg [Za 5 0 1,Zl 6 5,Zk 7 6,Zo 8 (.call 72 [(Zt 7),(.c (.i 2)),(.c (.i 8))]),Zo 9 (.un .not (Zt 8)),Zm 10 9,⟨(some 11),.fad 1 (Zt 1),(some (10,false))⟩,⟨(some 12),.load 1 false (Zt 11),(some (10,false))⟩,⟨(some 13),.len (Zt 12),(some (10,false))⟩,⟨(some 14),.bin .gtr (Zt 13) (.c (.i 14)),(some (10,false))⟩,Zo 15 (.pick (Zt 10) (.c (.b true)) (Zt 14))] []) [1,15] [1] A59R1) (.seqa (.reg [Zn 3 0] []) (.blk 0 (.loop A59L3)) [1] [1] A59R4)))
def V59:List RV:=[.t 2]
theorem m59:mtcF Tryz.prog 59 1 A59 V59=true:=by kernel_rfl
def A60L1:ACode:=(.seq (.seq (.reg [Zm 13 6,Za 14 0 2,Zl 15 14,Zk 16 15,Zb 17 .lss 13 16] []) (.cond (Zt 17) .skip (.exit 0))) (.seq (.blk 1 (.reg [Zm 20 5,Zm 21 6,Zo 22 (.bsl 1 false [(Zt 21)]),Zo 23 (.app 1 8 true (Zt 20) (Zt 22)),Zm 5 23] [.s 5])) (.reg [Zm 18 6,Zd 19 .add 18 1,Zm 6 19] [])))
def A60R3:ACode:=(.cond (Zt 60) (.exit 5) .skip)
def A60L4:ACode:=(.seq (.seq (.reg [Zm 25 8,Za 26 1 2,Zl 27 26,Zk 28 27,Zb 29 .lss 25 28] []) (.cond (Zt 29) .skip (.exit 4))) (.seq (.blk 5 (.seq (.drw [Za 32 1 2,Zl 33 32,Zm 34 8,Zx 35 4 33 34,Za 36 0 35,Zl 37 36,Za 38 1 2,Zl 39 38,Zm 40 8,Zx 41 4 39 40,Za 42 1 41,Zl 43 42,Zm 9 37,Zm 10 43] []) (.seq (.seqr (.drw [Zm 44 1,Zm 45 8,Zo 46 (.conv .u64 (Zt 45)),Zb 47 .shr 44 46,Zd 48 .and 47 1,Zd 49 .eql 48 1,Zm 50 49,⟨(some 51),.mv (Zt 5),(some (50,false))⟩,⟨(some 52),.mv (Zt 9),(some (50,false))⟩,⟨(some 53),.idx 1 (Zt 51) (Zt 52),(some (50,false))⟩,⟨(some 54),.load 1 false (Zt 53),(some (50,false))⟩,⟨(some 55),.mv (Zt 5),(some (50,false))⟩,⟨(some 56),.mv (Zt 10),(some (50,false))⟩,⟨(some 57),.idx 1 (Zt 55) (Zt 56),(some (50,false))⟩,⟨(some 58),.load 1 false (Zt 57),(some (50,false))⟩,⟨(some 59),.bin .eql (Zt 54) (Zt 58),(some (50,false))⟩,Zo 60 (.pick (Zt 50) (.c (.b true)) (Zt 59))] []) [1,2,5,7,8,9,10,60] [2,5] A60R3) (.seq (.drw [Zm 61 5,Zm 62 9,Zx 63 1 61 62,Zl 64 63,Zm 65 5,Zm 66 10,Zx 67 1 65 66,Zl 68 67,Zo 69 (.call 104 [(Zt 64),(Zt 68)]),Zm 11 69] []) (.seq (.reg [Zm 70 5,Zm 71 9,Zm 72 11,Zx 73 1 70 71,⟨none,.store 1 (Zt 73) (Zt 72),none⟩] []) (.seq (.reg [Zm 74 5,Zm 75 10,Zm 76 11,Zx 77 1 74 75,⟨none,.store 1 (Zt 77) (Zt 76),none⟩] []) (.reg [Zo 7 (.mv (.c (.b true)))] []))))))) (.reg [Zm 30 8,Zd 31 .add 30 1,Zm 8 31] [])))
def A60L5:ACode:=(.seq (.seq (.reg [Zm 24 7] []) (.cond (Zt 24) .skip (.exit 2))) (.blk 3 (.seq (.reg [Zo 7 (.mv (.c (.b false)))] []) (.seq (.reg [Zn 8 0] []) (.blk 4 (.loop A60L4))))))
def A60R6:ACode:=(.seq (.reg [Zm 78 5,Zm 4 78] [.s 4]) .ret)
def A60R2:ACode:=(.seqa (.reg [Zo 7 (.mv (.c (.b true)))] []) (.blk 2 (.loop A60L5)) [5] [5] A60R6)
def A60:ACode:=(.seq (.reg [Zo 2 (.box 2 (Zt 0)),Zo 4 (.mv (.c (.lst .u 1 [])))] [.s 4]) (.seq (.reg [Zo 12 (.bsl 1 false []),Zm 5 12] [.s 5]) (.seqa (.reg [Zn 6 0] []) (.blk 0 (.loop A60L1)) [1,2,5] [2,5] A60R2)))
def V60:List RV:=[.t 4]
theorem m60:mtcF Tryz.prog 60 2 A60 V60=true:=by kernel_rfl
def A25L1:ACode:=(.seq (.seq (.reg [Zm 12 5,Za 13 1 1,Zl 14 13,Zk 15 14,Zb 16 .lss 12 15] []) (.cond (Zt 16) .skip (.exit 0))) (.seq (.blk 1 (.seq (.reg [Zo 19 (.load 2 true (Zt 1)),Zm 20 5,Zo 21 (.conv .u64 (Zt 20)),Zo 22 (.bin .shl (.c (.i 1)) (Zt 21)),Zo 23 (.call 60 [(Zt 19),(Zt 22)]),Zm 6 23] [.s 6]) (.seq (.drw [Zm 24 6,Za 25 1 1,Zl 26 25,Zm 27 5,Zx 28 4 26 27,Za 29 0 28,Zl 30 29,Zx 31 1 24 30,Zl 32 31,Zm 33 6,Za 34 1 1,Zl 35 34,Zm 36 5,Zx 37 4 35 36,Za 38 1 37,Zl 39 38,Zx 40 1 33 39,Zl 41 40,Zb 42 .neq 32 41] []) (.cond (Zt 42) (.reg [Zm 43 4,Zm 44 5,Zo 45 (.bsl 1 false [(Zt 44)]),Zo 46 (.app 1 8 true (Zt 43) (Zt 45)),Zm 4 46] [.s 4]) .skip)))) (.reg [Zm 17 5,Zd 18 .add 17 1,Zm 5 18] [])))
def A25R2:ACode:=(.seq (.reg [Zm 47 4,Zm 2 47,Zo 3 (.mv (.c (.b true)))] [.s 2]) .ret)
def A25:ACode:=(.seq (.reg [Zo 1 (.box 2 (Zt 0)),Zo 2 (.mv (.c (.lst .u 1 []))),Zo 3 (.mv (.c (.b false)))] [.s 2]) (.seq (.reg [Zo 7 (.bsl 1 false []),Zm 4 7] [.s 4]) (.seq (.seq (.reg [Zo 8 (.load 2 true (Zt 1)),Zo 9 (.call 59 [(Zt 8)]),Zo 10 (.un .not (Zt 9))] []) (.cond (Zt 10) (.seq (.reg [Zm 11 4,Zm 2 11,Zo 3 (.mv (.c (.b false)))] [.s 2]) .ret) .skip)) (.seqa (.reg [Zn 5 0] []) (.blk 0 (.loop A25L1)) [4] [4] A25R2))))
def V25:List RV:=[.t 2,.t 3]
theorem m25:mtcF Tryz.prog 25 1 A25 V25=true:=by kernel_rfl
def A26L1:ACode:=(.seq (.seq (.reg [Zm 11 5,Zm 12 0,Zk 13 12,Zb 14 .lss 11 13] []) (.cond (Zt 14) .skip (.exit 0))) (.seq (.blk 1 (.seq (.drw [Zm 17 0,Zm 18 5,Zx 19 1 17 18,Zl 20 19,Zm 21 1,Zm 22 5,Zx 23 1 21 22,Zl 24 23,Zb 25 .neq 20 24] []) (.cond (Zt 25) (.seq (.reg [Zo 4 (.mv (.c (.b false)))] []) .ret) .skip))) (.reg [Zm 15 5,Zd 16 .add 15 1,Zm 5 16] [])))
def A26R2:ACode:=(.seq (.reg [Zo 4 (.mv (.c (.b true)))] []) .ret)
def A26:ACode:=(.seq (.reg [Zo 4 (.mv (.c (.b false)))] []) (.seq (.seq (.reg [Zm 6 0,Zk 7 6,Zm 8 1,Zk 9 8,Zb 10 .neq 7 9] []) (.cond (Zt 10) (.seq (.reg [Zo 4 (.mv (.c (.b false)))] []) .ret) .skip)) (.seqa (.reg [Zn 5 0] []) (.blk 0 (.loop A26L1)) [] [] A26R2)))
def V26:List RV:=[.t 4]
theorem m26:mtcF Tryz.prog 26 2 A26 V26=true:=by kernel_rfl
def A27L1:ACode:=(.seq (.seq (.reg [Zm 6 5,Zm 7 0,Zk 8 7,Zb 9 .lss 6 8] []) (.cond (Zt 9) .skip (.exit 0))) (.seq (.blk 1 (.seq (.reg [Zm 12 0,Zm 13 5,Zx 14 1 12 13,Zl 15 14,Zm 16 1,Zb 17 .eql 15 16] []) (.cond (Zt 17) (.seq (.reg [Zo 4 (.mv (.c (.b true)))] []) .ret) .skip))) (.reg [Zm 10 5,Zd 11 .add 10 1,Zm 5 11] [])))
def A27R2:ACode:=(.seq (.reg [Zo 4 (.mv (.c (.b false)))] []) .ret)
def A27:ACode:=(.seq (.reg [Zo 4 (.mv (.c (.b false)))] []) (.seqa (.reg [Zn 5 0] []) (.blk 0 (.loop A27L1)) [] [] A27R2))
def V27:List RV:=[.t 4]
theorem m27:mtcF Tryz.prog 27 2 A27 V27=true:=by kernel_rfl
def A137L1:ACode:=(.seq (.reg [Zb 10 .lss 9 8] []) (.seq (.cond (Zt 10) .skip (.exit 0)) (.seq (.blk 1 (.seq (.reg [Zm 11 9,Zx 12 1 7 9,Zl 13 12,Zm 5 11,Zm 6 13] []) (.seq (.reg [Zm 14 6,Zm 15 1,Zd 16 .sub 15 1,Zo 17 (.call 70 [(Zt 14),(.c (.i 0)),(Zt 16)]),Zo 18 (.un .not (Zt 17)),Zm 19 18,⟨(some 20),.mv (Zt 5),(some (19,false))⟩,⟨(some 21),.bin .gtr (Zt 20) (.c (.i 0)),(some (19,false))⟩,⟨(some 22),.mv (Zt 21),(some (19,false))⟩,⟨(some 23),.mv (Zt 0),(some (22,true))⟩,⟨(some 24),.mv (Zt 5),(some (22,true))⟩,⟨(some 25),.bin .sub (Zt 24) (.c (.i 1)),(some (22,true))⟩,⟨(some 26),.idx 1 (Zt 23) (Zt 25),(some (22,true))⟩,⟨(some 27),.load 1 false (Zt 26),(some (22,true))⟩,⟨(some 28),.mv (Zt 6),(some (22,true))⟩,⟨(some 29),.bin .geq (Zt 27) (Zt 28),(some (22,true))⟩,⟨(some 30),.pick (Zt 22) (Zt 29) (.c (.b false)),(some (19,false))⟩,Zo 31 (.pick (Zt 19) (.c (.b true)) (Zt 30))] []) (.cond (Zt 31) (.seq (.reg [Zo 4 (.mv (.c (.b false)))] []) .ret) .skip)))) (.reg [Zd 32 .add 9 1,Zm 9 32] []))))
def A137R2:ACode:=(.seq (.reg [Zo 4 (.mv (.c (.b true)))] []) .ret)
def A137:ACode:=(.seq (.reg [Zo 4 (.mv (.c (.b false)))] []) (.seqa (.reg [Zm 7 0,Zk 8 7,Zn 9 0] []) (.blk 0 (.loop A137L1)) [] [] A137R2))
def V137:List RV:=[.t 4]
theorem m137:mtcF Tryz.prog 137 2 A137 V137=true:=by kernel_rfl
def A105:ACode:=(.seq (.reg [Zo 2 (.box 2 (Zt 0)),Zo 4 (.mv (.c (.b false)))] []) (.seq (.reg [Zo 5 (.load 2 true (Zt 2)),Zo 6 (.call 57 [(Zt 5)]),Zm 7 6,⟨(some 8),.mv (Zt 1),(some (7,true))⟩,⟨(some 9),.fad 1 (Zt 2),(some (7,true))⟩,⟨(some 10),.load 1 false (Zt 9),(some (7,true))⟩,⟨(some 11),.len (Zt 10),(some (7,true))⟩,⟨(some 12),.call 137 [(Zt 8),(Zt 11)],(some (7,true))⟩,Zo 13 (.pick (Zt 7) (Zt 12) (.c (.b false))),Zm 4 13] []) .ret))
def V105:List RV:=[.t 4]
theorem m105:mtcF Tryz.prog 105 2 A105 V105=true:=by kernel_rfl
def A61:ACode:=(.seq (.reg [Zo 2 (.box 2 (Zt 0)),Zo 4 (.mv (.c (.lst .u 1 []))),Zo 5 (.mv (.c (.b false)))] [.s 4]) (.seq (.seq (.reg [Zo 6 (.load 2 true (Zt 2)),Zm 7 1,Zo 8 (.call 105 [(Zt 6),(Zt 7)]),Zo 9 (.un .not (Zt 8))] []) (.cond (Zt 9) (.seq (.reg [Zo 4 (.mv (.c (.lst .u 1 []))),Zo 5 (.mv (.c (.b false)))] [.s 4]) .ret) .skip)) (.seq (.reg [Zo 10 (.load 2 true (Zt 2)),Zm 11 1,Zo 12 (.call 58 [(Zt 10),(Zt 11)]),Zm 4 12,Zo 5 (.mv (.c (.b true)))] [.s 4]) .ret)))
def V61:List RV:=[.t 4,.t 5]
theorem m61:mtcF Tryz.prog 61 2 A61 V61=true:=by kernel_rfl
def A28:ACode:=(.seq (.reg [Zo 4 (.box 2 (Zt 0)),Zo 8 (.mv (.c (.b false)))] []) (.seq (.reg [Zo 12 (.load 2 true (Zt 4)),Zm 13 1,Zo 14 (.call 61 [(Zt 12),(Zt 13)]),Zm 11 14,Ze 15 11 0,Ze 16 11 1,Zm 9 15,Zm 10 16] [.s 9]) (.seq (.drw [Zm 17 10,Zm 18 17,⟨(some 19),.mv (Zt 2),(some (18,true))⟩,⟨(some 20),.bin .geq (Zt 19) (.c (.i 0)),(some (18,true))⟩,Zo 21 (.pick (Zt 18) (Zt 20) (.c (.b false))),Zm 22 21,⟨(some 23),.mv (Zt 3),(some (22,true))⟩,⟨(some 24),.bin .geq (Zt 23) (.c (.i 0)),(some (22,true))⟩,Zo 25 (.pick (Zt 22) (Zt 24) (.c (.b false))),Zm 26 25,⟨(some 27),.mv (Zt 2),(some (26,true))⟩,⟨(some 28),.mv (Zt 9),(some (26,true))⟩,⟨(some 29),.len (Zt 28),(some (26,true))⟩,⟨(some 30),.bin .lss (Zt 27) (Zt 29),(some (26,true))⟩,Zo 31 (.pick (Zt 26) (Zt 30) (.c (.b false))),Zm 32 31,⟨(some 33),.mv (Zt 3),(some (32,true))⟩,⟨(some 34),.mv (Zt 9),(some (32,true))⟩,⟨(some 35),.len (Zt 34),(some (32,true))⟩,⟨(some 36),.bin .lss (Zt 33) (Zt 35),(some (32,true))⟩,Zo 37 (.pick (Zt 32) (Zt 36) (.c (.b false))),Zm 38 37,⟨(some 39),.mv (Zt 9),(some (38,true))⟩,⟨(some 40),.mv (Zt 2),(some (38,true))⟩,⟨(some 41),.idx 1 (Zt 39) (Zt 40),(some (38,true))⟩,⟨(some 42),.load 1 false (Zt 41),(some (38,true))⟩,⟨(some 43),.mv (Zt 9),(some (38,true))⟩,⟨(some 44),.mv (Zt 3),(some (38,true))⟩,⟨(some 45),.idx 1 (Zt 43) (Zt 44),(some (38,true))⟩,⟨(some 46),.load 1 false (Zt 45),(some (38,true))⟩,⟨(some 47),.bin .neq (Zt 42) (Zt 46),(some (38,true))⟩,Zo 48 (.pick (Zt 38) (Zt 47) (.c (.b false))),Zm 8 48] []) .ret)))
def V28:List RV:=[.t 8]
theorem m28:mtcF Tryz.prog 28 4 A28 V28=true:=by kernel_rfl
def A128:ACode:=(.seq (.reg [Zo 2 (.box 4 (Zt 0)),Zn 4 0] []) (.seq (.seq (.reg [Zm 5 1] []) (.blk 0 (.seq (.reg [Za 7 0 2,Zl 8 7,Zb 9 .eql 5 8,Zm 6 9] []) (.cond (Zt 6) (.seq (.reg [Za 10 1 2,Zl 11 10,Zm 4 11] []) .ret) (.seq (.reg [Za 13 1 2,Zl 14 13,Zb 15 .eql 5 14,Zm 12 15] []) (.cond (Zt 12) (.seq (.reg [Za 16 0 2,Zl 17 16,Zm 4 17] []) .ret) .skip)))))) (.seq (.reg [Zn 4 (-1)] []) .ret)))
def V128:List RV:=[.t 4]
theorem m128:mtcF Tryz.prog 128 2 A128 V128=true:=by kernel_rfl
def A113R1:ACode:=(.cond (Zt 35) (.seq (.reg [Zo 6 (.mv (.c (.lst .u 1 []))),Zn 7 0,Zo 8 (.mv (.c (.b false)))] [.s 6]) .ret) .skip)
def A113L2:ACode:=(.seq (.reg [Zb 18 .lss 17 16] []) (.seq (.cond (Zt 18) .skip (.exit 0)) (.seq (.blk 1 (.seq (.reg [Zm 19 17,Zx 20 1 15 17,Zl 21 20,Zm 11 19,Zm 12 21] []) (.seq (.seqr (.reg [Zm 22 12,Za 23 1 3,Zl 24 23,Zk 25 24,Zd 26 .sub 25 1,Zo 27 (.call 70 [(Zt 22),(.c (.i 0)),(Zt 26)]),Zo 28 (.un .not (Zt 27)),Zm 29 28,⟨(some 30),.mv (Zt 2),(some (29,false))⟩,⟨(some 31),.mv (Zt 11),(some (29,false))⟩,⟨(some 32),.slc 1 (Zt 30) none (some (Zt 31)) none,(some (29,false))⟩,⟨(some 33),.mv (Zt 12),(some (29,false))⟩,⟨(some 34),.call 79 [(Zt 32),(Zt 33)],(some (29,false))⟩,Zo 35 (.pick (Zt 29) (.c (.b true)) (Zt 34))] []) [2,3,9,10,12,15,16,17,35] [3,9] A113R1) (.seq (.reg [Zm 36 9,Zm 37 10,Zo 38 (.bsl 1 false [(Zt 37)]),Zo 39 (.app 1 8 true (Zt 36) (Zt 38)),Zm 9 39] [.s 9]) (.seq (.reg [Za 40 1 3,Zl 41 40,Zm 42 12,Zx 43 4 41 42,Zo 44 (.load 4 true (Zt 43)),Zm 45 10,Zo 46 (.call 128 [(Zt 44),(Zt 45)]),Zm 10 46] []) (.seq (.reg [Zm 47 10,Zd 48 .lss 47 0] []) (.cond (Zt 48) (.seq (.reg [Zo 6 (.mv (.c (.lst .u 1 []))),Zn 7 0,Zo 8 (.mv (.c (.b false)))] [.s 6]) .ret) .skip))))))) (.reg [Zd 49 .add 17 1,Zm 17 49] []))))
def A113R3:ACode:=(.seq (.reg [Zm 50 9,Zm 51 10,Zm 6 50,Zm 7 51,Zo 8 (.mv (.c (.b true)))] [.s 6]) .ret)
def A113:ACode:=(.seq (.reg [Zo 3 (.box 2 (Zt 0)),Zo 6 (.mv (.c (.lst .u 1 []))),Zn 7 0,Zo 8 (.mv (.c (.b false)))] [.s 6]) (.seq (.reg [Zo 13 (.bsl 1 false []),Zm 14 1,Zm 9 13,Zm 10 14] [.s 9]) (.seqa (.reg [Zm 15 2,Zk 16 15,Zn 17 0] []) (.blk 0 (.loop A113L2)) [9,10] [9] A113R3)))
def V113:List RV:=[.t 6,.t 7,.t 8]
theorem m113:mtcF Tryz.prog 113 3 A113 V113=true:=by kernel_rfl
def A114L1:ACode:=(.seq (.seq (.reg [Zm 12 4,Zm 13 0,Zk 14 13,Zb 15 .lss 12 14] []) (.cond (Zt 15) .skip (.exit 0))) (.seq (.blk 1 (.reg [Zm 18 3,Zm 19 0,Zm 20 4,Zx 21 1 19 20,Zl 22 21,Zo 23 (.mn (Zt 18) (Zt 22)),Zm 3 23] [])) (.reg [Zm 16 4,Zd 17 .add 16 1,Zm 4 17] [])))
def A114R2:ACode:=(.seq (.reg [Zm 24 3,Zm 2 24] []) .ret)
def A114:ACode:=(.seq (.reg [Zn 2 0] []) (.seq (.seq (.reg [Zm 5 0,Zk 6 5,Zd 7 .lss 6 1] []) (.cond (Zt 7) (.reg [Zo 8 (.bad),⟨none,.bad,none⟩] []) .skip)) (.seq (.reg [Zm 9 0,Zo 10 (.idx 1 (Zt 9) (.c (.i 0))),Zl 11 10,Zm 3 11] []) (.seqa (.reg [Zn 4 1] []) (.blk 0 (.loop A114L1)) [3] [] A114R2))))
def V114:List RV:=[.t 2]
theorem m114:mtcF Tryz.prog 114 1 A114 V114=true:=by kernel_rfl
def A55:ACode:=(.seq (.reg [Zo 2 (.mv (.c (.lst .u 1 [])))] [.s 2]) (.seq (.seq (.reg [Zm 3 0,Zo 4 (.isn false (Zt 3))] []) (.cond (Zt 4) (.seq (.reg [Zo 2 (.mv (.c (.lst .u 1 [])))] [.s 2]) .ret) .skip)) (.seq (.reg [Zo 5 (.bsl 1 false []),Zm 6 0,Zo 7 (.app 1 8 false (Zt 5) (Zt 6)),Zm 2 7] [.s 2]) .ret)))
def V55:List RV:=[.t 2]
theorem m55:mtcF Tryz.prog 55 1 A55 V55=true:=by kernel_rfl
def A115M1L1:ACode:=(.seq (.seq (.reg [Zm 7 2,Zm 8 3,Zb 9 .lss 7 8] []) (.cond (Zt 9) .skip (.exit 0))) (.seq (.blk 1 (.drw [Zm 14 0,Zm 15 2,Zm 16 0,Zm 17 3,Zm 18 0,Zm 19 3,Zx 20 1 18 19,Zl 21 20,Zm 22 0,Zm 23 2,Zx 24 1 22 23,Zl 25 24,Zx 26 1 14 15,⟨none,.store 1 (Zt 26) (Zt 21),none⟩,Zx 27 1 16 17,⟨none,.store 1 (Zt 27) (Zt 25),none⟩] [])) (.reg [Zm 10 2,Zd 11 .add 10 1,Zm 12 3,Zd 13 .sub 12 1,Zm 2 11,Zm 3 13] [])))
def A115M1:ACode:=(.seq (.reg [Zm 4 0,Zk 5 4,Zd 6 .sub 5 1,Zn 2 0,Zm 3 6] []) (.blk 0 (.loop A115M1L1)))
def V115M1:List RV:=[]
theorem m115M1:mtcF Tryz.prog 115 1 A115M1 V115M1=true:=by kernel_rfl
def A116L1:ACode:=(.seq (.reg [Zb 12 .lss 11 10] []) (.seq (.cond (Zt 12) .skip (.exit 0)) (.seq (.blk 1 (.seq (.reg [Zm 13 11,Zx 14 1 9 11,Zl 15 14,Zm 5 13,Zm 6 15] []) (.seq (.seq (.reg [Zm 16 5,Zm 17 1,Zk 18 17,Zb 19 .geq 16 18] []) (.cond (Zt 19) (.seq (.reg [Zn 4 1] []) .ret) .skip)) (.seq (.reg [Zm 20 1,Zm 21 5,Zx 22 1 20 21,Zl 23 22,Zm 7 23] []) (.seq (.reg [Zm 24 6,Zm 25 7,Zo 26 (.call 121 [(Zt 24),(Zt 25)]),Zm 8 26] []) (.seq (.reg [Zm 27 8,Zd 28 .neq 27 0] []) (.cond (Zt 28) (.seq (.reg [Zm 29 8,Zm 4 29] []) .ret) .skip))))))) (.reg [Zd 30 .add 11 1,Zm 11 30] []))))
def A116R2:ACode:=(.seq (.seq (.reg [Zm 31 0,Zk 32 31,Zm 33 1,Zk 34 33,Zb 35 .lss 32 34] []) (.cond (Zt 35) (.seq (.reg [Zn 4 (-1)] []) .ret) .skip)) (.seq (.reg [Zn 4 0] []) .ret))
def A116:ACode:=(.seq (.reg [Zn 4 0] []) (.seqa (.reg [Zm 9 0,Zk 10 9,Zn 11 0] []) (.blk 0 (.loop A116L1)) [0,1] [] A116R2))
def V116:List RV:=[.t 4]
theorem m116:mtcF Tryz.prog 116 2 A116 V116=true:=by kernel_rfl
def A75R1:ACode:=(.cond (Zt 26) (.seq (.reg [Zo 4 (.mv (.c (.lst .u 1 []))),Zo 5 (.mv (.c (.b false)))] [.s 4]) .ret) .skip)
def A75R2:ACode:=(.cond (Zt 55) (.seq (.reg [Zo 4 (.mv (.c (.lst .u 1 []))),Zo 5 (.mv (.c (.b false)))] [.s 4]) .ret) .skip)
def A75L3:ACode:=(.seq (.reg [Zb 59 .lss 58 57] []) (.seq (.cond (Zt 59) .skip (.exit 0)) (.seq (.blk 1 (.seq (.reg [Zm 60 58,Zx 61 1 56 58,Zl 62 61,Zm 10 60,Zm 11 62] []) (.seq (.reg [Zm 63 7,Zm 64 10,Zo 65 (.slc 1 (Zt 63) none (some (Zt 64)) none),Zm 66 11,Zo 67 (.call 79 [(Zt 65),(Zt 66)])] []) (.cond (Zt 67) (.seq (.reg [Zo 4 (.mv (.c (.lst .u 1 []))),Zo 5 (.mv (.c (.b false)))] [.s 4]) .ret) .skip)))) (.reg [Zd 68 .add 58 1,Zm 58 68] []))))
def A75R4:ACode:=(.seq (.reg [Zm 69 1,Zo 70 (.call 55 [(Zt 69)]),Zm 12 70] [.s 12]) (.seq (.reg [Zm 71 12,Zo 72 (.callM 115 [(Zt 71)] [12])] []) (.seq (.reg [Zm 73 7,Zm 74 1,Zm 75 12,Zo 76 (.call 116 [(Zt 74),(Zt 75)]),Zd 77 .lss 76 0,Zm 4 73,Zm 5 77] [.s 4]) .ret)))
def A75:ACode:=(.seq (.reg [Zo 2 (.box 2 (Zt 0)),Zo 4 (.mv (.c (.lst .u 1 []))),Zo 5 (.mv (.c (.b false)))] [.s 4]) (.seq (.seqr (.drw [Zm 13 1,Zk 14 13,Zd 15 .lss 14 2,Zm 16 15,⟨(some 17),.mv (Zt 1),(some (16,false))⟩,⟨(some 18),.idx 1 (Zt 17) (.c (.i 0)),(some (16,false))⟩,⟨(some 19),.load 1 false (Zt 18),(some (16,false))⟩,⟨(some 20),.fad 1 (Zt 2),(some (16,false))⟩,⟨(some 21),.load 1 false (Zt 20),(some (16,false))⟩,⟨(some 22),.len (Zt 21),(some (16,false))⟩,⟨(some 23),.bin .sub (Zt 22) (.c (.i 1)),(some (16,false))⟩,⟨(some 24),.call 70 [(Zt 19),(.c (.i 0)),(Zt 23)],(some (16,false))⟩,⟨(some 25),.un .not (Zt 24),(some (16,false))⟩,Zo 26 (.pick (Zt 16) (.c (.b true)) (Zt 25))] []) [1,2,26] [2] A75R1) (.seq (.drw [Za 27 1 2,Zl 28 27,Zm 29 1,Zo 30 (.idx 1 (Zt 29) (.c (.i 0))),Zl 31 30,Zx 32 4 28 31,Za 33 0 32,Zl 34 33,Zm 6 34] []) (.seq (.reg [Zo 36 (.load 2 true (Zt 2)),Zm 37 6,Zm 38 1,Zo 39 (.call 113 [(Zt 36),(Zt 37),(Zt 38)]),Zm 35 39,Ze 40 35 0,Ze 41 35 1,Ze 42 35 2,Zm 7 40,Zm 8 41,Zm 9 42] [.s 7]) (.seq (.seqr (.reg [Zm 43 9,Zo 44 (.un .not (Zt 43)),Zm 45 44,⟨(some 46),.mv (Zt 8),(some (45,false))⟩,⟨(some 47),.mv (Zt 6),(some (45,false))⟩,⟨(some 48),.bin .neq (Zt 46) (Zt 47),(some (45,false))⟩,Zo 49 (.pick (Zt 45) (.c (.b true)) (Zt 48)),Zm 50 49,⟨(some 51),.mv (Zt 7),(some (50,false))⟩,⟨(some 52),.call 114 [(Zt 51)],(some (50,false))⟩,⟨(some 53),.mv (Zt 6),(some (50,false))⟩,⟨(some 54),.bin .neq (Zt 52) (Zt 53),(some (50,false))⟩,Zo 55 (.pick (Zt 50) (.c (.b true)) (Zt 54))] []) [1,7,55] [7] A75R2) (.seqa (.reg [Zm 56 7,Zk 57 56,Zn 58 0] []) (.blk 0 (.loop A75L3)) [1,7] [7] A75R4))))))
def V75:List RV:=[.t 4,.t 5]
theorem m75:mtcF Tryz.prog 75 2 A75 V75=true:=by kernel_rfl
def A129M2R1:ACode:=(.cond (Zt 35) (.exit 1) .skip)
def A129M2L2:ACode:=(.seq (.reg [Zb 21 .lss 20 19] []) (.seq (.cond (Zt 21) .skip (.exit 0)) (.seq (.blk 1 (.seq (.reg [Zm 22 20,Zx 23 4 18 20,Zo 24 (.load 4 true (Zt 23)),Zo 12 (.alloc (.agg [.i 0,.i 0,.i 0,.i 0])),Zm 11 22,⟨none,.store 4 (Zt 12) (Zt 24),none⟩] []) (.seq (.reg [Zo 25 (.load 4 true (Zt 12)),Zm 26 1,Zo 27 (.call 128 [(Zt 25),(Zt 26)]),Zm 13 27] []) (.seq (.seqr (.reg [Zm 28 13,Zm 29 0,Zb 30 .lss 28 29,Zm 31 30,⟨(some 32),.mv (Zt 3),(some (31,false))⟩,⟨(some 33),.mv (Zt 11),(some (31,false))⟩,⟨(some 34),.call 79 [(Zt 32),(Zt 33)],(some (31,false))⟩,Zo 35 (.pick (Zt 31) (.c (.b true)) (Zt 34))] []) [0,1,2,3,4,5,6,11,13,18,19,20,35] [470000128,1000000001,1000000002,1000000004] A129M2R1) (.seq (.reg [Zm 36 3,Zm 37 3,Zk 38 37,Zm 39 3,Zk 40 39,Zo 41 (.slc 1 (Zt 36) none (some (Zt 38)) (some (Zt 40))),Zm 42 11,Zo 43 (.bsl 1 false [(Zt 42)]),Zo 44 (.app 1 8 true (Zt 41) (Zt 43)),Zm 14 44] [.s 14]) (.seq (.reg [Zm 45 13,Zm 46 0,Zb 47 .eql 45 46] []) (.cond (Zt 47) (.seq (.reg [Zo 49 (.load 2 true (Zt 4)),Zm 50 14,Zo 51 (.call 75 [(Zt 49),(Zt 50)]),Zm 48 51,Ze 52 48 0,Ze 53 48 1,Zm 15 52,Zm 16 53] [.s 15]) (.seq (.reg [Zm 54 16] []) (.cond (Zt 54) (.reg [Zl 55 5,Zm 56 14,Zo 57 (.bsl 1 false [(Zt 56)]),Zo 58 (.app 1 24 true (Zt 55) (Zt 57)),⟨none,.store 1 (Zt 5) (Zt 58),none⟩] [.f true 470000128 1000000002 0]) .skip))) (.seq (.reg [Zm 59 2,Zm 60 13,Zb 61 .shr 59 60,Zd 62 .and 61 1,Zd 63 .eql 62 0] []) (.cond (Zt 63) (.drw [Zl 64 6,Zm 65 0,Zm 66 13,Zm 67 2,Zm 68 13,Zo 69 (.bin .shl (.c (.i 1)) (Zt 68)),Zb 70 .or 67 69,Zm 71 14,Zo 72 (.dynM (Zt 64) [(Zt 65),(Zt 66),(Zt 70),(Zt 71)] [14,1000000001,1000000002,470000128,1000000004])] [.f true 470000128 1000000002 0]) .skip))))))))) (.reg [Zd 73 .add 20 1,Zm 20 73] []))))
def A129M2:ACode:=(.seq (.reg [Za 17 1 4,Zl 18 17,Zk 19 18,Zn 20 0] [.z 3,.f true 470000128 1000000002 0]) (.blk 0 (.loop A129M2L2)))
def V129M2:List RV:=[]
theorem m129M2:mtcF Tryz.prog 129 7 A129M2 V129M2=true:=by kernel_rfl
def A129M1R1:ACode:=(.cond (Zt 35) (.exit 1) .skip)
def A129M1L2:ACode:=(.seq (.reg [Zb 21 .lss 20 19] []) (.seq (.cond (Zt 21) .skip (.exit 0)) (.seq (.blk 1 (.seq (.reg [Zm 22 20,Zx 23 4 18 20,Zo 24 (.load 4 true (Zt 23)),Zo 12 (.alloc (.agg [.i 0,.i 0,.i 0,.i 0])),Zm 11 22,⟨none,.store 4 (Zt 12) (Zt 24),none⟩] []) (.seq (.reg [Zo 25 (.load 4 true (Zt 12)),Zm 26 1,Zo 27 (.call 128 [(Zt 25),(Zt 26)]),Zm 13 27] []) (.seq (.seqr (.reg [Zm 28 13,Zm 29 0,Zb 30 .lss 28 29,Zm 31 30,⟨(some 32),.mv (Zt 3),(some (31,false))⟩,⟨(some 33),.mv (Zt 11),(some (31,false))⟩,⟨(some 34),.call 79 [(Zt 32),(Zt 33)],(some (31,false))⟩,Zo 35 (.pick (Zt 31) (.c (.b true)) (Zt 34))] []) [0,1,2,3,4,5,6,11,13,18,19,20,35] [470000064,1000000000,1000000001,1000000003] A129M1R1) (.seq (.reg [Zm 36 3,Zm 37 3,Zk 38 37,Zm 39 3,Zk 40 39,Zo 41 (.slc 1 (Zt 36) none (some (Zt 38)) (some (Zt 40))),Zm 42 11,Zo 43 (.bsl 1 false [(Zt 42)]),Zo 44 (.app 1 8 true (Zt 41) (Zt 43)),Zm 14 44] [.s 14]) (.seq (.reg [Zm 45 13,Zm 46 0,Zb 47 .eql 45 46] []) (.cond (Zt 47) (.seq (.reg [Zo 49 (.load 2 true (Zt 4)),Zm 50 14,Zo 51 (.call 75 [(Zt 49),(Zt 50)]),Zm 48 51,Ze 52 48 0,Ze 53 48 1,Zm 15 52,Zm 16 53] [.s 15]) (.seq (.reg [Zm 54 16] []) (.cond (Zt 54) (.reg [Zl 55 5,Zm 56 14,Zo 57 (.bsl 1 false [(Zt 56)]),Zo 58 (.app 1 24 true (Zt 55) (Zt 57)),⟨none,.store 1 (Zt 5) (Zt 58),none⟩] [.f true 470000064 1000000001 0]) .skip))) (.seq (.reg [Zm 59 2,Zm 60 13,Zb 61 .shr 59 60,Zd 62 .and 61 1,Zd 63 .eql 62 0] []) (.cond (Zt 63) (.drw [Zl 64 6,Zm 65 0,Zm 66 13,Zm 67 2,Zm 68 13,Zo 69 (.bin .shl (.c (.i 1)) (Zt 68)),Zb 70 .or 67 69,Zm 71 14,Zo 72 (.dynM (Zt 64) [(Zt 65),(Zt 66),(Zt 70),(Zt 71)] [14,1000000000,1000000001,470000064,1000000003])] [.f true 470000064 1000000001 0]) .skip))))))))) (.reg [Zd 73 .add 20 1,Zm 20 73] []))))
def A129M1:ACode:=(.seq (.reg [Za 17 1 4,Zl 18 17,Zk 19 18,Zn 20 0] [.z 3,.f true 470000064 1000000001 0]) (.blk 0 (.loop A129M1L2)))
def V129M1:List RV:=[]
theorem m129M1:mtcF Tryz.prog 129 7 A129M1 V129M1=true:=by kernel_rfl
def A131:ACode:=(.seq (.reg [Zn 4 0] []) (.seq (.reg [Zm 5 0,Zk 6 5,Zm 7 1,Zk 8 7,Zo 9 (.call 121 [(Zt 6),(Zt 8)]),Zm 10 0,Zm 11 1,Zo 12 (.call 116 [(Zt 10),(Zt 11)]),Zo 13 (.bsl 1 false [(Zt 9),(Zt 12)]),Zo 14 (.call 120 [(Zt 13)]),Zm 4 14] []) .ret))
def V131:List RV:=[.t 4]
theorem m131:mtcF Tryz.prog 131 2 A131 V131=true:=by kernel_rfl
def A89L1:ACode:=(.seq (.reg [Zb 12 .lss 11 10] []) (.seq (.cond (Zt 12) .skip (.exit 0)) (.seq (.blk 1 (.seq (.reg [Zm 13 11,Zm 5 13] []) (.drw [Zl 14 4,Zm 15 5,Zm 16 5,Zm 17 5,Zo 18 (.bin .shl (.c (.i 1)) (Zt 17)),Zo 19 (.dynM (Zt 14) [(Zt 15),(Zt 16),(Zt 18),(.c (.lst .u 1 []))] [1,3,500000192,4])] [.f false 500000192 3 0]))) (.reg [Zd 20 .add 11 1,Zm 11 20] []))))
def A89R2:ACode:=(.seq (.reg [Zl 21 3,Zo 22 (.callM 130 [(Zt 21),(.c (.fn 131 []))] [500000192])] []) (.seq (.reg [Zl 23 3,Zm 2 23] [.s 2]) .ret))
def A89:ACode:=(.seq (.reg [Zo 1 (.box 2 (Zt 0)),Zo 2 (.mv (.c (.lst .u 1 [])))] [.s 2]) (.seq (.reg [Zo 6 (.bsl 1 false []),Zo 3 (.alloc (.lst .u 1 [])),⟨none,.store 1 (Zt 3) (Zt 6),none⟩] [.f false 500000192 3 0]) (.seq (.reg [Zo 4 (.alloc (.sc .nilFunc))] []) (.seq (.reg [Zo 7 (.mkf 129 [(Zt 1),(Zt 3),(Zt 4)]),⟨none,.store 1 (Zt 4) (Zt 7),none⟩] []) (.seqa (.reg [Za 8 0 1,Zl 9 8,Zk 10 9,Zn 11 0] []) (.blk 0 (.loop A89L1)) [3] [3,500000192] A89R2)))))
def V89:List RV:=[.t 2]
theorem m89:mtcF Tryz.prog 89 1 A89 V89=true:=by kernel_rfl
def A41:ACode:=(.seq (.reg [Zo 1 (.box 2 (Zt 0)),Zo 2 (.mv (.c (.lst .u 1 []))),Zo 3 (.mv (.c (.b false)))] [.s 2]) (.seq (.seq (.reg [Zo 5 (.load 2 true (Zt 1)),Zo 6 (.call 57 [(Zt 5)]),Zo 7 (.un .not (Zt 6))] []) (.cond (Zt 7) (.seq (.reg [Zo 2 (.mv (.c (.lst .u 1 []))),Zo 3 (.mv (.c (.b false)))] [.s 2]) .ret) .skip)) (.seq (.reg [Zo 8 (.load 2 true (Zt 1)),Zo 9 (.call 89 [(Zt 8)]),Zm 4 9] [.s 4]) (.seq (.seq (.reg [Zm 10 4,Zk 11 10,Zd 12 .gtr 11 60] []) (.cond (Zt 12) (.seq (.reg [Zo 2 (.mv (.c (.lst .u 1 []))),Zo 3 (.mv (.c (.b false)))] [.s 2]) .ret) .skip)) (.seq (.reg [Zm 13 4,Zm 2 13,Zo 3 (.mv (.c (.b true)))] [.s 2]) .ret)))))
def V41:List RV:=[.t 2,.t 3]
theorem m41:mtcF Tryz.prog 41 1 A41 V41=true:=by kernel_rfl
def A152R3:ACode:=(.seq (.reg [Zm 19 2,Zm 20 0,Zo 21 (.conv .u8 (Zt 20)),Zo 22 (.stri (.c (.z ⟨#[0,1,2,2,3,3,3,3,4,4,4,4,4,4,4,4,5,5,5,5,5,5,5,5,5,5,5,5,5,5,5,5,6,6,6,6,6,6,6,6,6,6,6,6,6,6,6,6,6,6,6,6,6,6,6,6,6,6,6,6,6,6,6,6,7,7,7,7,7,7,7,7,7,7,7,7,7,7,7,7,7,7,7,7,7,7,7,7,7,7,7,7,7,7,7,7,7,7,7,7,7,7,7,7,7,7,7,7,7,7,7,7,7,7,7,7,7,7,7,7,7,7,7,7,7,7,7,7,8,8,8,8,8,8,8,8,8,8,8,8,8,8,8,8,8,8,8,8,8,8,8,8,8,8,8,8,8,8,8,8,8,8,8,8,8,8,8,8,8,8,8,8,8,8,8,8,8,8,8,8,8,8,8,8,8,8,8,8,8,8,8,8,8,8,8,8,8,8,8,8,8,8,8,8,8,8,8,8,8,8,8,8,8,8,8,8,8,8,8,8,8,8,8,8,8,8,8,8,8,8,8,8,8,8,8,8,8,8,8,8,8,8,8,8,8,8,8,8,8,8,8,8,8,8,8,8]⟩)) (Zt 21)),Zo 23 (.conv .i64 (Zt 22)),Zb 24 .add 19 23,Zm 2 24] []) .ret)
def A152R2:ACode:=(.seqr (.seq (.reg [Zm 13 0,Zo 14 (.bin .geq (Zt 13) (.c (.sc (.int .u64 256))))] []) (.cond (Zt 14) (.seq (.reg [Zm 15 0,Zo 16 (.bin .shr (Zt 15) (.c (.sc (.int .u64 8)))),Zm 0 16] []) (.reg [Zm 17 2,Zd 18 .add 17 8,Zm 2 18] [])) .skip)) [0,2] [] A152R3)
def A152R1:ACode:=(.seqr (.seq (.reg [Zm 7 0,Zo 8 (.bin .geq (Zt 7) (.c (.sc (.int .u64 65536))))] []) (.cond (Zt 8) (.seq (.reg [Zm 9 0,Zo 10 (.bin .shr (Zt 9) (.c (.sc (.int .u64 16)))),Zm 0 10] []) (.reg [Zm 11 2,Zd 12 .add 11 16,Zm 2 12] [])) .skip)) [0,2] [] A152R2)
def A152:ACode:=(.seq (.reg [Zn 2 0] []) (.seqr (.seq (.reg [Zm 3 0,Zo 4 (.bin .geq (Zt 3) (.c (.sc (.int .u64 4294967296))))] []) (.cond (Zt 4) (.seq (.reg [Zm 5 0,Zo 6 (.bin .shr (Zt 5) (.c (.sc (.int .u64 32)))),Zm 0 6] []) (.reg [Zn 2 32] [])) .skip)) [0,2] [] A152R1))
def V152:List RV:=[.t 2]
theorem m152:mtcF Tryz.prog 152 1 A152 V152=true:=by kernel_rfl
def A119:ACode:=(.seq (.reg [Zn 2 0] []) (.seq (.cond (.c (.b false)) (.seq (.reg [Zm 3 0,Zo 4 (.conv .u32 (Zt 3)),Zo 5 (.call 151 [(Zt 4)]),Zm 2 5] []) .ret) .skip) (.seq (.reg [Zm 6 0,Zo 7 (.call 152 [(Zt 6)]),Zm 2 7] []) .ret)))
def V119:List RV:=[.t 2]
theorem m119:mtcF Tryz.prog 119 1 A119 V119=true:=by kernel_rfl
def A164:ACode:=(.seq (.reg [Zo 4 (.mv (.c (.b false)))] []) (.seq (.reg [Zm 5 0,Zo 6 (.call 153 [(Zt 5)]),Zm 7 6,⟨(some 8),.mv (Zt 1),(some (7,true))⟩,⟨(some 9),.call 153 [(Zt 8)],(some (7,true))⟩,⟨(some 10),.un .not (Zt 9),(some (7,true))⟩,Zo 11 (.pick (Zt 7) (Zt 10) (.c (.b false))),Zm 12 11,⟨(some 13),.mv (Zt 0),(some (12,false))⟩,⟨(some 14),.mv (Zt 1),(some (12,false))⟩,⟨(some 15),.bin .lss (Zt 13) (Zt 14),(some (12,false))⟩,Zo 16 (.pick (Zt 12) (.c (.b true)) (Zt 15)),Zm 4 16] []) .ret))
def V164:List RV:=[.t 4]
theorem m164:mtcF Tryz.prog 164 2 A164 V164=true:=by kernel_rfl
def A158M1R1:ACode:=(.cond (Zt 30) .skip (.exit 2))
def A158M1L2:ACode:=(.seq (.seqr (.drw [Zm 16 7,Zm 17 1,Zb 18 .gtr 16 17,Zm 19 18,⟨(some 20),.mv (Zt 0),(some (19,true))⟩,⟨(some 21),.mv (Zt 7),(some (19,true))⟩,⟨(some 22),.idx 1 (Zt 20) (Zt 21),(some (19,true))⟩,⟨(some 23),.load 1 false (Zt 22),(some (19,true))⟩,⟨(some 24),.mv (Zt 0),(some (19,true))⟩,⟨(some 25),.mv (Zt 7),(some (19,true))⟩,⟨(some 26),.bin .sub (Zt 25) (.c (.i 1)),(some (19,true))⟩,⟨(some 27),.idx 1 (Zt 24) (Zt 26),(some (19,true))⟩,⟨(some 28),.load 1 false (Zt 27),(some (19,true))⟩,⟨(some 29),.call 164 [(Zt 23),(Zt 28)],(some (19,true))⟩,Zo 30 (.pick (Zt 19) (Zt 29) (.c (.b false)))] []) [0,1,2,6,7,30] [1000000000] A158M1R1) (.seq (.blk 3 (.drw [Zm 33 0,Zm 34 7,Zm 35 0,Zm 36 7,Zd 37 .sub 36 1,Zm 38 0,Zm 39 7,Zd 40 .sub 39 1,Zx 41 1 38 40,Zl 42 41,Zm 43 0,Zm 44 7,Zx 45 1 43 44,Zl 46 45,Zx 47 1 33 34,⟨none,.store 1 (Zt 47) (Zt 42),none⟩,Zx 48 1 35 37,⟨none,.store 1 (Zt 48) (Zt 46),none⟩] [])) (.reg [Zm 31 7,Zd 32 .sub 31 1,Zm 7 32] [])))
def A158M1R3:ACode:=(.reg [Zm 13 6,Zd 14 .add 13 1,Zm 6 14] [])
def A158M1L4:ACode:=(.seq (.seq (.reg [Zm 10 6,Zm 11 2,Zb 12 .lss 10 11] []) (.cond (Zt 12) .skip (.exit 0))) (.seqr (.blk 1 (.seq (.reg [Zm 15 6,Zm 7 15] []) (.blk 2 (.loop A158M1L2)))) [0,1,2,6] [1000000000] A158M1R3))
def A158M1:ACode:=(.seq (.reg [Zm 8 1,Zd 9 .add 8 1,Zm 6 9] []) (.blk 0 (.loop A158M1L4)))
def V158M1:List RV:=[]
theorem m158M1:mtcF Tryz.prog 158 3 A158M1 V158M1=true:=by kernel_rfl
def A138M1L1:ACode:=(.blk 1 (.seq (.reg [Zm 19 2,Zm 20 1,Zb 21 .sub 19 20,Zm 10 21] []) (.seq (.seq (.reg [Zm 22 10,Zd 23 .leq 22 12] []) (.cond (Zt 23) (.seq (.reg [Zm 24 0,Zm 25 1,Zm 26 2,Zo 27 (.callM 158 [(Zt 24),(Zt 25),(Zt 26)] [1000000000])] []) .ret) .skip)) (.seq (.seq (.reg [Zm 28 3,Zd 29 .eql 28 0] []) (.cond (Zt 29) (.seq (.reg [Zm 30 0,Zm 31 1,Zm 32 2,Zo 33 (.call 159 [(Zt 30),(Zt 31),(Zt 32)])] []) .ret) .skip)) (.seq (.seq (.reg [Zm 34 8,Zo 35 (.un .not (Zt 34))] []) (.cond (Zt 35) (.seq (.reg [Zm 36 0,Zm 37 1,Zm 38 2,Zo 39 (.call 160 [(Zt 36),(Zt 37),(Zt 38)])] []) (.reg [Zm 40 3,Zd 41 .sub 40 1,Zm 3 41] [])) .skip)) (.seq (.reg [Zm 43 0,Zm 44 1,Zm 45 2,Zo 46 (.call 161 [(Zt 43),(Zt 44),(Zt 45)]),Zm 42 46,Ze 47 42 0,Ze 48 42 1,Zm 11 47,Zm 12 48] []) (.seq (.seq (.reg [Zm 49 12,Zd 50 .eql 49 2] []) (.cond (Zt 50) (.seq (.reg [Zm 51 0,Zm 52 1,Zm 53 2,Zo 54 (.call 162 [(Zt 51),(Zt 52),(Zt 53)])] []) (.seq (.reg [Zm 55 2,Zd 56 .sub 55 1,Zm 57 11,Zm 58 1,Zb 59 .sub 57 58,Zb 60 .sub 56 59,Zm 11 60] []) (.reg [Zn 12 1] []))) .skip)) (.seq (.seq (.reg [Zm 61 8,Zm 62 61,⟨(some 63),.mv (Zt 9),(some (62,true))⟩,Zo 64 (.pick (Zt 62) (Zt 63) (.c (.b false))),Zm 65 64,⟨(some 66),.mv (Zt 12),(some (65,true))⟩,⟨(some 67),.bin .eql (Zt 66) (.c (.i 1)),(some (65,true))⟩,Zo 68 (.pick (Zt 65) (Zt 67) (.c (.b false)))] []) (.cond (Zt 68) (.seq (.reg [Zm 69 0,Zm 70 1,Zm 71 2,Zo 72 (.call 163 [(Zt 69),(Zt 70),(Zt 71)])] []) (.cond (Zt 72) .ret .skip)) .skip)) (.seq (.seq (.drw [Zm 73 1,Zd 74 .gtr 73 0,Zm 75 74,⟨(some 76),.mv (Zt 0),(some (75,true))⟩,⟨(some 77),.mv (Zt 1),(some (75,true))⟩,⟨(some 78),.bin .sub (Zt 77) (.c (.i 1)),(some (75,true))⟩,⟨(some 79),.idx 1 (Zt 76) (Zt 78),(some (75,true))⟩,⟨(some 80),.load 1 false (Zt 79),(some (75,true))⟩,⟨(some 81),.mv (Zt 0),(some (75,true))⟩,⟨(some 82),.mv (Zt 11),(some (75,true))⟩,⟨(some 83),.idx 1 (Zt 81) (Zt 82),(some (75,true))⟩,⟨(some 84),.load 1 false (Zt 83),(some (75,true))⟩,⟨(some 85),.call 164 [(Zt 80),(Zt 84)],(some (75,true))⟩,⟨(some 86),.un .not (Zt 85),(some (75,true))⟩,Zo 87 (.pick (Zt 75) (Zt 86) (.c (.b false)))] []) (.cond (Zt 87) (.seq (.reg [Zm 88 0,Zm 89 1,Zm 90 2,Zm 91 11,Zo 92 (.call 165 [(Zt 88),(Zt 89),(Zt 90),(Zt 91)]),Zm 13 92] []) (.seq (.reg [Zm 93 13,Zm 1 93] []) (.exit 1))) .skip)) (.seq (.reg [Zm 95 0,Zm 96 1,Zm 97 2,Zm 98 11,Zo 99 (.call 166 [(Zt 95),(Zt 96),(Zt 97),(Zt 98)]),Zm 94 99,Ze 100 94 0,Ze 101 94 1,Zm 14 100,Zm 15 101] []) (.seq (.reg [Zm 102 15,Zm 9 102] []) (.seq (.reg [Zm 103 14,Zm 104 1,Zb 105 .sub 103 104,Zm 106 2,Zm 107 14,Zb 108 .sub 106 107,Zm 16 105,Zm 17 108] []) (.seq (.reg [Zm 109 10,Zd 110 .quo 109 8,Zm 18 110] []) (.seq (.reg [Zm 111 16,Zm 112 17,Zb 113 .lss 111 112] []) (.cond (Zt 113) (.seq (.reg [Zm 114 16,Zm 115 18,Zb 116 .geq 114 115,Zm 8 116] []) (.seq (.reg [Zm 117 0,Zm 118 1,Zm 119 14,Zm 120 3,Zo 121 (.call 138 [(Zt 117),(Zt 118),(Zt 119),(Zt 120)])] []) (.reg [Zm 122 14,Zd 123 .add 122 1,Zm 1 123] []))) (.seq (.reg [Zm 124 17,Zm 125 18,Zb 126 .geq 124 125,Zm 8 126] []) (.seq (.reg [Zm 127 0,Zm 128 14,Zd 129 .add 128 1,Zm 130 2,Zm 131 3,Zo 132 (.call 138 [(Zt 127),(Zt 129),(Zt 130),(Zt 131)])] []) (.reg [Zm 133 14,Zm 2 133] []))))))))))))))))))
def A138M1:ACode:=(.seq (.reg [Zo 8 (.mv (.c (.b true)))] []) (.seq (.reg [Zo 9 (.mv (.c (.b true)))] []) (.blk 0 (.loop A138M1L1))))
def V138M1:List RV:=[]
theorem m138M1:mtcF Tryz.prog 138 4 A138M1 V138M1=true:=by kernel_rfl
def A106M1:ACode:=(.seq (.reg [Zm 3 0,Zk 4 3,Zm 2 4] []) (.reg [Zm 5 0,Zm 6 2,Zm 7 2,Zo 8 (.conv .u64 (Zt 7)),Zo 9 (.call 119 [(Zt 8)]),Zo 10 (.callM 138 [(Zt 5),(.c (.i 0)),(Zt 6),(Zt 9)] [1000000000])] []))
def V106M1:List RV:=[]
theorem m106M1:mtcF Tryz.prog 106 1 A106M1 V106M1=true:=by kernel_rfl
def A64R1:ACode:=(.cond (Zt 46) (.reg [Zm 47 7,Zm 48 10,Zo 49 (.bsl 1 false [(Zt 48)]),Zo 50 (.app 1 8 true (Zt 47) (Zt 49)),Zm 7 50] [.s 7]) .skip)
def A64L2:ACode:=(.seq (.reg [Zb 27 .lss 26 25] []) (.seq (.cond (Zt 27) .skip (.exit 0)) (.seq (.blk 1 (.seq (.reg [Zm 28 26,Zx 29 4 24 26,Zo 30 (.load 4 true (Zt 29)),Zo 11 (.alloc (.agg [.i 0,.i 0,.i 0,.i 0])),Zm 10 28,⟨none,.store 4 (Zt 11) (Zt 30),none⟩] []) (.seqr (.reg [Zm 31 1,Zm 32 10,Zo 33 (.call 79 [(Zt 31),(Zt 32)]),Zo 34 (.un .not (Zt 33)),Zm 35 34,⟨(some 36),.mv (Zt 8),(some (35,true))⟩,⟨(some 37),.fad 0 (Zt 11),(some (35,true))⟩,⟨(some 38),.load 1 false (Zt 37),(some (35,true))⟩,⟨(some 39),.call 79 [(Zt 36),(Zt 38)],(some (35,true))⟩,Zo 40 (.pick (Zt 35) (Zt 39) (.c (.b false))),Zm 41 40,⟨(some 42),.mv (Zt 8),(some (41,true))⟩,⟨(some 43),.fad 1 (Zt 11),(some (41,true))⟩,⟨(some 44),.load 1 false (Zt 43),(some (41,true))⟩,⟨(some 45),.call 79 [(Zt 42),(Zt 44)],(some (41,true))⟩,Zo 46 (.pick (Zt 41) (Zt 45) (.c (.b false)))] []) [1,6,7,8,10,24,25,26,46] [6,7,8] A64R1))) (.reg [Zd 51 .add 26 1,Zm 26 51] []))))
def A64R3:ACode:=(.seq (.reg [Zm 52 6,Zm 53 7,Zm 4 52,Zm 5 53] [.s 4,.s 5]) .ret)
def A64:ACode:=(.seq (.reg [Zo 2 (.box 2 (Zt 0)),Zo 4 (.mv (.c (.lst .u 1 []))),Zo 5 (.mv (.c (.lst .u 1 [])))] [.s 4,.s 5]) (.seq (.reg [Zm 12 1,Zo 13 (.call 55 [(Zt 12)]),Zo 14 (.bsl 1 false []),Zm 6 13,Zm 7 14] [.s 6,.s 7]) (.seq (.reg [Zm 15 6,Zo 16 (.callM 106 [(Zt 15)] [6])] []) (.seq (.reg [Zo 18 (.load 2 true (Zt 2)),Zm 19 1,Zo 20 (.call 75 [(Zt 18),(Zt 19)]),Zm 17 20,Ze 21 17 0,Ze 22 17 1,Zm 8 21,Zm 9 22] [.s 8]) (.seqa (.reg [Za 23 1 2,Zl 24 23,Zk 25 24,Zn 26 0] []) (.blk 0 (.loop A64L2)) [6,7] [6,7] A64R3)))))
def V64:List RV:=[.t 4,.t 5]
theorem m64:mtcF Tryz.prog 64 2 A64 V64=true:=by kernel_rfl
def A133M1:ACode:=(.seq (.reg [Zo 4 (.mv (.c (.lst .u 1 [])))] [.s 4]) (.seq (.seq (.reg [Zm 5 1,Zd 6 .lss 5 0] []) (.cond (Zt 6) (.reg [Zo 7 (.bad),⟨none,.bad,none⟩] []) .skip)) (.seq (.seq (.reg [Zm 8 1,Zm 9 0,Zo 10 (.capn (Zt 9)),Zm 11 0,Zk 12 11,Zb 13 .sub 10 12,Zb 14 .sub 8 13,Zm 1 14] []) (.seq (.reg [Zm 15 1,Zd 16 .gtr 15 0] []) (.cond (Zt 16) (.reg [Zm 17 0,Zm 18 0,Zo 19 (.capn (Zt 18)),Zo 20 (.slg 1 (Zt 17) (Zt 19)),Zm 21 1,Zo 22 (.apz 1 (.i 0) 8 (Zt 20) (Zt 21)),Zm 23 0,Zk 24 23,Zo 25 (.slc 1 (Zt 22) none (some (Zt 24)) none),Zm 0 25] [.s 0]) .skip))) (.seq (.reg [Zm 26 0,Zm 4 26] [.s 4]) .ret))))
def V133M1:List RV:=[.t 4]
theorem m133M1:mtcF Tryz.prog 133 2 A133M1 V133M1=true:=by kernel_rfl
def A93L1:ACode:=(.seq (.reg [Zb 12 .lss 11 10] []) (.seq (.cond (Zt 12) .skip (.exit 0)) (.seq (.blk 1 (.seq (.reg [Zx 13 1 9 11,Zl 14 13,Zm 5 14] [.s 5]) (.seq (.reg [Zm 15 3,Zm 16 5,Zk 17 16,Zb 18 .add 15 17,Zm 3 18] []) (.seq (.reg [Zm 19 3,Zd 20 .lss 19 0] []) (.cond (Zt 20) (.reg [Zo 21 (.bad),⟨none,.bad,none⟩] []) .skip))))) (.reg [Zd 22 .add 11 1,Zm 11 22] []))))
def A93L3:ACode:=(.seq (.reg [Zb 28 .lss 27 26] []) (.seq (.cond (Zt 28) .skip (.exit 2)) (.seq (.blk 3 (.seq (.reg [Zx 29 1 25 27,Zl 30 29,Zm 8 30] [.s 8]) (.reg [Zm 31 6,Zm 32 8,Zo 33 (.app 1 8 false (Zt 31) (Zt 32)),Zm 6 33] [.s 6]))) (.reg [Zd 34 .add 27 1,Zm 27 34] []))))
def A93R4:ACode:=(.seq (.reg [Zm 35 6,Zm 2 35] [.s 2]) .ret)
def A93R2:ACode:=(.seq (.reg [Zm 23 3,Zo 24 (.callM 133 [(.c (.lst .u 1 [])),(Zt 23)] []),Zm 6 24] [.s 6]) (.seqa (.reg [Zm 25 0,Zk 26 25,Zn 27 0] []) (.blk 2 (.loop A93L3)) [6] [6] A93R4))
def A93:ACode:=(.seq (.reg [Zo 2 (.mv (.c (.lst .u 1 [])))] [.s 2]) (.seq (.reg [Zn 3 0] []) (.seqa (.reg [Zm 9 0,Zk 10 9,Zn 11 0] []) (.blk 0 (.loop A93L1)) [0,3] [] A93R2)))
def V93:List RV:=[.t 2]
theorem m93:mtcF Tryz.prog 93 1 A93 V93=true:=by kernel_rfl
def A48M2R1:ACode:=(.reg [Zm 36 2,Zm 37 13,Zm 38 2,Zm 39 13,Zx 40 1 38 39,Zl 41 40,Zm 42 41,⟨(some 43),.mv (Zt 3),(some (42,false))⟩,Zo 44 (.pick (Zt 42) (.c (.b true)) (Zt 43)),Zx 45 1 36 37,⟨none,.store 1 (Zt 45) (Zt 44),none⟩] [])
def A48M2L2:ACode:=(.seq (.reg [Zb 26 .lss 25 24] []) (.seq (.cond (Zt 26) .skip (.exit 0)) (.seq (.blk 1 (.seq (.reg [Zx 27 1 23 25,Zl 28 27,Zm 13 28] []) (.seqr (.seq (.reg [Zm 29 2,Zm 30 13,Zx 31 1 29 30,Zl 32 31,Zo 33 (.un .not (Zt 32))] []) (.cond (Zt 33) (.reg [Zm 34 9,Zd 35 .add 34 1,Zm 9 35] []) .skip)) [2,3,9,13,23,24,25] [23,1000000000] A48M2R1))) (.reg [Zd 46 .add 25 1,Zm 25 46] []))))
def A48M2R3:ACode:=(.seq (.reg [Zm 47 9,Zm 8 47] []) .ret)
def A48M2:ACode:=(.seq (.reg [Zo 4 (.box 2 (Zt 0)),Zn 8 0] []) (.seq (.reg [Zn 9 0] []) (.seq (.reg [Zo 15 (.load 2 true (Zt 4)),Zm 16 1,Zo 17 (.call 64 [(Zt 15),(Zt 16)]),Zm 14 17,Ze 18 14 0,Ze 19 14 1,Zm 10 18,Zm 11 19] [.s 10,.s 11]) (.seqa (.reg [Zm 20 10,Zm 21 11,Zo 22 (.bsl 1 false [(Zt 20),(Zt 21)]),Zo 23 (.call 93 [(Zt 22)]),Zk 24 23,Zn 25 0] []) (.blk 0 (.loop A48M2L2)) [9] [1000000000] A48M2R3))))
def V48M2:List RV:=[.t 8]
theorem m48M2:mtcF Tryz.prog 48 4 A48M2 V48M2=true:=by kernel_rfl
def A11L1:ACode:=(.seq (.reg [Zb 27 .lss 26 25] []) (.seq (.cond (Zt 27) .skip (.exit 0)) (.seq (.blk 1 (.seq (.reg [Zx 28 1 24 26,Zl 29 28,Zm 9 29] [.s 9]) (.reg [Zo 30 (.load 2 true (Zt 1)),Zm 31 9,Zm 32 7,Zo 33 (.callM 48 [(Zt 30),(Zt 31),(Zt 32),(.c (.b true))] [7])] []))) (.reg [Zd 34 .add 26 1,Zm 26 34] []))))
def A11L3:ACode:=(.seq (.reg [Zb 38 .lss 37 36] []) (.seq (.cond (Zt 38) .skip (.exit 2)) (.seq (.blk 3 (.seq (.reg [Zm 39 37,Zx 40 1 35 37,Zl 41 40,Zm 10 39,Zm 11 41] []) (.seq (.reg [Zm 42 11,Zo 43 (.un .not (Zt 42))] []) (.cond (Zt 43) (.reg [Zm 44 6,Zm 45 10,Zo 46 (.bsl 1 false [(Zt 45)]),Zo 47 (.app 1 8 true (Zt 44) (Zt 46)),Zm 6 47] [.s 6]) .skip)))) (.reg [Zd 48 .add 37 1,Zm 37 48] []))))
def A11R4:ACode:=(.seq (.reg [Zm 49 6,Zm 2 49,Zo 3 (.mv (.c (.b true)))] [.s 2]) .ret)
def A11R2:ACode:=(.seqa (.reg [Zm 35 7,Zk 36 35,Zn 37 0] []) (.blk 2 (.loop A11L3)) [6] [6] A11R4)
def A11:ACode:=(.seq (.reg [Zo 1 (.box 2 (Zt 0)),Zo 2 (.mv (.c (.lst .u 1 []))),Zo 3 (.mv (.c (.b false)))] [.s 2]) (.seq (.reg [Zo 13 (.load 2 true (Zt 1)),Zo 14 (.call 41 [(Zt 13)]),Zm 12 14,Ze 15 12 0,Ze 16 12 1,Zm 4 15,Zm 5 16] [.s 4]) (.seq (.seq (.reg [Zm 17 5,Zo 18 (.un .not (Zt 17))] []) (.cond (Zt 18) (.seq (.reg [Zo 2 (.mv (.c (.lst .u 1 []))),Zo 3 (.mv (.c (.b false)))] [.s 2]) .ret) .skip)) (.seq (.drw [Zo 19 (.bsl 1 true []),Za 20 1 1,Zl 21 20,Zk 22 21,Zo 23 (.mks 1 (.b false) 1 (Zt 22) (Zt 22)),Zm 6 19,Zm 7 23] [.s 6,.s 7]) (.seqa (.reg [Zm 24 4,Zk 25 24,Zn 26 0] []) (.blk 0 (.loop A11L1)) [6,7] [6,7] A11R2)))))
def V11:List RV:=[.t 2,.t 3]
theorem m11:mtcF Tryz.prog 11 1 A11 V11=true:=by kernel_rfl
def A123:ACode:=(.seq (.reg [Zo 3 (.box 2 (Zt 0)),Zn 6 0] []) (.seq (.reg [Za 8 1 3,Zl 9 8,Zm 10 1,Zx 11 4 9 10,Zo 12 (.load 4 true (Zt 11)),Zo 7 (.alloc (.agg [.i 0,.i 0,.i 0,.i 0])),⟨none,.store 4 (Zt 7) (Zt 12),none⟩] []) (.seq (.seq (.reg [Zm 13 2] []) (.blk 0 (.seq (.reg [Za 15 0 7,Zl 16 15,Zb 17 .eql 13 16,Zm 14 17] []) (.cond (Zt 14) (.seq (.reg [Za 18 1 7,Zl 19 18,Zm 6 19] []) .ret) (.seq (.reg [Za 21 1 7,Zl 22 21,Zb 23 .eql 13 22,Zm 20 23] []) (.cond (Zt 20) (.seq (.reg [Za 24 0 7,Zl 25 24,Zm 6 25] []) .ret) .skip)))))) (.seq (.reg [Zn 6 (-1)] []) .ret))))
def V123:List RV:=[.t 6]
theorem m123:mtcF Tryz.prog 123 3 A123 V123=true:=by kernel_rfl
def A83L1:ACode:=(.seq (.seq (.reg [Zm 6 5,Zm 7 0,Zk 8 7,Zb 9 .lss 6 8] []) (.cond (Zt 9) .skip (.exit 0))) (.seq (.blk 1 (.seq (.reg [Zm 12 0,Zm 13 5,Zx 14 1 12 13,Zl 15 14,Zm 16 1,Zb 17 .eql 15 16] []) (.cond (Zt 17) (.seq (.reg [Zo 4 (.mv (.c (.b true)))] []) .ret) .skip))) (.reg [Zm 10 5,Zd 11 .add 10 1,Zm 5 11] [])))
def A83R2:ACode:=(.seq (.reg [Zo 4 (.mv (.c (.b false)))] []) .ret)
def A83:ACode:=(.seq (.reg [Zo 4 (.mv (.c (.b false)))] []) (.seqa (.reg [Zn 5 0] []) (.blk 0 (.loop A83L1)) [] [] A83R2))
def V83:List RV:=[.t 4]
theorem m83:mtcF Tryz.prog 83 2 A83 V83=true:=by kernel_rfl
def A54:ACode:=(.seq (.reg [Zo 2 (.mv (.c (.lst .u 1 [])))] [.s 2]) (.seq (.reg [Zo 3 (.bsl 1 false []),Zm 4 0,Zo 5 (.app 1 8 false (Zt 3) (Zt 4)),Zm 2 5] [.s 2]) .ret))
def V54:List RV:=[.t 2]
theorem m54:mtcF Tryz.prog 54 1 A54 V54=true:=by kernel_rfl
def A108L1:ACode:=(.seq (.seq (.reg [Zm 9 4,Zd 10 .geq 9 0] []) (.cond (Zt 10) .skip (.exit 0))) (.seq (.blk 1 (.reg [Zm 13 3,Zm 14 0,Zm 15 4,Zx 16 1 14 15,Zl 17 16,Zo 18 (.bsl 1 false [(Zt 17)]),Zo 19 (.app 1 8 true (Zt 13) (Zt 18)),Zm 3 19] [.s 3])) (.reg [Zm 11 4,Zd 12 .sub 11 1,Zm 4 12] [])))
def A108R2:ACode:=(.seq (.reg [Zm 20 3,Zm 2 20] [.s 2]) .ret)
def A108:ACode:=(.seq (.reg [Zo 2 (.mv (.c (.lst .u 1 [])))] [.s 2]) (.seq (.reg [Zo 5 (.bsl 1 false []),Zm 3 5] [.s 3]) (.seqa (.reg [Zm 6 0,Zk 7 6,Zd 8 .sub 7 1,Zm 4 8] []) (.blk 0 (.loop A108L1)) [3] [3] A108R2)))
def V108:List RV:=[.t 2]
theorem m108:mtcF Tryz.prog 108 1 A108 V108=true:=by kernel_rfl
def A142L1:ACode:=(.seq (.seq (.reg [Zm 16 5,Zm 17 0,Zk 18 17,Zb 19 .lss 16 18] []) (.cond (Zt 19) .skip (.exit 0))) (.seq (.blk 1 (.seq (.drw [Zm 22 0,Zm 23 5,Zx 24 1 22 23,Zl 25 24,Zm 26 1,Zm 27 5,Zx 28 1 26 27,Zl 29 28,Zb 30 .neq 25 29] []) (.cond (Zt 30) (.seq (.drw [Zm 31 0,Zm 32 5,Zx 33 1 31 32,Zl 34 33,Zm 35 1,Zm 36 5,Zx 37 1 35 36,Zl 38 37,Zb 39 .lss 34 38,Zm 4 39] []) .ret) .skip))) (.reg [Zm 20 5,Zd 21 .add 20 1,Zm 5 21] [])))
def A142R2:ACode:=(.seq (.reg [Zo 4 (.mv (.c (.b false)))] []) .ret)
def A142:ACode:=(.seq (.reg [Zo 4 (.mv (.c (.b false)))] []) (.seq (.seq (.reg [Zm 6 0,Zk 7 6,Zm 8 1,Zk 9 8,Zb 10 .neq 7 9] []) (.cond (Zt 10) (.seq (.reg [Zm 11 0,Zk 12 11,Zm 13 1,Zk 14 13,Zb 15 .lss 12 14,Zm 4 15] []) .ret) .skip)) (.seqa (.reg [Zn 5 0] []) (.blk 0 (.loop A142L1)) [] [] A142R2)))
def V142:List RV:=[.t 4]
theorem m142:mtcF Tryz.prog 142 2 A142 V142=true:=by kernel_rfl
def A157M3L1:ACode:=(.seq (.seq (.reg [Zm 6 5,Zm 7 0,Zk 8 7,Zb 9 .lss 6 8,Zm 10 9,⟨(some 11),.mv (Zt 0),(some (10,true))⟩,⟨(some 12),.mv (Zt 5),(some (10,true))⟩,⟨(some 13),.idx 1 (Zt 11) (Zt 12),(some (10,true))⟩,⟨(some 14),.load 1 false (Zt 13),(some (10,true))⟩,⟨(some 15),.mv (Zt 1),(some (10,true))⟩,⟨(some 16),.call 142 [(Zt 14),(Zt 15)],(some (10,true))⟩,Zo 17 (.pick (Zt 10) (Zt 16) (.c (.b false)))] []) (.cond (Zt 17) .skip (.exit 0))) (.blk 1 (.reg [Zm 18 5,Zd 19 .add 18 1,Zm 5 19] [])))
def A157M3R2:ACode:=(.seq (.drw [Zo 20 (.bsl 1 true []),Zm 21 0,Zm 22 5,Zo 23 (.slc 1 (Zt 21) none (some (Zt 22)) none),Zo 24 (.app 1 24 false (Zt 20) (Zt 23)),Zm 25 1,Zo 26 (.bsl 1 true [(Zt 25)]),Zo 27 (.app 1 24 true (Zt 24) (Zt 26)),Zm 28 0,Zm 29 5,Zo 30 (.slc 1 (Zt 28) (some (Zt 29)) none none),Zo 31 (.app 1 24 false (Zt 27) (Zt 30)),Zm 4 31] [.s 4]) .ret)
def A157M3:ACode:=(.seq (.reg [Zo 4 (.mv (.c (.lst .u 1 [])))] [.s 4,.z 1]) (.seq (.reg [Zn 5 0] []) (.seqr (.blk 0 (.loop A157M3L1)) [0,1,5] [1000000000] A157M3R2)))
def V157M3:List RV:=[.t 4]
theorem m157M3:mtcF Tryz.prog 157 2 A157M3 V157M3=true:=by kernel_rfl
def A132M2R1:ACode:=(.cond (Zt 28) .skip (.exit 0))
def A132M2R2:ACode:=(.cond (Zt 45) (.exit 1) .skip)
def A132M2R3:ACode:=(.cond (Zt 63) (.reg [Zm 64 0,Zm 65 0,Zo 66 (.nilc (Zt 65)),Za 67 2 66,Zl 68 67,Zm 69 12,Zo 70 (.callM 157 [(Zt 68),(Zt 69)] [470000002,12]),Zo 71 (.nilc (Zt 64)),Za 72 2 71,⟨none,.store 1 (Zt 72) (Zt 70),none⟩] [.f true 470000002 1000000000 2]) .skip)
def A132M2R4:ACode:=(.exit 1)
def A132M2L5:ACode:=(.seq (.seqr (.reg [Zm 13 10,Zm 14 0,Zo 15 (.nilc (Zt 14)),Za 16 0 15,Za 17 1 16,Zl 18 17,Zk 19 18,Zb 20 .lss 13 19,Zm 21 20,⟨(some 22),.mv (Zt 0),(some (21,true))⟩,⟨(some 23),.nilc (Zt 22),(some (21,true))⟩,⟨(some 24),.fad 2 (Zt 23),(some (21,true))⟩,⟨(some 25),.load 1 false (Zt 24),(some (21,true))⟩,⟨(some 26),.len (Zt 25),(some (21,true))⟩,⟨(some 27),.bin .leq (Zt 26) (.c (.i 60)),(some (21,true))⟩,Zo 28 (.pick (Zt 21) (Zt 27) (.c (.b false)))] []) [0,1,2,3,4,10,28] [470000002,1000000000,1000000002,1000000003] A132M2R1) (.seq (.blk 1 (.seq (.reg [Zm 31 0,Zo 32 (.nilc (Zt 31)),Za 33 0 32,Zo 34 (.load 2 true (Zt 33)),Zm 35 10,Zm 36 2,Zo 37 (.call 123 [(Zt 34),(Zt 35),(Zt 36)]),Zm 11 37] []) (.seq (.seqr (.reg [Zm 38 11,Zm 39 1,Zb 40 .lss 38 39,Zm 41 40,⟨(some 42),.mv (Zt 3),(some (41,false))⟩,⟨(some 43),.mv (Zt 10),(some (41,false))⟩,⟨(some 44),.call 83 [(Zt 42),(Zt 43)],(some (41,false))⟩,Zo 45 (.pick (Zt 41) (.c (.b true)) (Zt 44))] []) [0,1,2,3,4,10,11,45] [470000002,1000000000,1000000002,1000000003] A132M2R2) (.seq (.reg [Zm 46 3,Zo 47 (.call 54 [(Zt 46)]),Zm 48 10,Zo 49 (.bsl 1 false [(Zt 48)]),Zo 50 (.app 1 8 true (Zt 47) (Zt 49)),Zm 12 50] [.s 12]) (.seq (.seq (.reg [Zm 51 11,Zm 52 1,Zb 53 .eql 51 52] []) (.cond (Zt 53) (.seqr (.seqr (.reg [Zm 54 12,Zk 55 54,Zd 56 .gtr 55 1,Zm 57 56,⟨(some 58),.mv (Zt 12),(some (57,true))⟩,⟨(some 59),.call 108 [(Zt 58)],(some (57,true))⟩,⟨(some 60),.mv (Zt 12),(some (57,true))⟩,⟨(some 61),.call 142 [(Zt 59),(Zt 60)],(some (57,true))⟩,⟨(some 62),.un .not (Zt 61),(some (57,true))⟩,Zo 63 (.pick (Zt 57) (Zt 62) (.c (.b false)))] []) [0,1,2,3,4,10,12,63] [12,470000002,1000000000,1000000002,1000000003] A132M2R3) [0,1,2,3,4,10] [470000002,1000000000,1000000002,1000000003] A132M2R4) .skip)) (.seq (.reg [Zm 73 4,Zm 74 11,Zo 75 (.call 83 [(Zt 73),(Zt 74)]),Zo 76 (.un .not (Zt 75))] []) (.cond (Zt 76) (.reg [Zm 77 0,Zm 78 1,Zm 79 11,Zm 80 12,Zm 81 4,Zo 82 (.call 54 [(Zt 81)]),Zm 83 11,Zo 84 (.bsl 1 false [(Zt 83)]),Zo 85 (.app 1 8 true (Zt 82) (Zt 84)),Zo 86 (.callM 132 [(Zt 77),(Zt 78),(Zt 79),(Zt 80),(Zt 85)] [1000000000,470000002,12,85])] [.f true 470000002 1000000000 2]) .skip))))))) (.reg [Zm 29 10,Zd 30 .add 29 1,Zm 10 30] [])))
def A132M2:ACode:=(.seq (.reg [Zn 10 0] [.f true 470000002 1000000000 2]) (.blk 0 (.loop A132M2L5)))
def V132M2:List RV:=[]
theorem m132M2:mtcF Tryz.prog 132 5 A132M2 V132M2=true:=by kernel_rfl
def A90M1L1:ACode:=(.seq (.seq (.reg [Zm 9 4,Za 10 0 1,Zl 11 10,Zk 12 11,Zb 13 .lss 9 12] []) (.cond (Zt 13) .skip (.exit 0))) (.seq (.blk 1 (.reg [Zm 16 3,Zm 17 4,Zm 18 4,Zo 19 (.bsl 1 false []),Zm 20 4,Zo 21 (.bsl 1 false [(Zt 20)]),Zo 22 (.callM 132 [(Zt 16),(Zt 17),(Zt 18),(Zt 19),(Zt 21)] [8,500000514,19,21])] [.f false 500000514 8 2])) (.reg [Zm 14 4,Zd 15 .add 14 1,Zm 4 15] [])))
def A90M1R2:ACode:=(.seq (.reg [Zm 23 3,Zo 24 (.nilc (Zt 23)),Za 25 2 24,Zl 26 25,Zm 2 26] [.s 2]) .ret)
def A90M1:ACode:=(.seq (.reg [Zo 1 (.box 2 (Zt 0)),Zo 2 (.mv (.c (.lst .u 1 [])))] [.s 2]) (.seq (.reg [Zo 5 (.load 2 true (Zt 1)),Zo 6 (.bsl 1 false []),Zo 7 (.build [.lst .u 1 [],.lst .u 4 [],.lst .u 1 []] [(0,2,(Zt 5)),(2,1,(Zt 6))]),Zo 8 (.box 3 (Zt 7)),Zm 3 8] [.f false 500000514 8 2]) (.seqa (.reg [Zn 4 0] []) (.blk 0 (.loop A90M1L1)) [3] [8,500000514] A90M1R2)))
def V90M1:List RV:=[.t 2]
theorem m90M1:mtcF Tryz.prog 90 1 A90M1 V90M1=true:=by kernel_rfl
def A42M1:ACode:=(.seq (.reg [Zo 1 (.box 2 (Zt 0)),Zo 2 (.mv (.c (.lst .u 1 []))),Zo 3 (.mv (.c (.b false)))] [.s 2]) (.seq (.seq (.reg [Zo 5 (.load 2 true (Zt 1)),Zo 6 (.call 59 [(Zt 5)]),Zo 7 (.un .not (Zt 6))] []) (.cond (Zt 7) (.seq (.reg [Zo 8 (.bsl 1 false []),Zm 2 8,Zo 3 (.mv (.c (.b false)))] [.s 2]) .ret) .skip)) (.seq (.reg [Zo 9 (.load 2 true (Zt 1)),Zo 10 (.callM 90 [(Zt 9)] []),Zm 4 10] [.s 4]) (.seq (.seq (.reg [Zm 11 4,Zk 12 11,Zd 13 .gtr 12 60] []) (.cond (Zt 13) (.seq (.reg [Zo 14 (.bsl 1 false []),Zm 2 14,Zo 3 (.mv (.c (.b false)))] [.s 2]) .ret) .skip)) (.seq (.reg [Zm 15 4,Zm 2 15,Zo 3 (.mv (.c (.b true)))] [.s 2]) .ret)))))
def V42M1:List RV:=[.t 2,.t 3]
theorem m42M1:mtcF Tryz.prog 42 1 A42M1 V42M1=true:=by kernel_rfl
def A141R1:ACode:=(.cond (Zt 43) (.seq (.reg [Zm 44 8,Zm 6 44,Zo 7 (.mv (.c (.b false)))] [.s 6]) .ret) .skip)
def A141L2:ACode:=(.seq (.seq (.reg [Zm 13 10,Zm 14 1,Zk 15 14,Zb 16 .lss 13 15] []) (.cond (Zt 16) .skip (.exit 0))) (.seq (.blk 1 (.seq (.seqr (.drw [Zm 19 1,Zm 20 10,Zx 21 1 19 20,Zl 22 21,Za 23 1 3,Zl 24 23,Zk 25 24,Zd 26 .sub 25 1,Zo 27 (.call 72 [(Zt 22),(.c (.i 0)),(Zt 26)]),Zo 28 (.un .not (Zt 27)),Zm 29 28,⟨(some 30),.mv (Zt 1),(some (29,false))⟩,⟨(some 31),.mv (Zt 10),(some (29,false))⟩,⟨(some 32),.slc 1 (Zt 30) none (some (Zt 31)) none,(some (29,false))⟩,⟨(some 33),.mv (Zt 1),(some (29,false))⟩,⟨(some 34),.mv (Zt 10),(some (29,false))⟩,⟨(some 35),.idx 1 (Zt 33) (Zt 34),(some (29,false))⟩,⟨(some 36),.load 1 false (Zt 35),(some (29,false))⟩,⟨(some 37),.call 83 [(Zt 32),(Zt 36)],(some (29,false))⟩,Zo 38 (.pick (Zt 29) (.c (.b true)) (Zt 37)),Zm 39 38,⟨(some 40),.mv (Zt 8),(some (39,false))⟩,⟨(some 41),.mv (Zt 9),(some (39,false))⟩,⟨(some 42),.call 83 [(Zt 40),(Zt 41)],(some (39,false))⟩,Zo 43 (.pick (Zt 39) (.c (.b true)) (Zt 42))] []) [1,2,3,8,9,10,43] [3,8] A141R1) (.seq (.reg [Zm 45 8,Zm 46 9,Zo 47 (.bsl 1 false [(Zt 46)]),Zo 48 (.app 1 8 true (Zt 45) (Zt 47)),Zm 8 48] [.s 8]) (.seq (.drw [Zo 49 (.load 2 true (Zt 3)),Zm 50 1,Zm 51 10,Zx 52 1 50 51,Zl 53 52,Zm 54 9,Zo 55 (.call 123 [(Zt 49),(Zt 53),(Zt 54)]),Zm 9 55] []) (.seq (.reg [Zm 56 9,Zd 57 .lss 56 0] []) (.cond (Zt 57) (.seq (.reg [Zm 58 8,Zm 6 58,Zo 7 (.mv (.c (.b false)))] [.s 6]) .ret) .skip)))))) (.reg [Zm 17 10,Zd 18 .add 17 1,Zm 10 18] [])))
def A141R3:ACode:=(.seq (.reg [Zm 59 8,Zm 60 9,Zm 61 2,Zb 62 .eql 60 61,Zm 63 62,⟨(some 64),.mv (Zt 1),(some (63,true))⟩,⟨(some 65),.len (Zt 64),(some (63,true))⟩,⟨(some 66),.bin .gtr (Zt 65) (.c (.i 1)),(some (63,true))⟩,Zo 67 (.pick (Zt 63) (Zt 66) (.c (.b false))),Zm 6 59,Zm 7 67] [.s 6]) .ret)
def A141:ACode:=(.seq (.reg [Zo 3 (.box 2 (Zt 0)),Zo 6 (.mv (.c (.lst .u 1 []))),Zo 7 (.mv (.c (.b false)))] [.s 6]) (.seq (.reg [Zo 11 (.bsl 1 false []),Zm 8 11] [.s 8]) (.seq (.reg [Zm 12 2,Zm 9 12] []) (.seqa (.reg [Zn 10 0] []) (.blk 0 (.loop A141L2)) [1,2,8,9] [8] A141R3))))
def V141:List RV:=[.t 6,.t 7]
theorem m141:mtcF Tryz.prog 141 3 A141 V141=true:=by kernel_rfl
def A112L1:ACode:=(.seq (.seq (.reg [Zm 8 5,Za 9 0 2,Zl 10 9,Zk 11 10,Zb 12 .lss 8 11] []) (.cond (Zt 12) .skip (.exit 0))) (.seq (.blk 1 (.seq (.reg [Zo 16 (.load 2 true (Zt 2)),Zm 17 1,Zm 18 5,Zo 19 (.call 141 [(Zt 16),(Zt 17),(Zt 18)]),Zm 15 19,Ze 20 15 0,Ze 21 15 1,Zm 6 20,Zm 7 21] [.s 6]) (.seq (.reg [Zm 22 7] []) (.cond (Zt 22) (.seq (.reg [Zm 23 6,Zm 4 23] [.s 4]) .ret) .skip)))) (.reg [Zm 13 5,Zd 14 .add 13 1,Zm 5 14] [])))
def A112R2:ACode:=(.seq (.reg [Zo 24 (.bsl 1 false []),Zm 4 24] [.s 4]) .ret)
def A112:ACode:=(.seq (.reg [Zo 2 (.box 2 (Zt 0)),Zo 4 (.mv (.c (.lst .u 1 [])))] [.s 4]) (.seqa (.reg [Zn 5 0] []) (.blk 0 (.loop A112L1)) [] [] A112R2))
def V112:List RV:=[.t 4]
theorem m112:mtcF Tryz.prog 112 2 A112 V112=true:=by kernel_rfl
def A73R1:ACode:=(.cond (Zt 30) (.reg [Zm 49 7,Zm 50 9,Zo 51 (.bsl 1 false [(Zt 50)]),Zo 52 (.app 1 8 true (Zt 49) (Zt 51)),Zm 7 52] [.s 7]) .skip)
def A73L2:ACode:=(.seq (.seq (.reg [Zm 15 9,Za 16 1 2,Zl 17 16,Zk 18 17,Zb 19 .lss 15 18] []) (.cond (Zt 19) .skip (.exit 0))) (.seq (.blk 1 (.blk 2 (.seq (.reg [Zm 23 1,Zm 24 9,Zo 25 (.call 83 [(Zt 23),(Zt 24)]),Zm 22 25] []) (.cond (Zt 22) (.reg [Zm 26 6,Zm 27 9,Zo 28 (.bsl 1 false [(Zt 27)]),Zo 29 (.app 1 8 true (Zt 26) (Zt 28)),Zm 6 29] [.s 6]) (.seqr (.reg [Zm 31 8,Za 32 1 2,Zl 33 32,Zm 34 9,Zx 35 4 33 34,Za 36 0 35,Zl 37 36,Zo 38 (.call 83 [(Zt 31),(Zt 37)]),Zm 39 38,⟨(some 40),.mv (Zt 8),(some (39,true))⟩,⟨(some 41),.fad 1 (Zt 2),(some (39,true))⟩,⟨(some 42),.load 1 false (Zt 41),(some (39,true))⟩,⟨(some 43),.mv (Zt 9),(some (39,true))⟩,⟨(some 44),.idx 4 (Zt 42) (Zt 43),(some (39,true))⟩,⟨(some 45),.fad 1 (Zt 44),(some (39,true))⟩,⟨(some 46),.load 1 false (Zt 45),(some (39,true))⟩,⟨(some 47),.call 83 [(Zt 40),(Zt 46)],(some (39,true))⟩,Zo 48 (.pick (Zt 39) (Zt 47) (.c (.b false))),Zm 30 48] []) [1,2,6,7,8,9,30] [2,6,7,8] A73R1))))) (.reg [Zm 20 9,Zd 21 .add 20 1,Zm 9 21] [])))
def A73R3:ACode:=(.seq (.reg [Zm 53 6,Zm 54 7,Zm 4 53,Zm 5 54] [.s 4,.s 5]) .ret)
def A73:ACode:=(.seq (.reg [Zo 2 (.box 2 (Zt 0)),Zo 4 (.mv (.c (.lst .u 1 []))),Zo 5 (.mv (.c (.lst .u 1 [])))] [.s 4,.s 5]) (.seq (.reg [Zo 10 (.bsl 1 false []),Zo 11 (.bsl 1 false []),Zm 6 10,Zm 7 11] [.s 6,.s 7]) (.seq (.reg [Zo 12 (.load 2 true (Zt 2)),Zm 13 1,Zo 14 (.call 112 [(Zt 12),(Zt 13)]),Zm 8 14] [.s 8]) (.seqa (.reg [Zn 9 0] []) (.blk 0 (.loop A73L2)) [6,7] [6,7] A73R3))))
def V73:List RV:=[.t 4,.t 5]
theorem m73:mtcF Tryz.prog 73 2 A73 V73=true:=by kernel_rfl
def A91L1:ACode:=(.seq (.seq (.reg [Zm 5 4,Zm 6 0,Zk 7 6,Zb 8 .lss 5 7] []) (.cond (Zt 8) .skip (.exit 0))) (.seq (.blk 1 (.reg [Zm 11 3,Zm 12 0,Zm 13 4,Zx 14 1 12 13,Zl 15 14,Zo 16 (.conv .u64 (Zt 15)),Zo 17 (.bin .shl (.c (.i 1)) (Zt 16)),Zb 18 .or 11 17,Zm 3 18] [])) (.reg [Zm 9 4,Zd 10 .add 9 1,Zm 4 10] [])))
def A91R2:ACode:=(.seq (.reg [Zm 19 3,Zm 2 19] []) .ret)
def A91:ACode:=(.seq (.reg [Zn 2 0] []) (.seq (.reg [Zn 3 0] []) (.seqa (.reg [Zn 4 0] []) (.blk 0 (.loop A91L1)) [3] [] A91R2)))
def V91:List RV:=[.t 2]
theorem m91:mtcF Tryz.prog 91 1 A91 V91=true:=by kernel_rfl
def A45:ACode:=(.seq (.reg [Zo 2 (.box 2 (Zt 0)),Zn 4 0] []) (.seq (.reg [Zo 8 (.load 2 true (Zt 2)),Zm 9 1,Zo 10 (.call 73 [(Zt 8),(Zt 9)]),Zm 7 10,Ze 11 7 0,Ze 12 7 1,Zm 5 11,Zm 6 12] [.s 5,.s 6]) (.seq (.reg [Zm 13 5,Zo 14 (.call 91 [(Zt 13)]),Zm 15 6,Zo 16 (.call 91 [(Zt 15)]),Zb 17 .or 14 16,Zm 4 17] []) .ret)))
def V45:List RV:=[.t 4]
theorem m45:mtcF Tryz.prog 45 2 A45 V45=true:=by kernel_rfl
def A9L1:ACode:=(.seq (.seq (.reg [Zm 19 8,Zm 20 5,Zk 21 20,Zb 22 .lss 19 21] []) (.cond (Zt 22) .skip (.exit 0))) (.seq (.blk 1 (.drw [Zm 25 7,Zo 26 (.load 2 true (Zt 1)),Zm 27 5,Zm 28 8,Zx 29 1 27 28,Zl 30 29,Zo 31 (.call 45 [(Zt 26),(Zt 30)]),Zb 32 .or 25 31,Zm 7 32] [])) (.reg [Zm 23 8,Zd 24 .add 23 1,Zm 8 24] [])))
def A9L3:ACode:=(.seq (.seq (.reg [Zm 33 9,Za 34 1 1,Zl 35 34,Zk 36 35,Zb 37 .lss 33 36] []) (.cond (Zt 37) .skip (.exit 2))) (.seq (.blk 3 (.seq (.reg [Zm 40 7,Zm 41 9,Zo 42 (.conv .u64 (Zt 41)),Zb 43 .shr 40 42,Zd 44 .and 43 1,Zd 45 .eql 44 0] []) (.cond (Zt 45) (.reg [Zm 46 4,Zm 47 9,Zo 48 (.bsl 1 false [(Zt 47)]),Zo 49 (.app 1 8 true (Zt 46) (Zt 48)),Zm 4 49] [.s 4]) .skip))) (.reg [Zm 38 9,Zd 39 .add 38 1,Zm 9 39] [])))
def A9R4:ACode:=(.seq (.reg [Zm 50 4,Zm 2 50,Zo 3 (.mv (.c (.b true)))] [.s 2]) .ret)
def A9R2:ACode:=(.seqa (.reg [Zn 9 0] []) (.blk 2 (.loop A9L3)) [4] [4] A9R4)
def A9:ACode:=(.seq (.reg [Zo 1 (.box 2 (Zt 0)),Zo 2 (.mv (.c (.lst .u 1 []))),Zo 3 (.mv (.c (.b false)))] [.s 2]) (.seq (.reg [Zo 10 (.bsl 1 false []),Zm 4 10] [.s 4]) (.seq (.reg [Zo 12 (.load 2 true (Zt 1)),Zo 13 (.callM 42 [(Zt 12)] []),Zm 11 13,Ze 14 11 0,Ze 15 11 1,Zm 5 14,Zm 6 15] [.s 5]) (.seq (.seq (.reg [Zm 16 6,Zo 17 (.un .not (Zt 16))] []) (.cond (Zt 17) (.seq (.reg [Zm 18 4,Zm 2 18,Zo 3 (.mv (.c (.b false)))] [.s 2]) .ret) .skip)) (.seq (.reg [Zn 7 0] []) (.seqa (.reg [Zn 8 0] []) (.blk 0 (.loop A9L1)) [1,4,7] [1,4] A9R2))))))
def V9:List RV:=[.t 2,.t 3]
theorem m9:mtcF Tryz.prog 9 1 A9 V9=true:=by kernel_rfl
def A62L1:ACode:=(.seq (.reg [Zb 20 .lss 19 18] []) (.seq (.cond (Zt 20) .skip (.exit 2)) (.seq (.blk 3 (.seq (.reg [Zm 21 19,Zx 22 4 17 19,Zo 23 (.load 4 true (Zt 22)),Zo 7 (.alloc (.agg [.i 0,.i 0,.i 0,.i 0])),Zm 6 21,⟨none,.store 4 (Zt 7) (Zt 23),none⟩] []) (.seq (.reg [Za 24 3 7,Zl 25 24,Zm 26 4,Zb 27 .eql 25 26] []) (.cond (Zt 27) (.reg [Zm 28 5,Zm 29 6,Zo 30 (.bsl 1 false [(Zt 29)]),Zo 31 (.app 1 8 true (Zt 28) (Zt 30)),Zm 5 31] [.s 5]) .skip)))) (.reg [Zd 32 .add 19 1,Zm 19 32] []))))
def A62R2:ACode:=(.seq (.reg [Zm 33 5,Zk 34 33,Zd 35 .gtr 34 0] []) (.cond (Zt 35) (.reg [Zm 36 3,Zm 37 5,Zo 38 (.bsl 1 false [(Zt 37)]),Zo 39 (.app 1 24 true (Zt 36) (Zt 38)),Zm 3 39] [.s 3]) .skip))
def A62L3:ACode:=(.seq (.seq (.reg [Zm 11 4,Zd 12 .leq 11 9] []) (.cond (Zt 12) .skip (.exit 0))) (.seq (.blk 1 (.seq (.reg [Zo 15 (.bsl 1 false []),Zm 5 15] [.s 5]) (.seqa (.reg [Za 16 1 1,Zl 17 16,Zk 18 17,Zn 19 0] []) (.blk 2 (.loop A62L1)) [1,3,4,5] [1,3,5] A62R2))) (.reg [Zm 13 4,Zd 14 .add 13 1,Zm 4 14] [])))
def A62L5:ACode:=(.seq (.reg [Zb 44 .lss 43 42] []) (.seq (.cond (Zt 44) .skip (.exit 4)) (.seq (.blk 5 (.seq (.reg [Zm 45 43,Zx 46 4 41 43,Zo 47 (.load 4 true (Zt 46)),Zo 9 (.alloc (.agg [.i 0,.i 0,.i 0,.i 0])),Zm 8 45,⟨none,.store 4 (Zt 9) (Zt 47),none⟩] []) (.seq (.reg [Za 48 3 9,Zl 49 48,Zd 50 .eql 49 0] []) (.cond (Zt 50) (.reg [Zm 51 3,Zm 52 8,Zo 53 (.bsl 1 false [(Zt 52)]),Zo 54 (.bsl 1 false [(Zt 53)]),Zo 55 (.app 1 24 true (Zt 51) (Zt 54)),Zm 3 55] [.s 3]) .skip)))) (.reg [Zd 56 .add 43 1,Zm 43 56] []))))
def A62R6:ACode:=(.seq (.reg [Zm 57 3,Zm 2 57] [.s 2]) .ret)
def A62R4:ACode:=(.seqa (.reg [Za 40 1 1,Zl 41 40,Zk 42 41,Zn 43 0] []) (.blk 4 (.loop A62L5)) [3] [3] A62R6)
def A62:ACode:=(.seq (.reg [Zo 1 (.box 2 (Zt 0)),Zo 2 (.mv (.c (.lst .u 1 [])))] [.s 2]) (.seq (.reg [Zo 10 (.bsl 1 false []),Zm 3 10] [.s 3]) (.seqa (.reg [Zn 4 1] []) (.blk 0 (.loop A62L3)) [1,3] [1,3] A62R4)))
def V62:List RV:=[.t 2]
theorem m62:mtcF Tryz.prog 62 1 A62 V62=true:=by kernel_rfl
def A63L1:ACode:=(.seq (.reg [Zb 24 .lss 23 22] []) (.seq (.cond (Zt 24) .skip (.exit 2)) (.seq (.blk 3 (.seq (.reg [Zm 25 23,Zm 10 25] []) (.seq (.drw [Zm 26 9,Zm 27 2,Zb 28 .neq 26 27,Zm 29 28,⟨(some 30),.mv (Zt 10),(some (29,true))⟩,⟨(some 31),.mv (Zt 2),(some (29,true))⟩,⟨(some 32),.bin .neq (Zt 30) (Zt 31),(some (29,true))⟩,Zo 33 (.pick (Zt 29) (Zt 32) (.c (.b false))),Zm 34 33,⟨(some 35),.mv (Zt 7),(some (34,true))⟩,⟨(some 36),.mv (Zt 9),(some (34,true))⟩,⟨(some 37),.idx 1 (Zt 35) (Zt 36),(some (34,true))⟩,⟨(some 38),.load 1 false (Zt 37),(some (34,true))⟩,⟨(some 39),.mv (Zt 7),(some (34,true))⟩,⟨(some 40),.mv (Zt 10),(some (34,true))⟩,⟨(some 41),.idx 1 (Zt 39) (Zt 40),(some (34,true))⟩,⟨(some 42),.load 1 false (Zt 41),(some (34,true))⟩,⟨(some 43),.bin .eql (Zt 38) (Zt 42),(some (34,true))⟩,Zo 44 (.pick (Zt 34) (Zt 43) (.c (.b false))),Zm 45 44,⟨(some 46),.mv (Zt 8),(some (45,true))⟩,⟨(some 47),.mv (Zt 9),(some (45,true))⟩,⟨(some 48),.idx 1 (Zt 46) (Zt 47),(some (45,true))⟩,⟨(some 49),.load 1 false (Zt 48),(some (45,true))⟩,⟨(some 50),.mv (Zt 8),(some (45,true))⟩,⟨(some 51),.mv (Zt 10),(some (45,true))⟩,⟨(some 52),.idx 1 (Zt 50) (Zt 51),(some (45,true))⟩,⟨(some 53),.load 1 false (Zt 52),(some (45,true))⟩,⟨(some 54),.bin .neq (Zt 49) (Zt 53),(some (45,true))⟩,Zo 55 (.pick (Zt 45) (Zt 54) (.c (.b false)))] []) (.cond (Zt 55) (.seq (.reg [Zo 6 (.mv (.c (.b true)))] []) .ret) .skip)))) (.reg [Zd 56 .add 23 1,Zm 23 56] []))))
def A63R2:ACode:=(.reg [Zd 57 .add 19 1,Zm 19 57] [])
def A63L3:ACode:=(.seq (.reg [Zb 20 .lss 19 18] []) (.seq (.cond (Zt 20) .skip (.exit 0)) (.seqr (.blk 1 (.seq (.reg [Zm 21 19,Zm 9 21] []) (.seq (.reg [Zm 22 9,Zn 23 0] []) (.blk 2 (.loop A63L1))))) [2,7,8,18,19] [7,8] A63R2)))
def A63R4:ACode:=(.seq (.reg [Zo 6 (.mv (.c (.b false)))] []) .ret)
def A63:ACode:=(.seq (.reg [Zo 3 (.box 2 (Zt 0)),Zo 6 (.mv (.c (.b false)))] []) (.seq (.drw [Zo 11 (.load 2 true (Zt 3)),Zo 12 (.call 58 [(Zt 11),(.c (.lst .u 1 []))]),Zo 13 (.load 2 true (Zt 3)),Zm 14 1,Zo 15 (.call 58 [(Zt 13),(Zt 14)]),Zm 7 12,Zm 8 15] [.s 7,.s 8]) (.seqa (.reg [Za 16 0 3,Zl 17 16,Zk 18 17,Zn 19 0] []) (.blk 0 (.loop A63L3)) [] [] A63R4)))
def V63:List RV:=[.t 6]
theorem m63:mtcF Tryz.prog 63 3 A63 V63=true:=by kernel_rfl
def A29L1:ACode:=(.seq (.reg [Zb 15 .lss 14 13] []) (.seq (.cond (Zt 15) .skip (.exit 0)) (.seq (.blk 1 (.seq (.reg [Zm 16 14,Zx 17 1 12 14,Zl 18 17,Zm 5 16,Zm 6 18] [.s 6]) (.seq (.reg [Zo 19 (.load 2 true (Zt 1)),Zm 20 6,Zo 21 (.call 63 [(Zt 19),(Zt 20),(.c (.i (-1)))])] []) (.cond (Zt 21) (.reg [Zm 22 4,Zm 23 5,Zo 24 (.bsl 1 false [(Zt 23)]),Zo 25 (.app 1 8 true (Zt 22) (Zt 24)),Zm 4 25] [.s 4]) .skip)))) (.reg [Zd 26 .add 14 1,Zm 14 26] []))))
def A29R2:ACode:=(.seq (.reg [Zm 27 4,Zm 2 27,Zo 3 (.mv (.c (.b true)))] [.s 2]) .ret)
def A29:ACode:=(.seq (.reg [Zo 1 (.box 2 (Zt 0)),Zo 2 (.mv (.c (.lst .u 1 []))),Zo 3 (.mv (.c (.b false)))] [.s 2]) (.seq (.seq (.reg [Zo 7 (.load 2 true (Zt 1)),Zo 8 (.call 57 [(Zt 7)]),Zo 9 (.un .not (Zt 8))] []) (.cond (Zt 9) (.seq (.reg [Zo 2 (.mv (.c (.lst .u 1 []))),Zo 3 (.mv (.c (.b false)))] [.s 2]) .ret) .skip)) (.seq (.reg [Zo 10 (.bsl 1 false []),Zm 4 10] [.s 4]) (.seqa (.reg [Zo 11 (.load 2 true (Zt 1)),Zo 12 (.call 62 [(Zt 11)]),Zk 13 12,Zn 14 0] []) (.blk 0 (.loop A29L1)) [4] [4] A29R2))))
def V29:List RV:=[.t 2,.t 3]
theorem m29:mtcF Tryz.prog 29 1 A29 V29=true:=by kernel_rfl
def A5R2:ACode:=.ret
def A5R1:ACode:=(.cond (Zt 41) (.seqr (.reg [Zm 42 5,Zm 43 7,Zo 44 (.beq false (Zt 42) (Zt 43)),Zm 45 44,⟨(some 46),.mv (Zt 4),(some (45,true))⟩,⟨(some 47),.mv (Zt 6),(some (45,true))⟩,⟨(some 48),.call 26 [(Zt 46),(Zt 47)],(some (45,true))⟩,Zo 49 (.pick (Zt 45) (Zt 48) (.c (.b false))),Zm 2 49] []) [2] [] A5R2) .skip)
def A5L3:ACode:=(.seq (.seq (.reg [Zm 50 8,Za 51 1 3,Zl 52 51,Zk 53 52,Zb 54 .lss 50 53] []) (.cond (Zt 54) .skip (.exit 0))) (.seq (.blk 1 (.seq (.drw [Zm 57 4,Zm 58 8,Zo 59 (.call 27 [(Zt 57),(Zt 58)]),Zo 60 (.load 2 true (Zt 3)),Zm 61 8,Zo 62 (.bsl 1 true [(Zt 61)]),Za 63 1 3,Zl 64 63,Zm 65 8,Zx 66 4 64 65,Za 67 0 66,Zl 68 67,Za 69 1 3,Zl 70 69,Zm 71 8,Zx 72 4 70 71,Za 73 1 72,Zl 74 73,Zo 75 (.call 28 [(Zt 60),(Zt 62),(Zt 68),(Zt 74)]),Zo 76 (.beq true (Zt 59) (Zt 75))] []) (.cond (Zt 76) (.seq (.reg [Zo 2 (.mv (.c (.b false)))] []) .ret) .skip))) (.reg [Zm 55 8,Zd 56 .add 55 1,Zm 8 56] [])))
def A5R5:ACode:=(.cond (Zt 98) (.seq (.reg [Zo 2 (.mv (.c (.b false)))] []) .ret) .skip)
def A5R4:ACode:=(.seq (.reg [Zo 78 (.load 2 true (Zt 3)),Zo 79 (.call 11 [(Zt 78)]),Zm 77 79,Ze 80 77 0,Ze 81 77 1,Zm 9 80,Zm 10 81] [.s 9]) (.seq (.seq (.reg [Zo 83 (.load 2 true (Zt 3)),Zo 84 (.call 9 [(Zt 83)]),Zm 82 84,Ze 85 82 0,Ze 86 82 1,Zm 11 85,Zm 12 86] [.s 11]) (.seqr (.reg [Zm 87 10,Zm 88 12,Zo 89 (.beq true (Zt 87) (Zt 88)),Zm 90 89,⟨(some 91),.mv (Zt 10),(some (90,false))⟩,⟨(some 92),.mv (Zt 91),(some (90,false))⟩,⟨(some 93),.mv (Zt 9),(some (92,true))⟩,⟨(some 94),.mv (Zt 4),(some (92,true))⟩,⟨(some 95),.call 26 [(Zt 93),(Zt 94)],(some (92,true))⟩,⟨(some 96),.un .not (Zt 95),(some (92,true))⟩,⟨(some 97),.pick (Zt 92) (Zt 96) (.c (.b false)),(some (90,false))⟩,Zo 98 (.pick (Zt 90) (.c (.b true)) (Zt 97))] []) [3,4,98] [3,4,18,1018] A5R5)) (.seq (.reg [Zo 100 (.load 2 true (Zt 3)),Zo 101 (.call 29 [(Zt 100)]),Zm 99 101,Ze 102 99 0,Ze 103 99 1,Zm 13 102,Zm 14 103] [.s 13]) (.seq (.reg [Zm 104 14,Zm 105 104,⟨(some 106),.mv (Zt 4),(some (105,true))⟩,⟨(some 107),.len (Zt 106),(some (105,true))⟩,⟨(some 108),.bin .eql (Zt 107) (.c (.i 0)),(some (105,true))⟩,⟨(some 109),.mv (Zt 108),(some (105,true))⟩,⟨(some 110),.mv (Zt 13),(some (109,false))⟩,⟨(some 111),.len (Zt 110),(some (109,false))⟩,⟨(some 112),.bin .gtr (Zt 111) (.c (.i 0)),(some (109,false))⟩,⟨(some 113),.pick (Zt 109) (.c (.b true)) (Zt 112),(some (105,true))⟩,Zo 114 (.pick (Zt 105) (Zt 113) (.c (.b false))),Zm 2 114] []) .ret))))
def A5:ACode:=(.seq (.reg [Zo 2 (.mv (.c (.b false)))] []) (.seq (.seq (.reg [Zm 15 0,Zo 16 (.call 22 [(Zt 15)])] []) (.cond (Zt 16) (.seq (.reg [Zo 2 (.mv (.c (.b true)))] []) .ret) .skip)) (.seq (.reg [Zm 17 0,Zo 18 (.call 23 [(Zt 17)]),Zo 3 (.alloc (.agg [.lst .u 1 [],.lst .u 4 []])),⟨none,.store 2 (Zt 3) (Zt 18),none⟩] []) (.seq (.reg [Zo 20 (.load 2 true (Zt 3)),Zo 21 (.call 24 [(Zt 20)]),Zm 19 21,Ze 22 19 0,Ze 23 19 1,Zm 4 22,Zm 5 23] [.s 4]) (.seq (.reg [Zo 25 (.load 2 true (Zt 3)),Zo 26 (.call 25 [(Zt 25)]),Zm 24 26,Ze 27 24 0,Ze 28 24 1,Zm 6 27,Zm 7 28] [.s 6]) (.seq (.seqr (.reg [Zm 29 5,Zm 30 7,Zo 31 (.beq true (Zt 29) (Zt 30)),Zm 32 31,⟨(some 33),.mv (Zt 4),(some (32,false))⟩,⟨(some 34),.mv (Zt 6),(some (32,false))⟩,⟨(some 35),.call 26 [(Zt 33),(Zt 34)],(some (32,false))⟩,⟨(some 36),.un .not (Zt 35),(some (32,false))⟩,Zo 37 (.pick (Zt 32) (.c (.b true)) (Zt 36)),Zm 38 37,⟨(some 39),.mv (Zt 5),(some (38,false))⟩,⟨(some 40),.un .not (Zt 39),(some (38,false))⟩,Zo 41 (.pick (Zt 38) (.c (.b true)) (Zt 40))] []) [3,4,5,6,7,41] [3,4,6,18,1018] A5R1) (.seqa (.reg [Zn 8 0] []) (.blk 0 (.loop A5L3)) [3,4] [3,4,18,1018] A5R4)))))))
def V5:List RV:=[.t 2]
theorem m5:mtcF Tryz.prog 5 1 A5 V5=true:=by kernel_rfl
end Vs

