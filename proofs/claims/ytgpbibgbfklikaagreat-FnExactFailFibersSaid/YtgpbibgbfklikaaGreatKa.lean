/-
  Part of the proof that the law FnExactFailFibers returns true at every input; no condition beside the row's own.
-/
import Derived.Test.YtgpbibgbfklikaaGreatXe
import Derived.Test.YtgpbibgbfklikaaGreatChecked
import Derived.KernelRfl
set_option linter.defProp false
set_option linter.unusedSimpArgs false
set_option linter.unusedVariables false
namespace Vs
open Go
structure TFiber where
 A:Int
 B:Int
 Length:Int
 Risk:Int
 deriving DecidableEq
def e_TFiber (f:Fl) (x:TFiber):AV:=.agg [.i x.A,.i x.B,.i x.Length,.i x.Risk]
theorem e_TFiber_nrm (f:Fl) (x:TFiber):(e_TFiber f x).nrm=e_TFiber .o x:=by simp [e_TFiber,nrm_sc,nrm_lst,nrm_agg,nrm_sc]
theorem e_TFiber_nrmm (f:Fl) (xs:List TFiber):(xs.map (e_TFiber f)).map AV.nrm=xs.map (e_TFiber .o):=by simp [e_TFiber_nrm]
theorem e_TFiber_als (f:Fl) (x:TFiber):(e_TFiber f x).als=e_TFiber f.als x:=by simp [e_TFiber,als_sc,als_lst,als_agg,nrm_sc]
theorem e_TFiber_alsm (f:Fl) (xs:List TFiber):(xs.map (e_TFiber f)).map AV.als=xs.map (e_TFiber f.als):=by simp [e_TFiber_als]
theorem e_TFiber_alsc (f:Fl):AV.als ∘ e_TFiber f=e_TFiber f.als:=by funext x; simp [e_TFiber_als]
theorem e_TFiber_fix (f:Fl) (x:TFiber):(e_TFiber f x).fix=e_TFiber f.fix x:=by simp [e_TFiber,fix_sc,fix_lst,fix_agg,nrm_sc]
theorem e_TFiber_fixm (f:Fl) (xs:List TFiber):(xs.map (e_TFiber f)).map AV.fix=xs.map (e_TFiber f.fix):=by simp [e_TFiber_fix]
theorem e_TFiber_fz (x:TFiber):(e_TFiber .o x).fz=true:=by simp [e_TFiber,AV.i,AV.b,AV.z,fz_sc,fz_lsto,fz_agg,fzL_nil,fzL_cons,fzL_mi,fzL_mb,fzL_mz,fzL_m8,fzL_m64,ouL_m8,ouL_m64,ou_sc,ou_lstu,ou_agg,ouL_nil,ouL_cons,ouL_mi,ouL_mb,ouL_mz]
theorem e_TFiber_fzm (xs:List TFiber):fzL (xs.map (e_TFiber .o))=true:=fzL_of e_TFiber_fz xs
theorem e_TFiber_ou (x:TFiber):(e_TFiber .u x).ouB=true:=by simp [e_TFiber,AV.i,AV.b,AV.z,fz_sc,fz_lsto,fz_agg,fzL_nil,fzL_cons,fzL_mi,fzL_mb,fzL_mz,fzL_m8,fzL_m64,ouL_m8,ouL_m64,ou_sc,ou_lstu,ou_agg,ouL_nil,ouL_cons,ouL_mi,ouL_mb,ouL_mz]
theorem e_TFiber_oum (xs:List TFiber):ouBL (xs.map (e_TFiber .u))=true:=ouL_of e_TFiber_ou xs
structure TNetwork where
 Nodes:List ByteArray
 Fibers:List TFiber
def e_TNetwork (f:Fl) (x:TNetwork):AV:=.agg [.lst f 1 (x.Nodes.map AV.z),.lst f 4 (x.Fibers.map (e_TFiber f))]
theorem e_TNetwork_nrm (f:Fl) (x:TNetwork):(e_TNetwork f x).nrm=e_TNetwork .o x:=by simp [e_TNetwork,nrm_sc,nrm_lst,nrm_agg,e_TFiber_nrm,map_nrm_i,map_nrm_z]
theorem e_TNetwork_nrmm (f:Fl) (xs:List TNetwork):(xs.map (e_TNetwork f)).map AV.nrm=xs.map (e_TNetwork .o):=by simp [e_TNetwork_nrm]
theorem e_TNetwork_als (f:Fl) (x:TNetwork):(e_TNetwork f x).als=e_TNetwork f.als x:=by simp [e_TNetwork,als_sc,als_lst,als_agg,e_TFiber_als,map_als_i,map_als_z]
theorem e_TNetwork_alsm (f:Fl) (xs:List TNetwork):(xs.map (e_TNetwork f)).map AV.als=xs.map (e_TNetwork f.als):=by simp [e_TNetwork_als]
theorem e_TNetwork_alsc (f:Fl):AV.als ∘ e_TNetwork f=e_TNetwork f.als:=by funext x; simp [e_TNetwork_als]
theorem e_TNetwork_fix (f:Fl) (x:TNetwork):(e_TNetwork f x).fix=e_TNetwork f.fix x:=by simp [e_TNetwork,fix_sc,fix_lst,fix_agg,e_TFiber_fix,map_fix_i,map_fix_z]
theorem e_TNetwork_fixm (f:Fl) (xs:List TNetwork):(xs.map (e_TNetwork f)).map AV.fix=xs.map (e_TNetwork f.fix):=by simp [e_TNetwork_fix]
theorem e_TNetwork_fz (x:TNetwork):(e_TNetwork .o x).fz=true:=by simp [e_TNetwork,AV.i,AV.b,AV.z,fz_sc,fz_lsto,fz_agg,fzL_nil,fzL_cons,fzL_mi,fzL_mb,fzL_mz,fzL_m8,fzL_m64,ouL_m8,ouL_m64,ou_sc,ou_lstu,ou_agg,ouL_nil,ouL_cons,ouL_mi,ouL_mb,ouL_mz,e_TFiber_fzm,e_TFiber_oum]
theorem e_TNetwork_fzm (xs:List TNetwork):fzL (xs.map (e_TNetwork .o))=true:=fzL_of e_TNetwork_fz xs
theorem e_TNetwork_ou (x:TNetwork):(e_TNetwork .u x).ouB=true:=by simp [e_TNetwork,AV.i,AV.b,AV.z,fz_sc,fz_lsto,fz_agg,fzL_nil,fzL_cons,fzL_mi,fzL_mb,fzL_mz,fzL_m8,fzL_m64,ouL_m8,ouL_m64,ou_sc,ou_lstu,ou_agg,ouL_nil,ouL_cons,ouL_mi,ouL_mb,ouL_mz,e_TFiber_fzm,e_TFiber_oum]
theorem e_TNetwork_oum (xs:List TNetwork):ouBL (xs.map (e_TNetwork .u))=true:=ouL_of e_TNetwork_ou xs
structure TRoute where
 Start:Int
 Fibers:List Int
 deriving DecidableEq
def e_TRoute (f:Fl) (x:TRoute):AV:=.agg [.i x.Start,.lst f 1 (x.Fibers.map AV.i)]
theorem e_TRoute_nrm (f:Fl) (x:TRoute):(e_TRoute f x).nrm=e_TRoute .o x:=by simp [e_TRoute,nrm_sc,nrm_lst,nrm_agg,map_nrm_i]
theorem e_TRoute_nrmm (f:Fl) (xs:List TRoute):(xs.map (e_TRoute f)).map AV.nrm=xs.map (e_TRoute .o):=by simp [e_TRoute_nrm]
theorem e_TRoute_als (f:Fl) (x:TRoute):(e_TRoute f x).als=e_TRoute f.als x:=by simp [e_TRoute,als_sc,als_lst,als_agg,map_als_i]
theorem e_TRoute_alsm (f:Fl) (xs:List TRoute):(xs.map (e_TRoute f)).map AV.als=xs.map (e_TRoute f.als):=by simp [e_TRoute_als]
theorem e_TRoute_alsc (f:Fl):AV.als ∘ e_TRoute f=e_TRoute f.als:=by funext x; simp [e_TRoute_als]
theorem e_TRoute_fix (f:Fl) (x:TRoute):(e_TRoute f x).fix=e_TRoute f.fix x:=by simp [e_TRoute,fix_sc,fix_lst,fix_agg,map_fix_i]
theorem e_TRoute_fixm (f:Fl) (xs:List TRoute):(xs.map (e_TRoute f)).map AV.fix=xs.map (e_TRoute f.fix):=by simp [e_TRoute_fix]
theorem e_TRoute_fz (x:TRoute):(e_TRoute .o x).fz=true:=by simp [e_TRoute,AV.i,AV.b,AV.z,fz_sc,fz_lsto,fz_agg,fzL_nil,fzL_cons,fzL_mi,fzL_mb,fzL_mz,fzL_m8,fzL_m64,ouL_m8,ouL_m64,ou_sc,ou_lstu,ou_agg,ouL_nil,ouL_cons,ouL_mi,ouL_mb,ouL_mz]
theorem e_TRoute_fzm (xs:List TRoute):fzL (xs.map (e_TRoute .o))=true:=fzL_of e_TRoute_fz xs
theorem e_TRoute_ou (x:TRoute):(e_TRoute .u x).ouB=true:=by simp [e_TRoute,AV.i,AV.b,AV.z,fz_sc,fz_lsto,fz_agg,fzL_nil,fzL_cons,fzL_mi,fzL_mb,fzL_mz,fzL_m8,fzL_m64,ouL_m8,ouL_m64,ou_sc,ou_lstu,ou_agg,ouL_nil,ouL_cons,ouL_mi,ouL_mb,ouL_mz]
theorem e_TRoute_oum (xs:List TRoute):ouBL (xs.map (e_TRoute .u))=true:=ouL_of e_TRoute_ou xs
structure TBlock where
 First:Int
 Count:Int
 deriving DecidableEq
def e_TBlock (f:Fl) (x:TBlock):AV:=.agg [.i x.First,.i x.Count]
theorem e_TBlock_nrm (f:Fl) (x:TBlock):(e_TBlock f x).nrm=e_TBlock .o x:=by simp [e_TBlock,nrm_sc,nrm_lst,nrm_agg,nrm_sc]
theorem e_TBlock_nrmm (f:Fl) (xs:List TBlock):(xs.map (e_TBlock f)).map AV.nrm=xs.map (e_TBlock .o):=by simp [e_TBlock_nrm]
theorem e_TBlock_als (f:Fl) (x:TBlock):(e_TBlock f x).als=e_TBlock f.als x:=by simp [e_TBlock,als_sc,als_lst,als_agg,nrm_sc]
theorem e_TBlock_alsm (f:Fl) (xs:List TBlock):(xs.map (e_TBlock f)).map AV.als=xs.map (e_TBlock f.als):=by simp [e_TBlock_als]
theorem e_TBlock_alsc (f:Fl):AV.als ∘ e_TBlock f=e_TBlock f.als:=by funext x; simp [e_TBlock_als]
theorem e_TBlock_fix (f:Fl) (x:TBlock):(e_TBlock f x).fix=e_TBlock f.fix x:=by simp [e_TBlock,fix_sc,fix_lst,fix_agg,nrm_sc]
theorem e_TBlock_fixm (f:Fl) (xs:List TBlock):(xs.map (e_TBlock f)).map AV.fix=xs.map (e_TBlock f.fix):=by simp [e_TBlock_fix]
theorem e_TBlock_fz (x:TBlock):(e_TBlock .o x).fz=true:=by simp [e_TBlock,AV.i,AV.b,AV.z,fz_sc,fz_lsto,fz_agg,fzL_nil,fzL_cons,fzL_mi,fzL_mb,fzL_mz,fzL_m8,fzL_m64,ouL_m8,ouL_m64,ou_sc,ou_lstu,ou_agg,ouL_nil,ouL_cons,ouL_mi,ouL_mb,ouL_mz]
theorem e_TBlock_fzm (xs:List TBlock):fzL (xs.map (e_TBlock .o))=true:=fzL_of e_TBlock_fz xs
theorem e_TBlock_ou (x:TBlock):(e_TBlock .u x).ouB=true:=by simp [e_TBlock,AV.i,AV.b,AV.z,fz_sc,fz_lsto,fz_agg,fzL_nil,fzL_cons,fzL_mi,fzL_mb,fzL_mz,fzL_m8,fzL_m64,ouL_m8,ouL_m64,ou_sc,ou_lstu,ou_agg,ouL_nil,ouL_cons,ouL_mi,ouL_mb,ouL_mz]
theorem e_TBlock_oum (xs:List TBlock):ouBL (xs.map (e_TBlock .u))=true:=ouL_of e_TBlock_ou xs
structure TLight where
 Id:Int
 Route:TRoute
 Block:TBlock
 deriving DecidableEq
def e_TLight (f:Fl) (x:TLight):AV:=.agg [.i x.Id,.i x.Route.Start,.lst f 1 (x.Route.Fibers.map AV.i),.i x.Block.First,.i x.Block.Count]
theorem e_TLight_nrm (f:Fl) (x:TLight):(e_TLight f x).nrm=e_TLight .o x:=by simp [e_TLight,nrm_sc,nrm_lst,nrm_agg,map_nrm_i]
theorem e_TLight_nrmm (f:Fl) (xs:List TLight):(xs.map (e_TLight f)).map AV.nrm=xs.map (e_TLight .o):=by simp [e_TLight_nrm]
theorem e_TLight_als (f:Fl) (x:TLight):(e_TLight f x).als=e_TLight f.als x:=by simp [e_TLight,als_sc,als_lst,als_agg,map_als_i]
theorem e_TLight_alsm (f:Fl) (xs:List TLight):(xs.map (e_TLight f)).map AV.als=xs.map (e_TLight f.als):=by simp [e_TLight_als]
theorem e_TLight_alsc (f:Fl):AV.als ∘ e_TLight f=e_TLight f.als:=by funext x; simp [e_TLight_als]
theorem e_TLight_fix (f:Fl) (x:TLight):(e_TLight f x).fix=e_TLight f.fix x:=by simp [e_TLight,fix_sc,fix_lst,fix_agg,map_fix_i]
theorem e_TLight_fixm (f:Fl) (xs:List TLight):(xs.map (e_TLight f)).map AV.fix=xs.map (e_TLight f.fix):=by simp [e_TLight_fix]
theorem e_TLight_fz (x:TLight):(e_TLight .o x).fz=true:=by simp [e_TLight,AV.i,AV.b,AV.z,fz_sc,fz_lsto,fz_agg,fzL_nil,fzL_cons,fzL_mi,fzL_mb,fzL_mz,fzL_m8,fzL_m64,ouL_m8,ouL_m64,ou_sc,ou_lstu,ou_agg,ouL_nil,ouL_cons,ouL_mi,ouL_mb,ouL_mz]
theorem e_TLight_fzm (xs:List TLight):fzL (xs.map (e_TLight .o))=true:=fzL_of e_TLight_fz xs
theorem e_TLight_ou (x:TLight):(e_TLight .u x).ouB=true:=by simp [e_TLight,AV.i,AV.b,AV.z,fz_sc,fz_lsto,fz_agg,fzL_nil,fzL_cons,fzL_mi,fzL_mb,fzL_mz,fzL_m8,fzL_m64,ouL_m8,ouL_m64,ou_sc,ou_lstu,ou_agg,ouL_nil,ouL_cons,ouL_mi,ouL_mb,ouL_mz]
theorem e_TLight_oum (xs:List TLight):ouBL (xs.map (e_TLight .u))=true:=ouL_of e_TLight_ou xs
structure TPlan where
 Network:TNetwork
 Lights:List TLight
def e_TPlan (f:Fl) (x:TPlan):AV:=.agg [.lst f 1 (x.Network.Nodes.map AV.z),.lst f 4 (x.Network.Fibers.map (e_TFiber f)),.lst f 5 (x.Lights.map (e_TLight f))]
theorem e_TPlan_nrm (f:Fl) (x:TPlan):(e_TPlan f x).nrm=e_TPlan .o x:=by simp [e_TPlan,nrm_sc,nrm_lst,nrm_agg,e_TFiber_nrm,e_TLight_nrm,map_nrm_i,map_nrm_z]
theorem e_TPlan_nrmm (f:Fl) (xs:List TPlan):(xs.map (e_TPlan f)).map AV.nrm=xs.map (e_TPlan .o):=by simp [e_TPlan_nrm]
theorem e_TPlan_als (f:Fl) (x:TPlan):(e_TPlan f x).als=e_TPlan f.als x:=by simp [e_TPlan,als_sc,als_lst,als_agg,e_TFiber_als,e_TLight_als,map_als_i,map_als_z]
theorem e_TPlan_alsm (f:Fl) (xs:List TPlan):(xs.map (e_TPlan f)).map AV.als=xs.map (e_TPlan f.als):=by simp [e_TPlan_als]
theorem e_TPlan_alsc (f:Fl):AV.als ∘ e_TPlan f=e_TPlan f.als:=by funext x; simp [e_TPlan_als]
theorem e_TPlan_fix (f:Fl) (x:TPlan):(e_TPlan f x).fix=e_TPlan f.fix x:=by simp [e_TPlan,fix_sc,fix_lst,fix_agg,e_TFiber_fix,e_TLight_fix,map_fix_i,map_fix_z]
theorem e_TPlan_fixm (f:Fl) (xs:List TPlan):(xs.map (e_TPlan f)).map AV.fix=xs.map (e_TPlan f.fix):=by simp [e_TPlan_fix]
theorem e_TPlan_fz (x:TPlan):(e_TPlan .o x).fz=true:=by simp [e_TPlan,AV.i,AV.b,AV.z,fz_sc,fz_lsto,fz_agg,fzL_nil,fzL_cons,fzL_mi,fzL_mb,fzL_mz,fzL_m8,fzL_m64,ouL_m8,ouL_m64,ou_sc,ou_lstu,ou_agg,ouL_nil,ouL_cons,ouL_mi,ouL_mb,ouL_mz,e_TFiber_fzm,e_TFiber_oum,e_TLight_fzm,e_TLight_oum]
theorem e_TPlan_fzm (xs:List TPlan):fzL (xs.map (e_TPlan .o))=true:=fzL_of e_TPlan_fz xs
theorem e_TPlan_ou (x:TPlan):(e_TPlan .u x).ouB=true:=by simp [e_TPlan,AV.i,AV.b,AV.z,fz_sc,fz_lsto,fz_agg,fzL_nil,fzL_cons,fzL_mi,fzL_mb,fzL_mz,fzL_m8,fzL_m64,ouL_m8,ouL_m64,ou_sc,ou_lstu,ou_agg,ouL_nil,ouL_cons,ouL_mi,ouL_mb,ouL_mz,e_TFiber_fzm,e_TFiber_oum,e_TLight_fzm,e_TLight_oum]
theorem e_TPlan_oum (xs:List TPlan):ouBL (xs.map (e_TPlan .u))=true:=ouL_of e_TPlan_ou xs
structure TRestoration where
 Plan:TPlan
 Home:List TLight
 Down:List Int
def e_TRestoration (f:Fl) (x:TRestoration):AV:=.agg [.lst f 1 (x.Plan.Network.Nodes.map AV.z),.lst f 4 (x.Plan.Network.Fibers.map (e_TFiber f)),.lst f 5 (x.Plan.Lights.map (e_TLight f)),.lst f 5 (x.Home.map (e_TLight f)),.lst f 1 (x.Down.map AV.i)]
theorem e_TRestoration_nrm (f:Fl) (x:TRestoration):(e_TRestoration f x).nrm=e_TRestoration .o x:=by simp [e_TRestoration,nrm_sc,nrm_lst,nrm_agg,e_TFiber_nrm,e_TLight_nrm,map_nrm_i,map_nrm_z]
theorem e_TRestoration_nrmm (f:Fl) (xs:List TRestoration):(xs.map (e_TRestoration f)).map AV.nrm=xs.map (e_TRestoration .o):=by simp [e_TRestoration_nrm]
theorem e_TRestoration_als (f:Fl) (x:TRestoration):(e_TRestoration f x).als=e_TRestoration f.als x:=by simp [e_TRestoration,als_sc,als_lst,als_agg,e_TFiber_als,e_TLight_als,map_als_i,map_als_z]
theorem e_TRestoration_alsm (f:Fl) (xs:List TRestoration):(xs.map (e_TRestoration f)).map AV.als=xs.map (e_TRestoration f.als):=by simp [e_TRestoration_als]
theorem e_TRestoration_alsc (f:Fl):AV.als ∘ e_TRestoration f=e_TRestoration f.als:=by funext x; simp [e_TRestoration_als]
theorem e_TRestoration_fix (f:Fl) (x:TRestoration):(e_TRestoration f x).fix=e_TRestoration f.fix x:=by simp [e_TRestoration,fix_sc,fix_lst,fix_agg,e_TFiber_fix,e_TLight_fix,map_fix_i,map_fix_z]
theorem e_TRestoration_fixm (f:Fl) (xs:List TRestoration):(xs.map (e_TRestoration f)).map AV.fix=xs.map (e_TRestoration f.fix):=by simp [e_TRestoration_fix]
theorem e_TRestoration_fz (x:TRestoration):(e_TRestoration .o x).fz=true:=by simp [e_TRestoration,AV.i,AV.b,AV.z,fz_sc,fz_lsto,fz_agg,fzL_nil,fzL_cons,fzL_mi,fzL_mb,fzL_mz,fzL_m8,fzL_m64,ouL_m8,ouL_m64,ou_sc,ou_lstu,ou_agg,ouL_nil,ouL_cons,ouL_mi,ouL_mb,ouL_mz,e_TFiber_fzm,e_TFiber_oum,e_TLight_fzm,e_TLight_oum]
theorem e_TRestoration_fzm (xs:List TRestoration):fzL (xs.map (e_TRestoration .o))=true:=fzL_of e_TRestoration_fz xs
theorem e_TRestoration_ou (x:TRestoration):(e_TRestoration .u x).ouB=true:=by simp [e_TRestoration,AV.i,AV.b,AV.z,fz_sc,fz_lsto,fz_agg,fzL_nil,fzL_cons,fzL_mi,fzL_mb,fzL_mz,fzL_m8,fzL_m64,ouL_m8,ouL_m64,ou_sc,ou_lstu,ou_agg,ouL_nil,ouL_cons,ouL_mi,ouL_mb,ouL_mz,e_TFiber_fzm,e_TFiber_oum,e_TLight_fzm,e_TLight_oum]
theorem e_TRestoration_oum (xs:List TRestoration):ouBL (xs.map (e_TRestoration .u))=true:=ouL_of e_TRestoration_ou xs
def e_Li (f:Fl) (xs:List Int):AV:=.lst f 1 (xs.map AV.i)
theorem e_Li_nrm (f:Fl) (x:List Int):(e_Li f x).nrm=e_Li .o x:=by simp [e_Li,nrm_sc,nrm_lst,nrm_agg,map_nrm_i]
theorem e_Li_nrmm (f:Fl) (xs:List (List Int)):(xs.map (e_Li f)).map AV.nrm=xs.map (e_Li .o):=by simp [e_Li_nrm]
theorem e_Li_als (f:Fl) (x:List Int):(e_Li f x).als=e_Li f.als x:=by simp [e_Li,als_sc,als_lst,als_agg,map_als_i]
theorem e_Li_alsm (f:Fl) (xs:List (List Int)):(xs.map (e_Li f)).map AV.als=xs.map (e_Li f.als):=by simp [e_Li_als]
theorem e_Li_alsc (f:Fl):AV.als ∘ e_Li f=e_Li f.als:=by funext x; simp [e_Li_als]
theorem e_Li_fix (f:Fl) (x:List Int):(e_Li f x).fix=e_Li f.fix x:=by simp [e_Li,fix_sc,fix_lst,fix_agg,map_fix_i]
theorem e_Li_fixm (f:Fl) (xs:List (List Int)):(xs.map (e_Li f)).map AV.fix=xs.map (e_Li f.fix):=by simp [e_Li_fix]
theorem e_Li_fz (x:List Int):(e_Li .o x).fz=true:=by simp [e_Li,AV.i,AV.b,AV.z,fz_sc,fz_lsto,fz_agg,fzL_nil,fzL_cons,fzL_mi,fzL_mb,fzL_mz,fzL_m8,fzL_m64,ouL_m8,ouL_m64,ou_sc,ou_lstu,ou_agg,ouL_nil,ouL_cons,ouL_mi,ouL_mb,ouL_mz]
theorem e_Li_fzm (xs:List (List Int)):fzL (xs.map (e_Li .o))=true:=fzL_of e_Li_fz xs
theorem e_Li_ou (x:List Int):(e_Li .u x).ouB=true:=by simp [e_Li,AV.i,AV.b,AV.z,fz_sc,fz_lsto,fz_agg,fzL_nil,fzL_cons,fzL_mi,fzL_mb,fzL_mz,fzL_m8,fzL_m64,ouL_m8,ouL_m64,ou_sc,ou_lstu,ou_agg,ouL_nil,ouL_cons,ouL_mi,ouL_mb,ouL_mz]
theorem e_Li_oum (xs:List (List Int)):ouBL (xs.map (e_Li .u))=true:=ouL_of e_Li_ou xs
def tz_TLight {H:World→Prop}:Tok H e_TLight 5:=⟨(⟨0,(⟨0,[]⟩:TRoute),(⟨0,0⟩:TBlock)⟩:TLight),#[.int .i64 0,.int .i64 0,.slice none 0 0,.int .i64 0,.int .i64 0],rfl,by simp [Value.oneCell'],fun W S B _=>(constOk_rep (v:=.agg #[.int .i64 0,.int .i64 0,.slice none 0 0,.int .i64 0,.int .i64 0]) (a:=e_TLight .s (⟨0,(⟨0,[]⟩:TRoute),(⟨0,0⟩:TBlock)⟩:TLight)) rfl W S B).1⟩
theorem tz_TLight_E {H:World→Prop}:tokE (tz_TLight (H:=H))=.agg [.i 0,.i 0,.sc (.slice none 0 0),.i 0,.i 0]:=rfl
theorem tz_TLight_F {H:World→Prop}:(tz_TLight (H:=H)).Free:=fun W S B=>(constOk_rep (v:=.agg #[.int .i64 0,.int .i64 0,.slice none 0 0,.int .i64 0,.int .i64 0]) (a:=e_TLight .u (⟨0,(⟨0,[]⟩:TRoute),(⟨0,0⟩:TBlock)⟩:TLight)) rfl W S B).1
theorem sh_TLight (x:TLight):(e_TLight .u x).shs=e_TLight .s x:=by simp [e_TLight,AV.shs,shsL,shsL_map AV.i AV.i fun _=>rfl]
def M_s (aZ0:List ByteArray) (sZ2:Int×Int):Option ((Int×Int) ⊕ (Int ⊕ Int)) :=
 cond (decide (sZ2.2 < (aZ0.length:Int))) ((geti aZ0 sZ2.2).bind fun yZ4=>cond (decide ((IntKind.wrap .i64 (sZ2.1 - (yZ4.size:Int))) < 0)) (some (.inr (.inr (-1)))) (some (.inl (IntKind.wrap .i64 (sZ2.1 - (yZ4.size:Int)),IntKind.wrap .i64 (sZ2.2+1))))) (some (.inr (.inl sZ2.1)))
def M_dr (aZ0:List ByteArray) (leftZ0:Int):Option Int :=
 cond (decide ((IntKind.wrap .i64 (leftZ0 - (aZ0.length:Int))) < 0)) (some (-1)) ((iter (M_s aZ0) N0 (IntKind.wrap .i64 (leftZ0 - (aZ0.length:Int)),0)).bind fun oZ6=>(match oZ6 with | .inl vZ7=>some vZ7 | .inr xZ8=>some xZ8))
def M_ds (aZ0:List TFiber) (leftZ0:Int):Option Int :=
 cond (decide ((IntKind.wrap .i64 (leftZ0 - (aZ0.length:Int))) < 0)) (some (-1)) (some (IntKind.wrap .i64 (leftZ0 - (aZ0.length:Int))))
def M_dt (aZ0:TNetwork) (leftZ0:Int):Option Int :=
 (M_dr aZ0.Nodes leftZ0).bind fun rZ1=>cond (decide (rZ1 < 0)) (some (-1)) ((M_ds aZ0.Fibers rZ1).bind fun rZ3=>cond (decide (rZ3 < 0)) (some (-1)) (some rZ3))
def M_cg (aZ0:List Int) (leftZ0:Int):Option Int :=
 cond (decide ((IntKind.wrap .i64 (leftZ0 - (aZ0.length:Int))) < 0)) (some (-1)) (some (IntKind.wrap .i64 (leftZ0 - (aZ0.length:Int))))
def M_du (aZ0:TRoute) (leftZ0:Int):Option Int :=
 (M_cg aZ0.Fibers leftZ0).bind fun rZ1=>cond (decide (rZ1 < 0)) (some (-1)) (some rZ1)
def M_dv (aZ0:TLight) (leftZ0:Int):Option Int :=
 (M_du aZ0.Route leftZ0).bind fun rZ1=>cond (decide (rZ1 < 0)) (some (-1)) (some rZ1)
def M_t (aZ0:List TLight) (sZ2:Int×Int):Option ((Int×Int) ⊕ (Int ⊕ Int)) :=
 cond (decide (sZ2.2 < (aZ0.length:Int))) ((geti aZ0 sZ2.2).bind fun yZ4=>(M_dv yZ4 sZ2.1).bind fun rZ5=>cond (decide (rZ5 < 0)) (some (.inr (.inr (-1)))) (some (.inl (rZ5,IntKind.wrap .i64 (sZ2.2+1))))) (some (.inr (.inl sZ2.1)))
def M_ch (aZ0:List TLight) (leftZ0:Int):Option Int :=
 cond (decide ((IntKind.wrap .i64 (leftZ0 - (aZ0.length:Int))) < 0)) (some (-1)) ((iter (M_t aZ0) N0 (IntKind.wrap .i64 (leftZ0 - (aZ0.length:Int)),0)).bind fun oZ7=>(match oZ7 with | .inl vZ8=>some vZ8 | .inr xZ9=>some xZ9))
def M_dw (aZ0:TPlan) (leftZ0:Int):Option Int :=
 (M_dt aZ0.Network leftZ0).bind fun rZ1=>cond (decide (rZ1 < 0)) (some (-1)) ((M_ch aZ0.Lights rZ1).bind fun rZ3=>cond (decide (rZ3 < 0)) (some (-1)) (some rZ3))
def M_dx (aZ0:TRestoration) (leftZ0:Int):Option Int :=
 (M_dw aZ0.Plan leftZ0).bind fun rZ1=>cond (decide (rZ1 < 0)) (some (-1)) ((M_ch aZ0.Home rZ1).bind fun rZ3=>cond (decide (rZ3 < 0)) (some (-1)) ((M_cg aZ0.Down rZ3).bind fun rZ5=>cond (decide (rZ5 < 0)) (some (-1)) (some rZ5)))
def M_u (aZ0:List ByteArray) (sZ4:Int×List ByteArray):Option ((Int×List ByteArray) ⊕ (List ByteArray)) :=
 cond (decide (sZ4.1 < (aZ0.length:Int))) ((geti aZ0 sZ4.1).bind fun yZ6=>(grd (0≤sZ4.1∧sZ4.1 < (sZ4.2.length:Int))).bind fun kZ7=>(sZ4.2[(Int.toNat sZ4.1)]?).bind fun yZ8=>bnd (sZ4.2.set (Int.toNat sZ4.1) yZ6) fun lZ9=>some (.inl (IntKind.wrap .i64 (sZ4.1+1),lZ9))) (some (.inr sZ4.2))
def M_dy (aZ0:List ByteArray):Option (List ByteArray) :=
 (grd (0≤(aZ0.length:Int)∧(aZ0.length:Int)≤(aZ0.length:Int)∧(aZ0.length:Int) * ((16:Nat):Int)≤140737488355328∧(aZ0.length:Int)≤9223372036854775807)).bind fun uZ1=>bnd (List.replicate (Int.toNat (aZ0.length:Int)) (⟨#[]⟩:ByteArray)) fun lZ2=>(iter (M_u aZ0) N0 (0,lZ2)).bind fun oZ11=>some oZ11
def M_db (aZ0:TFiber):Option TFiber :=
 some (⟨aZ0.A,aZ0.B,aZ0.Length,aZ0.Risk⟩:TFiber)
def M_v (aZ0:List TFiber) (sZ4:Int×List TFiber):Option ((Int×List TFiber) ⊕ (List TFiber)) :=
 cond (decide (sZ4.1 < (aZ0.length:Int))) ((geti aZ0 sZ4.1).bind fun yZ6=>(M_db yZ6).bind fun rZ7=>(grd (0≤sZ4.1∧sZ4.1 < (sZ4.2.length:Int))).bind fun kZ8=>(sZ4.2[(Int.toNat sZ4.1)]?).bind fun yZ9=>bnd (sZ4.2.set (Int.toNat sZ4.1) rZ7) fun lZ10=>some (.inl (IntKind.wrap .i64 (sZ4.1+1),lZ10))) (some (.inr sZ4.2))
def M_dz (aZ0:List TFiber):Option (List TFiber) :=
 (grd (0≤(aZ0.length:Int)∧(aZ0.length:Int)≤(aZ0.length:Int)∧(aZ0.length:Int) * ((32:Nat):Int)≤140737488355328∧(aZ0.length:Int)≤9223372036854775807)).bind fun uZ1=>bnd (List.replicate (Int.toNat (aZ0.length:Int)) (⟨0,0,0,0⟩:TFiber)) fun lZ2=>(iter (M_v aZ0) N0 (0,lZ2)).bind fun oZ12=>some oZ12
def M_ea (aZ0:TNetwork):Option TNetwork :=
 (M_dy aZ0.Nodes).bind fun rZ1=>(M_dz aZ0.Fibers).bind fun rZ2=>some (⟨rZ1,rZ2⟩:TNetwork)
def M_w (aZ0:List Int) (sZ4:Int×List Int):Option ((Int×List Int) ⊕ (List Int)) :=
 cond (decide (sZ4.1 < (aZ0.length:Int))) ((geti aZ0 sZ4.1).bind fun yZ6=>(grd (0≤sZ4.1∧sZ4.1 < (sZ4.2.length:Int))).bind fun kZ7=>(sZ4.2[(Int.toNat sZ4.1)]?).bind fun yZ8=>bnd (sZ4.2.set (Int.toNat sZ4.1) yZ6) fun lZ9=>some (.inl (IntKind.wrap .i64 (sZ4.1+1),lZ9))) (some (.inr sZ4.2))
def M_bj (aZ0:List Int):Option (List Int) :=
 (grd (0≤(aZ0.length:Int)∧(aZ0.length:Int)≤(aZ0.length:Int)∧(aZ0.length:Int) * ((8:Nat):Int)≤140737488355328∧(aZ0.length:Int)≤9223372036854775807)).bind fun uZ1=>bnd (List.replicate (Int.toNat (aZ0.length:Int)) 0) fun lZ2=>(iter (M_w aZ0) N0 (0,lZ2)).bind fun oZ11=>some oZ11
def M_eb (aZ0:TRoute):Option TRoute :=
 (M_bj aZ0.Fibers).bind fun rZ1=>some (⟨aZ0.Start,rZ1⟩:TRoute)
def M_ec (aZ0:TBlock):Option TBlock :=
 some (⟨aZ0.First,aZ0.Count⟩:TBlock)
def M_dc (aZ0:TLight):Option TLight :=
 (M_eb aZ0.Route).bind fun rZ1=>(M_ec aZ0.Block).bind fun rZ2=>some (⟨aZ0.Id,(⟨rZ1.Start,rZ1.Fibers⟩:TRoute),(⟨rZ2.First,rZ2.Count⟩:TBlock)⟩:TLight)
def M_x (aZ0:List TLight) (sZ4:Int×List TLight):Option ((Int×List TLight) ⊕ (List TLight)) :=
 cond (decide (sZ4.1 < (aZ0.length:Int))) ((geti aZ0 sZ4.1).bind fun yZ6=>(M_dc yZ6).bind fun rZ7=>(grd (0≤sZ4.1∧sZ4.1 < (sZ4.2.length:Int))).bind fun kZ8=>(sZ4.2[(Int.toNat sZ4.1)]?).bind fun yZ9=>bnd (sZ4.2.set (Int.toNat sZ4.1) (⟨rZ7.Id,(⟨rZ7.Route.Start,rZ7.Route.Fibers⟩:TRoute),(⟨rZ7.Block.First,rZ7.Block.Count⟩:TBlock)⟩:TLight)) fun lZ10=>some (.inl (IntKind.wrap .i64 (sZ4.1+1),lZ10))) (some (.inr sZ4.2))
def M_ci (aZ0:List TLight):Option (List TLight) :=
 (grd (0≤(aZ0.length:Int)∧(aZ0.length:Int)≤(aZ0.length:Int)∧(aZ0.length:Int) * ((56:Nat):Int)≤140737488355328∧(aZ0.length:Int)≤9223372036854775807)).bind fun uZ1=>bnd (List.replicate (Int.toNat (aZ0.length:Int)) (⟨0,(⟨0,[]⟩:TRoute),(⟨0,0⟩:TBlock)⟩:TLight)) fun lZ2=>(iter (M_x aZ0) N0 (0,lZ2)).bind fun oZ12=>some oZ12
def M_ed (aZ0:TPlan):Option TPlan :=
 (M_ea aZ0.Network).bind fun rZ1=>(M_ci aZ0.Lights).bind fun rZ2=>some (⟨(⟨rZ1.Nodes,rZ1.Fibers⟩:TNetwork),rZ2⟩:TPlan)
def M_bn (aZ0:TRestoration):Option TRestoration :=
 (M_ed aZ0.Plan).bind fun rZ1=>(M_ci aZ0.Home).bind fun rZ2=>(M_bj aZ0.Down).bind fun rZ3=>some (⟨(⟨(⟨rZ1.Network.Nodes,rZ1.Network.Fibers⟩:TNetwork),rZ1.Lights⟩:TPlan),rZ2,rZ3⟩:TRestoration)
def M_b (xZ0:Int) (aZ0:Int) (bZ0:Int):Option Bool :=
 cond (decide (aZ0≤xZ0)) (some (decide (xZ0≤bZ0))) (some false)
def M_ee (bZ0:Int):Option Bool :=
 cond (decide (97≤bZ0)) (cond (decide (bZ0≤122)) (some true) (cond (decide (48≤bZ0)) (some (decide (bZ0≤57))) (some false))) (cond (decide (48≤bZ0)) (some (decide (bZ0≤57))) (some false))
def M_y (sZ0:ByteArray) (sZ7:Int):Option (Int ⊕ (Unit ⊕ Bool)) :=
 cond (decide (sZ7 < (sZ0.size:Int))) ((getz sZ0 sZ7).bind fun yZ9=>(M_ee (yZ9.toNat:Int)).bind fun rZ10=>cond (!rZ10) (some (.inr (.inr false))) (some (.inl (IntKind.wrap .i64 (sZ7+1))))) (some (.inr (.inl ())))
def M_ef (sZ0:ByteArray):Option Bool :=
 ((M_b (sZ0.size:Int) 1 8).bind fun rZ1=>cond (!rZ1) (some true) ((getz sZ0 0).bind fun yZ3=>cond (decide ((yZ3.toNat:Int) < 97)) (some true) (some (decide (122 < (yZ3.toNat:Int))))):Option Bool).bind fun oZ5=>cond (oZ5) (some false) ((iter (M_y sZ0) N0 0).bind fun oZ12=>(match oZ12 with | .inl vZ13=>some true | .inr xZ14=>some xZ14))
def M_z (listZ0:List ByteArray) (nameZ0:ByteArray) (sZ1:Int):Option (Int ⊕ (Unit ⊕ Int)) :=
 cond (decide (sZ1 < (listZ0.length:Int))) ((geti listZ0 sZ1).bind fun yZ3=>cond (yZ3.toList==nameZ0.toList) (some (.inr (.inr sZ1))) (some (.inl (IntKind.wrap .i64 (sZ1+1))))) (some (.inr (.inl ())))
def M_eg (listZ0:List ByteArray) (nameZ0:ByteArray):Option Int :=
 (iter (M_z listZ0 nameZ0) N0 0).bind fun oZ5=>(match oZ5 with | .inl vZ6=>some (-1) | .inr xZ7=>some xZ7)
def M_eh (fZ0:TFiber) (nodesZ0:Int):Option Bool :=
 (M_b fZ0.A 0 (IntKind.wrap .i64 (nodesZ0 - 1))).bind fun rZ1=>cond (rZ1) ((M_b fZ0.B (IntKind.wrap .i64 (fZ0.A+1)) (IntKind.wrap .i64 (nodesZ0 - 1))).bind fun rZ3=>cond (rZ3) ((M_b fZ0.Length 1 5000).bind fun rZ5=>cond (rZ5) ((M_b fZ0.Risk 0 9).bind fun rZ7=>some rZ7) (some false)) (some false)) (some false)
def M_ei (fZ0:TFiber) (gZ0:TFiber):Option Int :=
 cond (fZ0.A != gZ0.A) (some (IntKind.wrap .i64 (fZ0.A - gZ0.A))) (cond (fZ0.B != gZ0.B) (some (IntKind.wrap .i64 (fZ0.B - gZ0.B))) (cond (fZ0.Length != gZ0.Length) (some (IntKind.wrap .i64 (fZ0.Length - gZ0.Length))) (some (IntKind.wrap .i64 (fZ0.Risk - gZ0.Risk)))))
def M_aa (nZ0:TNetwork) (sZ5:Int):Option (Int ⊕ (Unit ⊕ Bool)) :=
 cond (decide (sZ5 < (nZ0.Nodes.length:Int))) (((geti nZ0.Nodes sZ5).bind fun yZ7=>(M_ef yZ7).bind fun rZ8=>cond (!rZ8) (some true) ((M_eg nZ0.Nodes yZ7).bind fun rZ10=>some (rZ10 != sZ5)):Option Bool).bind fun oZ11=>cond (oZ11) (some (.inr (.inr false))) (some (.inl (IntKind.wrap .i64 (sZ5+1))))) (some (.inr (.inl ())))
def M_ab (nZ0:TNetwork) (sZ16:Int):Option (Int ⊕ (Unit ⊕ Bool)) :=
 cond (decide (sZ16 < (nZ0.Fibers.length:Int))) (((geti nZ0.Fibers sZ16).bind fun yZ18=>(M_eh yZ18 (nZ0.Nodes.length:Int)).bind fun rZ19=>cond (!rZ19) (some true) (cond (decide (0 < sZ16)) ((geti nZ0.Fibers (IntKind.wrap .i64 (sZ16 - 1))).bind fun yZ22=>(M_ei yZ22 yZ18).bind fun rZ23=>some (decide (0 < rZ23))) (some false)):Option Bool).bind fun oZ24=>cond (oZ24) (some (.inr (.inr false))) (some (.inl (IntKind.wrap .i64 (sZ16+1))))) (some (.inr (.inl ())))
def M_cj (nZ0:TNetwork):Option Bool :=
 ((M_b (nZ0.Nodes.length:Int) 2 8).bind fun rZ1=>cond (!rZ1) (some true) (some (decide (14 < (nZ0.Fibers.length:Int)))):Option Bool).bind fun oZ3=>cond (oZ3) (some false) ((iter (M_aa nZ0) N0 0).bind fun oZ13=>(match oZ13 with | .inl vZ14=>(iter (M_ab nZ0) N0 0).bind fun oZ26=>(match oZ26 with | .inl vZ27=>some true | .inr xZ28=>some xZ28) | .inr xZ15=>some xZ15))
def M_ej (nZ0:TNetwork) (fiberZ0:Int) (nodeZ0:Int):Option Int :=
 (geti nZ0.Fibers fiberZ0).bind fun yZ1=>cond (nodeZ0==yZ1.A) (some yZ1.B) (cond (nodeZ0==yZ1.B) (some yZ1.A) (some (-1)))
def M_ac (lZ0:List Int) (nZ0:Int) (sZ1:Int):Option (Int ⊕ (Unit ⊕ Bool)) :=
 cond (decide (sZ1 < (lZ0.length:Int))) ((geti lZ0 sZ1).bind fun yZ3=>cond (yZ3==nZ0) (some (.inr (.inr true))) (some (.inl (IntKind.wrap .i64 (sZ1+1))))) (some (.inr (.inl ())))
def M_ck (lZ0:List Int) (nZ0:Int):Option Bool :=
 (iter (M_ac lZ0 nZ0) N0 0).bind fun oZ5=>(match oZ5 with | .inl vZ6=>some false | .inr xZ7=>some xZ7)
def M_ad (nZ0:TNetwork) (rZ0:TRoute) (sZ8:Int×List Int):Option ((Int×List Int) ⊕ ((List Int) ⊕ (List Int×Bool))) :=
 cond (decide (sZ8.1 < (rZ0.Fibers.length:Int))) ((geti rZ0.Fibers sZ8.1).bind fun yZ10=>(M_b yZ10 0 (IntKind.wrap .i64 ((nZ0.Fibers.length:Int) - 1))).bind fun rZ11=>cond (!rZ11) (some (.inr (.inr (sZ8.2,false)))) ((grd (0≤(IntKind.wrap .i64 ((sZ8.2.length:Int) - 1))∧(IntKind.wrap .i64 ((sZ8.2.length:Int) - 1)) < (sZ8.2.length:Int))).bind fun kZ13=>(sZ8.2[(Int.toNat (IntKind.wrap .i64 ((sZ8.2.length:Int) - 1)))]?).bind fun yZ14=>(M_ej nZ0 yZ10 yZ14).bind fun rZ15=>(cond (decide (rZ15 < 0)) (some true) ((M_ck sZ8.2 rZ15).bind fun rZ17=>some rZ17):Option Bool).bind fun oZ18=>cond (oZ18) (some (.inr (.inr (sZ8.2,false)))) (bnd ([rZ15]) fun lZ20=>(grd ((sZ8.2.length+1) * 8≤140737488355328)).bind fun uZ23=>bnd (sZ8.2++lZ20) fun lZ24=>some (.inl (IntKind.wrap .i64 (sZ8.1+1),lZ24))))) (some (.inr (.inl sZ8.2)))
def M_cl (nZ0:TNetwork) (rZ0:TRoute):Option (List Int×Bool) :=
 bnd ([rZ0.Start]) fun lZ1=>((M_b rZ0.Start 0 (IntKind.wrap .i64 ((nZ0.Nodes.length:Int) - 1))).bind fun rZ4=>cond (!rZ4) (some true) (some ((rZ0.Fibers.length:Int)==0)):Option Bool).bind fun oZ6=>cond (oZ6) (some (lZ1,false)) ((iter (M_ad nZ0 rZ0) N0 (0,lZ1)).bind fun oZ27=>(match oZ27 with | .inl vZ28=>some (vZ28,true) | .inr xZ29=>some xZ29))
def M_dd (nZ0:TNetwork) (rZ0:TRoute):Option Bool :=
 (M_cj nZ0).bind fun rZ1=>cond (!rZ1) (some false) ((M_cl nZ0 rZ0).bind fun rZ3=>some rZ3.2)
def M_ek (bZ0:TBlock):Option Bool :=
 (M_b bZ0.First 0 23).bind fun rZ1=>cond (rZ1) ((M_b bZ0.Count 1 (IntKind.wrap .i64 (24 - bZ0.First))).bind fun rZ3=>some rZ3) (some false)
def M_el (nZ0:TNetwork) (xZ0:TLight):Option Bool :=
 (M_b xZ0.Id 1 999).bind fun rZ1=>cond (rZ1) ((M_dd nZ0 xZ0.Route).bind fun rZ3=>cond (rZ3) ((M_ek xZ0.Block).bind fun rZ5=>some rZ5) (some false)) (some false)
def M_ae (rZ0:TRoute) (groupZ0:List Int) (sZ1:Int):Option (Int ⊕ (Unit ⊕ Bool)) :=
 cond (decide (sZ1 < (rZ0.Fibers.length:Int))) ((geti rZ0.Fibers sZ1).bind fun yZ3=>(M_ck groupZ0 yZ3).bind fun rZ4=>cond (rZ4) (some (.inr (.inr true))) (some (.inl (IntKind.wrap .i64 (sZ1+1))))) (some (.inr (.inl ())))
def M_bs (rZ0:TRoute) (groupZ0:List Int):Option Bool :=
 (iter (M_ae rZ0 groupZ0) N0 0).bind fun oZ6=>(match oZ6 with | .inl vZ7=>some false | .inr xZ8=>some xZ8)
def M_cm (bZ0:TBlock):Option Int :=
 (grd (0≤(IntKind.wrap .u64 bZ0.Count))).bind fun uZ1=>(grd (0≤(IntKind.wrap .u64 bZ0.First))).bind fun uZ2=>some (IntKind.wrap .i64 ((IntKind.wrap .i64 ((IntKind.wrap .i64 (1 * 2 ^ (min (Int.toNat (IntKind.wrap .u64 bZ0.Count)) (IntKind.bits .i64)))) - 1)) * 2 ^ (min (Int.toNat (IntKind.wrap .u64 bZ0.First)) (IntKind.bits .i64))))
def M_em (xZ0:TLight) (yZ0:TLight):Option Bool :=
 (M_bs xZ0.Route yZ0.Route.Fibers).bind fun rZ1=>cond (rZ1) ((M_cm xZ0.Block).bind fun rZ3=>(M_cm yZ0.Block).bind fun rZ4=>some ((bits .and .i64 rZ3 rZ4) != 0)) (some false)
def M_h (pZ0:TPlan) (sZ5:Int) (sZ14:Int):Option (Int ⊕ (Unit ⊕ Bool)) :=
 cond (decide (sZ14 < sZ5)) ((geti pZ0.Lights sZ14).bind fun yZ16=>(geti pZ0.Lights sZ5).bind fun yZ17=>(M_em yZ16 yZ17).bind fun rZ18=>cond (rZ18) (some (.inr (.inr false))) (some (.inl (IntKind.wrap .i64 (sZ14+1))))) (some (.inr (.inl ())))
def M_af (pZ0:TPlan) (sZ5:Int):Option (Int ⊕ (Unit ⊕ Bool)) :=
 cond (decide (sZ5 < (pZ0.Lights.length:Int))) ((((geti pZ0.Lights sZ5).bind fun yZ7=>(M_el pZ0.Network yZ7).bind fun rZ8=>cond (!rZ8) (some true) (cond (decide (0 < sZ5)) ((geti pZ0.Lights (IntKind.wrap .i64 (sZ5 - 1))).bind fun yZ11=>some (decide (yZ7.Id≤yZ11.Id))) (some false)):Option Bool).bind fun oZ12=>cond (oZ12) (some (.inr false)) ((iter (M_h pZ0 sZ5) N0 0).bind fun oZ20=>(match oZ20 with | .inl vZ21=>some (.inl ()) | .inr xZ22=>some (.inr xZ22))):Option (Unit ⊕ Bool)).bind fun oZ25=>(match oZ25 with | .inl vZ26=>some (.inl (IntKind.wrap .i64 (sZ5+1))) | .inr xZ27=>some (.inr (.inr xZ27)))) (some (.inr (.inl ())))
def M_ca (pZ0:TPlan):Option Bool :=
 ((M_cj pZ0.Network).bind fun rZ1=>cond (!rZ1) (some true) (some (decide (12 < (pZ0.Lights.length:Int)))):Option Bool).bind fun oZ3=>cond (oZ3) (some false) ((iter (M_af pZ0) N0 0).bind fun oZ29=>(match oZ29 with | .inl vZ30=>some true | .inr xZ31=>some xZ31))
def M_ag (lZ0:List Int) (loZ0:Int) (hiZ0:Int) (sZ1:Int):Option (Int ⊕ (Unit ⊕ Bool)) :=
 cond (decide (sZ1 < (lZ0.length:Int))) (((geti lZ0 sZ1).bind fun yZ3=>(M_b yZ3 loZ0 hiZ0).bind fun rZ4=>cond (!rZ4) (some true) (cond (decide (0 < sZ1)) ((geti lZ0 (IntKind.wrap .i64 (sZ1 - 1))).bind fun yZ7=>some (decide (yZ3≤yZ7))) (some false)):Option Bool).bind fun oZ8=>cond (oZ8) (some (.inr (.inr false))) (some (.inl (IntKind.wrap .i64 (sZ1+1))))) (some (.inr (.inl ())))
def M_cn (lZ0:List Int) (loZ0:Int) (hiZ0:Int):Option Bool :=
 (iter (M_ag lZ0 loZ0 hiZ0) N0 0).bind fun oZ10=>(match oZ10 with | .inl vZ11=>some true | .inr xZ12=>some xZ12)
def M_ah (listZ0:List TLight) (idZ0:Int) (sZ1:Int):Option (Int ⊕ (Unit ⊕ Int)) :=
 cond (decide (sZ1 < (listZ0.length:Int))) ((geti listZ0 sZ1).bind fun yZ3=>cond (yZ3.Id==idZ0) (some (.inr (.inr sZ1))) (some (.inl (IntKind.wrap .i64 (sZ1+1))))) (some (.inr (.inl ())))
def M_en (listZ0:List TLight) (idZ0:Int):Option Int :=
 (iter (M_ah listZ0 idZ0) N0 0).bind fun oZ5=>(match oZ5 with | .inl vZ6=>some (-1) | .inr xZ7=>some xZ7)
def M_fp (nZ0:TNetwork) (rZ0:TRoute):Option (List Int) :=
 (M_cl nZ0 rZ0).bind fun rZ1=>some rZ1.1
def M_co (nZ0:TNetwork) (rZ0:TRoute):Option Int :=
 (M_fp nZ0 rZ0).bind fun rZ1=>(grd (0≤(IntKind.wrap .i64 ((rZ1.length:Int) - 1))∧(IntKind.wrap .i64 ((rZ1.length:Int) - 1)) < (rZ1.length:Int))).bind fun kZ2=>(rZ1[(Int.toNat (IntKind.wrap .i64 ((rZ1.length:Int) - 1)))]?).bind fun yZ3=>some yZ3
def M_ai (rZ0:TRestoration) (sZ8:Int):Option (Int ⊕ (Unit ⊕ Bool)) :=
 cond (decide (sZ8 < (rZ0.Plan.Lights.length:Int))) ((geti rZ0.Plan.Lights sZ8).bind fun yZ10=>(M_en rZ0.Home yZ10.Id).bind fun rZ11=>(cond (decide (rZ11 < 0)) (some true) ((M_bs yZ10.Route rZ0.Down).bind fun rZ13=>some rZ13):Option Bool).bind fun oZ14=>cond (oZ14) (some (.inr (.inr false))) ((geti rZ0.Home rZ11).bind fun yZ16=>(cond (yZ10.Route.Start != yZ16.Route.Start) (some true) ((M_co rZ0.Plan.Network yZ10.Route).bind fun rZ18=>(M_co rZ0.Plan.Network yZ16.Route).bind fun rZ19=>cond (rZ18 != rZ19) (some true) (some (yZ10.Block.Count != yZ16.Block.Count))):Option Bool).bind fun oZ21=>cond (oZ21) (some (.inr (.inr false))) (some (.inl (IntKind.wrap .i64 (sZ8+1)))))) (some (.inr (.inl ())))
def M_eo (rZ0:TRestoration):Option Bool :=
 ((M_ca rZ0.Plan).bind fun rZ1=>cond (!rZ1) (some true) ((M_ca (⟨(⟨rZ0.Plan.Network.Nodes,rZ0.Plan.Network.Fibers⟩:TNetwork),rZ0.Home⟩:TPlan)).bind fun rZ3=>cond (!rZ3) (some true) ((M_cn rZ0.Down 0 (IntKind.wrap .i64 ((rZ0.Plan.Network.Fibers.length:Int) - 1))).bind fun rZ5=>some (!rZ5))):Option Bool).bind fun oZ6=>cond (oZ6) (some false) ((iter (M_ai rZ0) N0 0).bind fun oZ23=>(match oZ23 with | .inl vZ24=>some true | .inr xZ25=>some xZ25))
def M_da (rZ0:TRestoration) (fibersZ0:List Int):Option Bool :=
 (M_eo rZ0).bind fun rZ1=>cond (rZ1) ((M_cn fibersZ0 0 (IntKind.wrap .i64 ((rZ0.Plan.Network.Fibers.length:Int) - 1))).bind fun rZ3=>some rZ3) (some false)
def M_fq (nZ0:TNetwork):Option TNetwork :=
 (grd (nZ0.Nodes.length * 16≤140737488355328)).bind fun uZ1=>(grd (nZ0.Fibers.length * 32≤140737488355328)).bind fun uZ2=>some (⟨nZ0.Nodes,nZ0.Fibers⟩:TNetwork)
def M_cf (lZ0:List Int):Option (List Int) :=
 (grd (lZ0.length * 8≤140737488355328)).bind fun uZ1=>some lZ0
def M_fr (rZ0:TRoute):Option TRoute :=
 (M_cf rZ0.Fibers).bind fun rZ1=>some (⟨rZ0.Start,rZ1⟩:TRoute)
def M_cp (xZ0:TLight):Option TLight :=
 (M_fr xZ0.Route).bind fun rZ1=>some (⟨xZ0.Id,(⟨rZ1.Start,rZ1.Fibers⟩:TRoute),(⟨xZ0.Block.First,xZ0.Block.Count⟩:TBlock)⟩:TLight)
def M_aj (pZ0:TPlan) (sZ2:Int×List TLight):Option ((Int×List TLight) ⊕ (List TLight)) :=
 cond (decide (sZ2.1 < (pZ0.Lights.length:Int))) ((geti pZ0.Lights sZ2.1).bind fun yZ4=>(M_cp yZ4).bind fun rZ5=>bnd ([(⟨rZ5.Id,(⟨rZ5.Route.Start,rZ5.Route.Fibers⟩:TRoute),(⟨rZ5.Block.First,rZ5.Block.Count⟩:TBlock)⟩:TLight)]) fun lZ6=>(grd ((sZ2.2.length+1) * 56≤140737488355328)).bind fun uZ9=>bnd (sZ2.2++lZ6) fun lZ10=>some (.inl (IntKind.wrap .i64 (sZ2.1+1),lZ10))) (some (.inr sZ2.2))
def M_bz (pZ0:TPlan):Option TPlan :=
 (M_fq pZ0.Network).bind fun rZ1=>(iter (M_aj pZ0) N0 (0,[])).bind fun oZ13=>some (⟨(⟨rZ1.Nodes,rZ1.Fibers⟩:TNetwork),oZ13⟩:TPlan)
def M_ak (listZ0:List TLight) (sZ1:Int×List TLight):Option ((Int×List TLight) ⊕ (List TLight)) :=
 cond (decide (sZ1.1 < (listZ0.length:Int))) ((geti listZ0 sZ1.1).bind fun yZ3=>(M_cp yZ3).bind fun rZ4=>bnd ([(⟨rZ4.Id,(⟨rZ4.Route.Start,rZ4.Route.Fibers⟩:TRoute),(⟨rZ4.Block.First,rZ4.Block.Count⟩:TBlock)⟩:TLight)]) fun lZ5=>(grd ((sZ1.2.length+1) * 56≤140737488355328)).bind fun uZ8=>bnd (sZ1.2++lZ5) fun lZ9=>some (.inl (IntKind.wrap .i64 (sZ1.1+1),lZ9))) (some (.inr sZ1.2))
def M_ep (listZ0:List TLight):Option (List TLight) :=
 (iter (M_ak listZ0) N0 (0,[])).bind fun oZ12=>some oZ12
def M_cz (rZ0:TRestoration):Option TRestoration :=
 (M_bz rZ0.Plan).bind fun rZ1=>(M_ep rZ0.Home).bind fun rZ2=>(M_cf rZ0.Down).bind fun rZ3=>some (⟨(⟨(⟨rZ1.Network.Nodes,rZ1.Network.Fibers⟩:TNetwork),rZ1.Lights⟩:TPlan),rZ2,rZ3⟩:TRestoration)
def M_i (aaZ0:Int) (abZ0:List Int) (sZ1:Int):Option (Int ⊕ Int) :=
 cond (decide (sZ1 < (abZ0.length:Int))) ((grd (0≤sZ1∧sZ1 < (abZ0.length:Int))).bind fun kZ3=>(abZ0[(Int.toNat sZ1)]?).bind fun yZ4=>cond (decide (yZ4 < aaZ0)) (some (.inl (IntKind.wrap .i64 (sZ1+1)))) (some (.inr sZ1))) (some (.inr sZ1))
def M_eq (aaZ0:Int) (abZ0:List Int):Option (List Int) :=
 (iter (M_i aaZ0 abZ0) N0 0).bind fun oZ6=>(cond (decide (oZ6 < (abZ0.length:Int))) ((grd (0≤oZ6∧oZ6 < (abZ0.length:Int))).bind fun kZ8=>(abZ0[(Int.toNat oZ6)]?).bind fun yZ9=>some (yZ9==aaZ0)) (some false):Option Bool).bind fun oZ10=>cond (oZ10) (some abZ0) ((grd (True∧0≤oZ6∧True∧Int.toNat oZ6≤abZ0.length)).bind fun uZ12=>bnd (subT abZ0 0 (Int.toNat oZ6)) fun lZ13=>(grd (lZ13.length * 8≤140737488355328)).bind fun uZ15=>bnd ([aaZ0]) fun lZ16=>(grd ((lZ13.length+1) * 8≤140737488355328)).bind fun uZ19=>bnd (lZ13++lZ16) fun lZ20=>(grd (0≤oZ6∧True∧Int.toNat oZ6≤abZ0.length∧True)).bind fun uZ23=>bnd (subT abZ0 (Int.toNat oZ6) (abZ0.length - (Int.toNat oZ6))) fun lZ24=>(grd ((lZ20.length+lZ24.length) * 8≤140737488355328)).bind fun uZ26=>bnd (lZ20++lZ24) fun lZ27=>some lZ27)
def M_al (pZ0:TPlan) (idZ0:Int) (sZ1:Int):Option (Int ⊕ (Unit ⊕ Int)) :=
 cond (decide (sZ1 < (pZ0.Lights.length:Int))) ((geti pZ0.Lights sZ1).bind fun yZ3=>cond (yZ3.Id==idZ0) (some (.inr (.inr sZ1))) (some (.inl (IntKind.wrap .i64 (sZ1+1))))) (some (.inr (.inl ())))
def M_er (pZ0:TPlan) (idZ0:Int):Option Int :=
 (iter (M_al pZ0 idZ0) N0 0).bind fun oZ5=>(match oZ5 with | .inl vZ6=>some (-1) | .inr xZ7=>some xZ7)
def M_do (aaZ0:Int) (abZ0:List ByteArray) (acZ0:List TFiber) (adZ0:List TLight):Option (List ByteArray×List TLight×List TFiber×List ByteArray×List TFiber×List TLight) :=
 (M_bz (⟨(⟨abZ0,acZ0⟩:TNetwork),adZ0⟩:TPlan)).bind fun rZ1=>(grd (True∧0≤aaZ0∧True∧Int.toNat aaZ0≤rZ1.Lights.length)).bind fun uZ2=>bnd (subT rZ1.Lights 0 (Int.toNat aaZ0)) fun lZ3=>(grd (lZ3.length * 56≤140737488355328)).bind fun uZ5=>(grd (0≤(IntKind.wrap .i64 (aaZ0+1))∧True∧Int.toNat (IntKind.wrap .i64 (aaZ0+1))≤rZ1.Lights.length∧True)).bind fun uZ6=>bnd (subT rZ1.Lights (Int.toNat (IntKind.wrap .i64 (aaZ0+1))) (rZ1.Lights.length - (Int.toNat (IntKind.wrap .i64 (aaZ0+1))))) fun lZ7=>(grd ((lZ3.length+lZ7.length) * 56≤140737488355328)).bind fun uZ9=>bnd (lZ3++lZ7) fun lZ10=>some (rZ1.Network.Nodes,lZ10,rZ1.Network.Fibers,abZ0,acZ0,adZ0)
def M_q (afZ0:List Int) (sZ2:Int×List Int):Option ((Int×List Int) ⊕ (List Int)) :=
 cond (decide (sZ2.1 < (afZ0.length:Int))) ((grd (0≤sZ2.1∧sZ2.1 < (afZ0.length:Int))).bind fun kZ4=>(afZ0[(Int.toNat sZ2.1)]?).bind fun yZ5=>(M_eq yZ5 sZ2.2).bind fun rZ6=>some (.inl (IntKind.wrap .i64 (sZ2.1+1),rZ6))) (some (.inr sZ2.2))
def M_d (acZ0:List TLight) (afZ0:List Int) (sZ8:Int×List Int×List ByteArray×List TFiber×List TLight):Option ((Int×List Int×List ByteArray×List TFiber×List TLight) ⊕ (List Int×List ByteArray×List TFiber×List TLight)) :=
 cond (decide (sZ8.1 < (acZ0.length:Int))) ((grd (0≤sZ8.1∧sZ8.1 < (acZ0.length:Int))).bind fun kZ10=>(acZ0[(Int.toNat sZ8.1)]?).bind fun yZ11=>(M_bs yZ11.Route afZ0).bind fun rZ12=>cond (rZ12) (bnd ([yZ11.Id]) fun lZ14=>(grd ((sZ8.2.1.length+1) * 8≤140737488355328)).bind fun uZ17=>bnd (sZ8.2.1++lZ14) fun lZ18=>(M_er (⟨(⟨sZ8.2.2.1,sZ8.2.2.2.1⟩:TNetwork),sZ8.2.2.2.2⟩:TPlan) yZ11.Id).bind fun rZ21=>(M_do rZ21 sZ8.2.2.1 sZ8.2.2.2.1 sZ8.2.2.2.2).bind fun rZ22=>some (.inl (IntKind.wrap .i64 (sZ8.1+1),lZ18,rZ22.1,rZ22.2.2.1,rZ22.2.1))) (some (.inl (IntKind.wrap .i64 (sZ8.1+1),sZ8.2.1,sZ8.2.2.1,sZ8.2.2.2.1,sZ8.2.2.2.2)))) (some (.inr (sZ8.2.1,sZ8.2.2.1,sZ8.2.2.2.1,sZ8.2.2.2.2)))
def M_dp (aaZ0:List ByteArray) (abZ0:List TFiber) (acZ0:List TLight) (adZ0:List TLight) (aeZ0:List Int) (afZ0:List Int):Option (List Int×List ByteArray×List TFiber×List TLight×List TLight×List Int×List ByteArray×List TFiber×List TLight×List TLight×List Int×List Int) :=
 (M_cz (⟨(⟨(⟨aaZ0,abZ0⟩:TNetwork),acZ0⟩:TPlan),adZ0,aeZ0⟩:TRestoration)).bind fun rZ1=>(iter (M_q afZ0) N0 (0,rZ1.Down)).bind fun oZ7=>(iter (M_d acZ0 afZ0) N0 (0,[],rZ1.Plan.Network.Nodes,rZ1.Plan.Network.Fibers,rZ1.Plan.Lights)).bind fun oZ23=>some (oZ23.1,oZ23.2.1,oZ23.2.2.1,oZ23.2.2.2,rZ1.Home,oZ7,aaZ0,abZ0,acZ0,adZ0,aeZ0,afZ0)
def M_dq (aaZ0:List ByteArray) (abZ0:List TFiber) (acZ0:List TLight) (adZ0:List TLight) (aeZ0:List Int) (afZ0:List Int):Option (Bool×List Int×List ByteArray×List TFiber×List TLight×List TLight×List Int×List ByteArray×List TFiber×List TLight×List TLight×List Int×List Int) :=
 (M_da (⟨(⟨(⟨aaZ0,abZ0⟩:TNetwork),acZ0⟩:TPlan),adZ0,aeZ0⟩:TRestoration) afZ0).bind fun rZ1=>cond (!rZ1) (some (false,[],[],[],[],[],[],aaZ0,abZ0,acZ0,adZ0,aeZ0,afZ0)) ((M_dp aaZ0 abZ0 acZ0 adZ0 aeZ0 afZ0).bind fun rZ3=>some (true,rZ3.1,rZ3.2.1,rZ3.2.2.1,rZ3.2.2.2.1,rZ3.2.2.2.2.1,rZ3.2.2.2.2.2.1,rZ3.2.2.2.2.2.2.1,rZ3.2.2.2.2.2.2.2.1,rZ3.2.2.2.2.2.2.2.2.1,rZ3.2.2.2.2.2.2.2.2.2.1,rZ3.2.2.2.2.2.2.2.2.2.2.1,rZ3.2.2.2.2.2.2.2.2.2.2.2))
def M_j (nZ0:Int) (lowZ0:Int) (highZ0:Int):Option Bool :=
 cond (decide (lowZ0≤nZ0)) (some (decide (nZ0≤highZ0))) (some false)
def M_k (sZ0:ByteArray) (sZ1:Int):Option (Int ⊕ (Unit ⊕ Bool)) :=
 cond (decide (sZ1 < (sZ0.size:Int))) (((getz sZ0 sZ1).bind fun yZ3=>cond (decide (97≤(yZ3.toNat:Int))) (cond (decide (48≤(yZ3.toNat:Int))) (some (decide ((yZ3.toNat:Int)≤122),decide ((yZ3.toNat:Int)≤57))) (some (decide ((yZ3.toNat:Int)≤122),false))) (cond (decide (48≤(yZ3.toNat:Int))) (some (false,decide ((yZ3.toNat:Int)≤57))) (some (false,false))):Option (Bool×Bool)).bind fun oZ7=>cond (!oZ7.1) (cond (!oZ7.2) (some (.inr (.inr false))) (cond (sZ1==0) (some (.inr (.inr false))) (some (.inl (IntKind.wrap .i64 (sZ1+1)))))) (some (.inl (IntKind.wrap .i64 (sZ1+1))))) (some (.inr (.inl ())))
def M_es (sZ0:ByteArray):Option Bool :=
 (iter (M_k sZ0) N0 0).bind fun oZ11=>(match oZ11 with | .inl vZ12=>(M_j (sZ0.size:Int) 1 8).bind fun rZ14=>some rZ14 | .inr xZ13=>some xZ13)
def M_am (sZ0:List ByteArray) (vZ0:ByteArray) (sZ1:Int):Option (Int ⊕ (Unit ⊕ Int)) :=
 cond (decide (sZ1 < (sZ0.length:Int))) ((geti sZ0 sZ1).bind fun yZ3=>cond (vZ0.toList==yZ3.toList) (some (.inr (.inr sZ1))) (some (.inl (IntKind.wrap .i64 (sZ1+1))))) (some (.inr (.inl ())))
def M_fs (sZ0:List ByteArray) (vZ0:ByteArray):Option Int :=
 (iter (M_am sZ0 vZ0) N0 0).bind fun oZ5=>(match oZ5 with | .inl vZ6=>some (-1) | .inr xZ7=>some xZ7)
def M_et (sZ0:List ByteArray) (vZ0:ByteArray):Option Bool :=
 (M_fs sZ0 vZ0).bind fun rZ1=>some (decide (0≤rZ1))
def M_de (xZ0:Int):Option Bool :=
 some (xZ0 != xZ0)
def M_bo (xZ0:Int) (yZ0:Int):Option Int :=
 (M_de xZ0).bind fun rZ1=>(M_de yZ0).bind fun rZ2=>cond (rZ1) (cond (rZ2) (some 0) (some (-1))) (cond (rZ2) (some 1) (cond (decide (xZ0 < yZ0)) (some (-1)) (cond (decide (yZ0 < xZ0)) (some 1) (some 0))))
def M_an (valsZ0:List Int) (sZ1:Int):Option (Int ⊕ (Unit ⊕ Int)) :=
 cond (decide (sZ1 < (valsZ0.length:Int))) ((geti valsZ0 sZ1).bind fun yZ3=>cond (yZ3 != 0) (some (.inr (.inr yZ3))) (some (.inl (IntKind.wrap .i64 (sZ1+1))))) (some (.inr (.inl ())))
def M_ft (valsZ0:List Int):Option Int :=
 (iter (M_an valsZ0) N0 0).bind fun oZ5=>(match oZ5 with | .inl vZ6=>some 0 | .inr xZ7=>some xZ7)
def M_eu (aZ0:TFiber) (bZ0:TFiber):Option Int :=
 (M_bo aZ0.A bZ0.A).bind fun rZ1=>(M_bo aZ0.B bZ0.B).bind fun rZ2=>(M_bo aZ0.Length bZ0.Length).bind fun rZ3=>(M_bo aZ0.Risk bZ0.Risk).bind fun rZ4=>bnd ([rZ1,rZ2,rZ3,rZ4]) fun lZ5=>(M_ft lZ5).bind fun rZ9=>some rZ9
def M_ao (nZ0:TNetwork) (sZ1:Int):Option (Int ⊕ (Unit ⊕ Bool)) :=
 cond (decide (sZ1 < (nZ0.Nodes.length:Int))) ((geti nZ0.Nodes sZ1).bind fun yZ3=>(M_es yZ3).bind fun rZ4=>cond (!rZ4) (some (.inr (.inr false))) ((slT nZ0.Nodes sZ1).bind fun lZ6=>(M_et lZ6 yZ3).bind fun rZ7=>cond (rZ7) (some (.inr (.inr false))) (some (.inl (IntKind.wrap .i64 (sZ1+1)))))) (some (.inr (.inl ())))
def M_l (nZ0:TNetwork) (sZ12:Int):Option (Int ⊕ (Unit ⊕ Bool)) :=
 cond (decide (sZ12 < (nZ0.Fibers.length:Int))) ((geti nZ0.Fibers sZ12).bind fun yZ14=>cond (decide (yZ14.A < 0)) (some (.inr (.inr false))) (cond (decide (yZ14.B≤yZ14.A)) (some (.inr (.inr false))) (cond (decide ((nZ0.Nodes.length:Int)≤yZ14.B)) (some (.inr (.inr false))) ((M_j yZ14.Length 1 5000).bind fun rZ18=>cond (!rZ18) (some (.inr (.inr false))) ((M_j yZ14.Risk 0 9).bind fun rZ20=>cond (!rZ20) (some (.inr (.inr false))) (cond (decide (0 < sZ12)) ((geti nZ0.Fibers (IntKind.wrap .i64 (sZ12 - 1))).bind fun yZ23=>(M_eu yZ23 yZ14).bind fun rZ24=>cond (decide (0 < rZ24)) (some (.inr (.inr false))) (some (.inl (IntKind.wrap .i64 (sZ12+1))))) (some (.inl (IntKind.wrap .i64 (sZ12+1)))))))))) (some (.inr (.inl ())))
def M_ev (nZ0:TNetwork):Option Bool :=
 (iter (M_ao nZ0) N0 0).bind fun oZ9=>(match oZ9 with | .inl vZ10=>(iter (M_l nZ0) N0 0).bind fun oZ26=>(match oZ26 with | .inl vZ27=>(M_j (nZ0.Nodes.length:Int) 2 8).bind fun rZ29=>cond (rZ29) (some (decide ((nZ0.Fibers.length:Int)≤14))) (some false) | .inr xZ28=>some xZ28) | .inr xZ11=>some xZ11)
def M_ew (fZ0:TFiber) (nodeZ0:Int):Option Int :=
 cond (nodeZ0==fZ0.A) (some fZ0.B) (cond (nodeZ0==fZ0.B) (some fZ0.A) (some (-1)))
def M_ap (sZ0:List Int) (vZ0:Int) (sZ1:Int):Option (Int ⊕ (Unit ⊕ Int)) :=
 cond (decide (sZ1 < (sZ0.length:Int))) ((geti sZ0 sZ1).bind fun yZ3=>cond (vZ0==yZ3) (some (.inr (.inr sZ1))) (some (.inl (IntKind.wrap .i64 (sZ1+1))))) (some (.inr (.inl ())))
def M_fu (sZ0:List Int) (vZ0:Int):Option Int :=
 (iter (M_ap sZ0 vZ0) N0 0).bind fun oZ5=>(match oZ5 with | .inl vZ6=>some (-1) | .inr xZ7=>some xZ7)
def M_cq (sZ0:List Int) (vZ0:Int):Option Bool :=
 (M_fu sZ0 vZ0).bind fun rZ1=>some (decide (0≤rZ1))
def M_aq (nZ0:TNetwork) (rZ0:TRoute) (sZ8:Int×Int×List Int):Option ((Int×Int×List Int) ⊕ ((List Int) ⊕ (List Int×Bool))) :=
 cond (decide (sZ8.2.1 < (rZ0.Fibers.length:Int))) ((geti rZ0.Fibers sZ8.2.1).bind fun yZ10=>(M_j yZ10 0 (IntKind.wrap .i64 ((nZ0.Fibers.length:Int) - 1))).bind fun rZ11=>cond (!rZ11) (some (.inr (.inr (([]),false)))) ((geti nZ0.Fibers yZ10).bind fun yZ13=>(M_ew yZ13 sZ8.1).bind fun rZ14=>(cond (decide (rZ14 < 0)) (some true) ((M_cq sZ8.2.2 rZ14).bind fun rZ16=>some rZ16):Option Bool).bind fun oZ17=>cond (oZ17) (some (.inr (.inr (([]),false)))) (bnd ([rZ14]) fun lZ19=>(grd ((sZ8.2.2.length+1) * 8≤140737488355328)).bind fun uZ22=>bnd (sZ8.2.2++lZ19) fun lZ23=>some (.inl (rZ14,IntKind.wrap .i64 (sZ8.2.1+1),lZ23))))) (some (.inr (.inl sZ8.2.2)))
def M_cr (nZ0:TNetwork) (rZ0:TRoute):Option (List Int×Bool) :=
 ((M_j rZ0.Start 0 (IntKind.wrap .i64 ((nZ0.Nodes.length:Int) - 1))).bind fun rZ1=>cond (!rZ1) (some true) (some ((rZ0.Fibers.length:Int)==0)):Option Bool).bind fun oZ3=>cond (oZ3) (some (([]),false)) (bnd ([rZ0.Start]) fun lZ5=>(iter (M_aq nZ0 rZ0) N0 (rZ0.Start,0,lZ5)).bind fun oZ26=>(match oZ26 with | .inl vZ27=>some (vZ27,true) | .inr xZ28=>some xZ28))
def M_ex (bZ0:TBlock):Option Bool :=
 cond (decide (0≤bZ0.First)) ((M_j bZ0.Count 1 24).bind fun rZ2=>cond (rZ2) (some (decide (bZ0.First≤(IntKind.wrap .i64 (24 - bZ0.Count))))) (some false)) (some false)
def M_ey (nZ0:TNetwork) (xZ0:TLight):Option Bool :=
 (M_cr nZ0 xZ0.Route).bind fun rZ1=>cond (rZ1.2) ((M_j xZ0.Id 1 999).bind fun rZ3=>cond (rZ3) ((M_ex xZ0.Block).bind fun rZ5=>some rZ5) (some false)) (some false)
def M_cs (bZ0:TBlock):Option Int :=
 (grd (0≤bZ0.Count)).bind fun uZ1=>(grd (0≤bZ0.First)).bind fun uZ2=>some (IntKind.wrap .i64 ((IntKind.wrap .i64 ((IntKind.wrap .i64 (1 * 2 ^ (min (Int.toNat bZ0.Count) (IntKind.bits .i64)))) - 1)) * 2 ^ (min (Int.toNat bZ0.First) (IntKind.bits .i64))))
def M_e (aaZ0:Nat) (abZ0:Nat) (sZ2:Int) (sZ10:Int×Int×List Int):Option ((Int×Int×List Int) ⊕ (Int×List Int)) :=
 cond (decide (sZ10.2.1 < (((abZ0 - (Int.toNat sZ2)):Nat):Int))) ((grd (0≤sZ10.2.1∧sZ10.2.1 < (((abZ0 - (Int.toNat sZ2)):Nat):Int))).bind fun kZ12=>(sZ10.2.2[((aaZ0+(Int.toNat sZ2))+(Int.toNat sZ10.2.1))]?).bind fun yZ13=>(grd (0≤(IntKind.wrap .i64 (sZ10.2.1 - 1))∧(IntKind.wrap .i64 (sZ10.2.1 - 1)) < (((abZ0 - (Int.toNat sZ2)):Nat):Int))).bind fun kZ14=>(sZ10.2.2[((aaZ0+(Int.toNat sZ2))+(Int.toNat (IntKind.wrap .i64 (sZ10.2.1 - 1))))]?).bind fun yZ15=>cond (yZ13 != yZ15) ((grd (0≤sZ10.1∧sZ10.1 < (abZ0:Int))).bind fun kZ17=>(sZ10.2.2[(aaZ0+(Int.toNat sZ10.1))]?).bind fun yZ18=>bnd (sZ10.2.2.set (aaZ0+(Int.toNat sZ10.1)) yZ13) fun lZ19=>some (.inl (IntKind.wrap .i64 (sZ10.1+1),IntKind.wrap .i64 (sZ10.2.1+1),lZ19))) (some (.inl (sZ10.1,IntKind.wrap .i64 (sZ10.2.1+1),sZ10.2.2)))) (some (.inr (sZ10.1,sZ10.2.2)))
def M_ar (aaZ0:Nat) (abZ0:Nat) (acZ0:List Int) (sZ2:Int):Option (Int ⊕ (Unit ⊕ (Nat×Nat×List Int))) :=
 cond (decide (sZ2 < (abZ0:Int))) ((grd (0≤sZ2∧sZ2 < (abZ0:Int))).bind fun kZ4=>(acZ0[(aaZ0+(Int.toNat sZ2))]?).bind fun yZ5=>(grd (0≤(IntKind.wrap .i64 (sZ2 - 1))∧(IntKind.wrap .i64 (sZ2 - 1)) < (abZ0:Int))).bind fun kZ6=>(acZ0[(aaZ0+(Int.toNat (IntKind.wrap .i64 (sZ2 - 1))))]?).bind fun yZ7=>cond (yZ5==yZ7) ((grd (0≤sZ2∧True∧Int.toNat sZ2≤abZ0∧True)).bind fun uZ9=>(iter (M_e aaZ0 abZ0 sZ2) N0 (sZ2,1,acZ0)).bind fun oZ21=>(grd (0≤oZ21.1∧True∧Int.toNat oZ21.1≤abZ0∧True)).bind fun uZ22=>bnd (over oZ21.2 (aaZ0+(Int.toNat oZ21.1)) (List.replicate (abZ0 - (Int.toNat oZ21.1)) 0)) fun lZ23=>(grd (True∧0≤oZ21.1∧True∧Int.toNat oZ21.1≤abZ0)).bind fun uZ26=>some (.inr (.inr (aaZ0,(Int.toNat oZ21.1),lZ23)))) (some (.inl (IntKind.wrap .i64 (sZ2+1))))) (some (.inr (.inl ())))
def M_ct (aaZ0:Nat) (abZ0:Nat) (acZ0:List Int):Option (Nat×Nat×List Int) :=
 cond (decide ((abZ0:Int) < 2)) (some (aaZ0,abZ0,acZ0)) ((iter (M_ar aaZ0 abZ0 acZ0) N0 1).bind fun oZ27=>(match oZ27 with | .inl vZ28=>some (aaZ0,abZ0,acZ0) | .inr xZ29=>some xZ29))
def M_f (aZ0:List Int) (bZ0:List Int) (sZ1:Int×List Int):Option ((Int×List Int) ⊕ (List Int)) :=
 cond (decide (sZ1.1 < (aZ0.length:Int))) ((geti aZ0 sZ1.1).bind fun yZ3=>(M_cq bZ0 yZ3).bind fun rZ4=>cond (rZ4) (bnd ([yZ3]) fun lZ6=>(grd ((sZ1.2.length+1) * 8≤140737488355328)).bind fun uZ9=>bnd (sZ1.2++lZ6) fun lZ10=>some (.inl (IntKind.wrap .i64 (sZ1.1+1),lZ10))) (some (.inl (IntKind.wrap .i64 (sZ1.1+1),sZ1.2)))) (some (.inr sZ1.2))
def M_bt (aZ0:List Int) (bZ0:List Int):Option (List Int) :=
 (iter (M_f aZ0 bZ0) N0 (0,[])).bind fun oZ13=>(sortI oZ13).bind fun lZ14=>(M_ct 0 oZ13.length lZ14).bind fun rZ16=>bnd (subT rZ16.2.2 rZ16.1 rZ16.2.1) fun lZ17=>some lZ17
def M_ez (aZ0:TLight) (bZ0:TLight):Option Bool :=
 (M_cs aZ0.Block).bind fun rZ1=>(M_cs bZ0.Block).bind fun rZ2=>cond ((bits .and .i64 rZ1 rZ2) != 0) ((M_bt aZ0.Route.Fibers bZ0.Route.Fibers).bind fun rZ4=>some (decide (0 < (rZ4.length:Int)))) (some false)
def M_cu (ownZ0:TLight) (p1Z0:TLight):Option Bool :=
 (M_ez ownZ0 p1Z0).bind fun rZ1=>some rZ1
def M_g (sZ0:List TLight) (fZ0:TLight→Option Bool) (sZ1:Int):Option (Int ⊕ (Unit ⊕ Int)) :=
 cond (decide (sZ1 < (sZ0.length:Int))) ((geti sZ0 sZ1).bind fun yZ3=>(fZ0 yZ3).bind fun rZ4=>cond (rZ4) (some (.inr (.inr sZ1))) (some (.inl (IntKind.wrap .i64 (sZ1+1))))) (some (.inr (.inl ())))
def M_cb (sZ0:List TLight) (fZ0:TLight→Option Bool):Option Int :=
 (iter (M_g sZ0 fZ0) N0 0).bind fun oZ6=>(match oZ6 with | .inl vZ7=>some (-1) | .inr xZ8=>some xZ8)
def M_br (sZ0:List TLight) (fZ0:TLight→Option Bool):Option Bool :=
 (M_cb sZ0 fZ0).bind fun rZ1=>some (decide (0≤rZ1))
def M_m (pZ0:TPlan) (sZ5:Int):Option (Int ⊕ (Unit ⊕ Bool)) :=
 cond (decide (sZ5 < (pZ0.Lights.length:Int))) ((geti pZ0.Lights sZ5).bind fun yZ7=>(M_ey pZ0.Network yZ7).bind fun rZ8=>cond (!rZ8) (some (.inr (.inr false))) (cond (decide (0 < sZ5)) ((geti pZ0.Lights (IntKind.wrap .i64 (sZ5 - 1))).bind fun yZ11=>cond (decide (yZ7.Id≤yZ11.Id)) (some (.inr (.inr false))) ((slT pZ0.Lights sZ5).bind fun lZ13=>(M_br lZ13 (fun x0=>M_cu x0 yZ7)).bind fun rZ14=>cond (rZ14) (some (.inr (.inr false))) (some (.inl (IntKind.wrap .i64 (sZ5+1)))))) ((slT pZ0.Lights sZ5).bind fun lZ16=>(M_br lZ16 (fun x0=>M_cu x0 yZ7)).bind fun rZ17=>cond (rZ17) (some (.inr (.inr false))) (some (.inl (IntKind.wrap .i64 (sZ5+1))))))) (some (.inr (.inl ())))
def M_cc (pZ0:TPlan):Option Bool :=
 ((M_ev pZ0.Network).bind fun rZ1=>cond (!rZ1) (some true) (some (decide (12 < (pZ0.Lights.length:Int)))):Option Bool).bind fun oZ3=>cond (oZ3) (some false) ((iter (M_m pZ0) N0 0).bind fun oZ19=>(match oZ19 with | .inl vZ20=>some true | .inr xZ21=>some xZ21))
def M_n (lZ0:List Int) (nZ0:Int) (sZ1:Int):Option (Int ⊕ (Unit ⊕ Bool)) :=
 cond (decide (sZ1 < (lZ0.length:Int))) ((geti lZ0 sZ1).bind fun yZ3=>(M_j yZ3 0 (IntKind.wrap .i64 (nZ0 - 1))).bind fun rZ4=>cond (!rZ4) (some (.inr (.inr false))) (cond (decide (0 < sZ1)) ((geti lZ0 (IntKind.wrap .i64 (sZ1 - 1))).bind fun yZ7=>cond (decide (yZ3≤yZ7)) (some (.inr (.inr false))) (some (.inl (IntKind.wrap .i64 (sZ1+1))))) (some (.inl (IntKind.wrap .i64 (sZ1+1)))))) (some (.inr (.inl ())))
def M_cv (lZ0:List Int) (nZ0:Int):Option Bool :=
 (iter (M_n lZ0 nZ0) N0 0).bind fun oZ9=>(match oZ9 with | .inl vZ10=>some true | .inr xZ11=>some xZ11)
def M_fv (xZ0:TLight) (p1Z0:Int):Option Bool :=
 some (xZ0.Id==p1Z0)
def M_fa (rZ0:TRestoration) (idZ0:Int):Option Int :=
 (M_cb rZ0.Home (fun x0=>M_fv x0 idZ0)).bind fun rZ1=>some rZ1
def M_cw (nZ0:TNetwork) (rZ0:TRoute):Option Int :=
 (M_cr nZ0 rZ0).bind fun rZ1=>(grd (0≤(IntKind.wrap .i64 ((rZ1.1.length:Int) - 1))∧(IntKind.wrap .i64 ((rZ1.1.length:Int) - 1)) < (rZ1.1.length:Int))).bind fun kZ2=>(rZ1.1[(Int.toNat (IntKind.wrap .i64 ((rZ1.1.length:Int) - 1)))]?).bind fun yZ3=>some yZ3
def M_fb (xZ0:TLight) (p1Z0:TRestoration) (p2Z0:TNetwork):Option Bool :=
 (M_fa p1Z0 xZ0.Id).bind fun rZ1=>(cond (decide (rZ1 < 0)) (some true) ((M_bt xZ0.Route.Fibers p1Z0.Down).bind fun rZ3=>some (decide (0 < (rZ3.length:Int)))):Option Bool).bind fun oZ4=>cond (oZ4) (some true) ((geti p1Z0.Home rZ1).bind fun yZ6=>cond (yZ6.Route.Start != xZ0.Route.Start) (some true) ((M_cw p2Z0 yZ6.Route).bind fun rZ8=>(M_cw p2Z0 xZ0.Route).bind fun rZ9=>cond (rZ8 != rZ9) (some true) (some (yZ6.Block.Count != xZ0.Block.Count))))
def M_fc (rZ0:TRestoration):Option Bool :=
 ((M_cc rZ0.Plan).bind fun rZ1=>cond (!rZ1) (some true) ((M_cc (⟨(⟨rZ0.Plan.Network.Nodes,rZ0.Plan.Network.Fibers⟩:TNetwork),rZ0.Home⟩:TPlan)).bind fun rZ3=>cond (!rZ3) (some true) ((M_cv rZ0.Down (rZ0.Plan.Network.Fibers.length:Int)).bind fun rZ5=>some (!rZ5))):Option Bool).bind fun oZ6=>cond (oZ6) (some false) ((M_br rZ0.Plan.Lights (fun x0=>M_fb x0 rZ0 rZ0.Plan.Network)).bind fun rZ8=>some (!rZ8))
def M_fd (rZ0:TRestoration) (fibersZ0:List Int):Option Bool :=
 (M_fc rZ0).bind fun rZ1=>cond (rZ1) ((M_cv fibersZ0 (rZ0.Plan.Network.Fibers.length:Int)).bind fun rZ3=>some rZ3) (some false)
def M_fw (nZ0:TNetwork):Option TNetwork :=
 (grd (nZ0.Nodes.length * 16≤140737488355328)).bind fun uZ1=>(grd (nZ0.Fibers.length * 32≤140737488355328)).bind fun uZ2=>some (⟨nZ0.Nodes,nZ0.Fibers⟩:TNetwork)
def M_fx (rZ0:TRoute):Option TRoute :=
 (grd (rZ0.Fibers.length * 8≤140737488355328)).bind fun uZ1=>some (⟨rZ0.Start,rZ0.Fibers⟩:TRoute)
def M_as (pZ0:TPlan) (sZ2:Int×List TLight):Option ((Int×List TLight) ⊕ (List TLight)) :=
 cond (decide (sZ2.1 < (pZ0.Lights.length:Int))) ((geti pZ0.Lights sZ2.1).bind fun yZ4=>(M_fx yZ4.Route).bind fun rZ5=>bnd ([(⟨yZ4.Id,(⟨rZ5.Start,rZ5.Fibers⟩:TRoute),(⟨yZ4.Block.First,yZ4.Block.Count⟩:TBlock)⟩:TLight)]) fun lZ6=>(grd ((sZ2.2.length+1) * 56≤140737488355328)).bind fun uZ9=>bnd (sZ2.2++lZ6) fun lZ10=>some (.inl (IntKind.wrap .i64 (sZ2.1+1),lZ10))) (some (.inr sZ2.2))
def M_cx (pZ0:TPlan):Option TPlan :=
 (M_fw pZ0.Network).bind fun rZ1=>(iter (M_as pZ0) N0 (0,[])).bind fun oZ13=>some (⟨(⟨rZ1.Nodes,rZ1.Fibers⟩:TNetwork),oZ13⟩:TPlan)
def M_fy (lZ0:List Int):Option (List Int) :=
 (grd (lZ0.length * 8≤140737488355328)).bind fun uZ1=>some lZ0
def M_fe (rZ0:TRestoration):Option TRestoration :=
 (M_cx rZ0.Plan).bind fun rZ1=>(M_cx (⟨(⟨[],[]⟩:TNetwork),rZ0.Home⟩:TPlan)).bind fun rZ2=>(M_fy rZ0.Down).bind fun rZ3=>some (⟨(⟨(⟨rZ1.Network.Nodes,rZ1.Network.Fibers⟩:TNetwork),rZ1.Lights⟩:TPlan),rZ2.Lights,rZ3⟩:TRestoration)
def M_dn (aaZ0:Int):Option (Nat×Nat×List Int) :=
 cond (decide (aaZ0 < 0)) (none) (cond (decide (0 < (IntKind.wrap .i64 (aaZ0 - (IntKind.wrap .i64 (0 - ((0:Nat):Int))))))) ((grd (0 < IntKind.wrap .i64 (aaZ0 - (IntKind.wrap .i64 (0 - ((0:Nat):Int))))∧(IntKind.wrap .i64 (aaZ0 - (IntKind.wrap .i64 (0 - ((0:Nat):Int))))) * ((8:Nat):Int)≤140737488355328)).bind fun uZ3=>bnd (List.replicate (Int.toNat (IntKind.wrap .i64 (aaZ0 - (IntKind.wrap .i64 (0 - ((0:Nat):Int)))))) 0) fun lZ4=>(grd (True∧0≤0∧True∧Int.toNat 0≤(Int.toNat (IntKind.wrap .i64 (aaZ0 - (IntKind.wrap .i64 (0 - ((0:Nat):Int)))))))).bind fun uZ6=>some (0,(Int.toNat 0),lZ4)) (some (0,0,[])))
def M_o (slicesZ0:List (List Int)) (sZ1:Int×Int):Option ((Int×Int) ⊕ Int) :=
 cond (decide (sZ1.2 < (slicesZ0.length:Int))) ((geti slicesZ0 sZ1.2).bind fun yZ3=>cond (decide ((IntKind.wrap .i64 (sZ1.1+(yZ3.length:Int))) < 0)) (none) (some (.inl (IntKind.wrap .i64 (sZ1.1+(yZ3.length:Int)),IntKind.wrap .i64 (sZ1.2+1))))) (some (.inr sZ1.1))
def M_bg (slicesZ0:List (List Int)) (sZ7:Nat×Nat×Int×List Int):Option ((Nat×Nat×Int×List Int) ⊕ (Nat×Nat×List Int)) :=
 cond (decide (sZ7.2.2.1 < (slicesZ0.length:Int))) ((geti slicesZ0 sZ7.2.2.1).bind fun yZ9=>bnd (subT sZ7.2.2.2 sZ7.1 sZ7.2.1) fun lZ10=>(grd ((sZ7.2.1+yZ9.length) * 8≤140737488355328)).bind fun uZ12=>bnd (lZ10++yZ9) fun lZ13=>some (.inl (0,(sZ7.2.1+yZ9.length),IntKind.wrap .i64 (sZ7.2.2.1+1),lZ13))) (some (.inr (sZ7.1,sZ7.2.1,sZ7.2.2.2)))
def M_dm (slicesZ0:List (List Int)):Option (List Int) :=
 (iter (M_o slicesZ0) N0 (0,0)).bind fun oZ5=>(M_dn oZ5).bind fun rZ6=>(iter (M_bg slicesZ0) N0 (rZ6.1,rZ6.2.1,0,rZ6.2.2)).bind fun oZ15=>bnd (subT oZ15.2.2 oZ15.1 oZ15.2.1) fun lZ16=>some lZ16
def M_bh (aaZ0:TLight) (abZ0:List Int) (acZ0:List Int):Option (Bool×List Int×List Int) :=
 (M_bt (((aaZ0).Route).Fibers) abZ0).bind fun rZ1=>cond (decide (0 < (rZ1.length:Int))) (bnd ([(aaZ0).Id]) fun lZ3=>(grd ((acZ0.length+1) * 8≤140737488355328)).bind fun uZ6=>bnd (acZ0++lZ3) fun lZ7=>some (decide (0 < (rZ1.length:Int)),abZ0,lZ7)) (some (decide (0 < (rZ1.length:Int)),abZ0,acZ0))
def M_bi {τq:Type} (vwZ0:τq→TLight) (tzZ0:τq) (aaZ0:List τq) (sZ1:Int×List Int×List Int):Option ((Int×List Int×List Int) ⊕ ((List Int×List Int) ⊕ (Int×List τq×List Int×List Int))) :=
 cond (decide (sZ1.1 < (aaZ0.length:Int))) ((grd (0≤sZ1.1∧sZ1.1 < (aaZ0.length:Int))).bind fun kZ3=>(aaZ0[(Int.toNat sZ1.1)]?).bind fun yZ4=>(M_bh (vwZ0 yZ4) sZ1.2.1 sZ1.2.2).bind fun rZ5=>cond (rZ5.1) (some (.inr (.inr (sZ1.1,aaZ0,rZ5.2.1,rZ5.2.2)))) (some (.inl (IntKind.wrap .i64 (sZ1.1+1),rZ5.2.1,rZ5.2.2)))) (some (.inr (.inl (sZ1.2.1,sZ1.2.2))))
def M_cd {τq:Type} (vwZ0:τq→TLight) (tzZ0:τq) (aaZ0:List τq) (abZ0:List Int) (acZ0:List Int):Option (Int×List τq×List Int×List Int) :=
 (iter (M_bi vwZ0 tzZ0 aaZ0) N0 (0,abZ0,acZ0)).bind fun oZ7=>(match oZ7 with | .inl vZ8=>some ((-1),aaZ0,vZ8.1,vZ8.2) | .inr xZ9=>some xZ9)
def M_p {τq:Type} (vwZ0:τq→TLight) (tzZ0:τq) (aaZ0:List τq) (sZ3:Int×Int×List τq×List Int×List Int):Option ((Int×Int×List τq×List Int×List Int) ⊕ (Int×List τq×List Int×List Int)) :=
 cond (decide (sZ3.2.1 < (aaZ0.length:Int))) ((grd (0≤sZ3.2.1∧sZ3.2.1 < (aaZ0.length:Int))).bind fun kZ5=>(sZ3.2.2.1[(Int.toNat sZ3.2.1)]?).bind fun yZ6=>(M_bh (vwZ0 yZ6) sZ3.2.2.2.1 sZ3.2.2.2.2).bind fun rZ7=>cond (!rZ7.1) ((grd (0≤sZ3.1∧sZ3.1 < (aaZ0.length:Int))).bind fun kZ9=>(sZ3.2.2.1[(Int.toNat sZ3.1)]?).bind fun yZ10=>bnd (sZ3.2.2.1.set (Int.toNat sZ3.1) yZ6) fun lZ11=>some (.inl (IntKind.wrap .i64 (sZ3.1+1),IntKind.wrap .i64 (sZ3.2.1+1),lZ11,rZ7.2.1,rZ7.2.2))) (some (.inl (sZ3.1,IntKind.wrap .i64 (sZ3.2.1+1),sZ3.2.2.1,rZ7.2.1,rZ7.2.2)))) (some (.inr (sZ3.1,sZ3.2.2.1,sZ3.2.2.2.1,sZ3.2.2.2.2)))
def M_bm {τq:Type} (vwZ0:τq→TLight) (tzZ0:τq) (aaZ0:List τq) (abZ0:List Int) (acZ0:List Int):Option (Nat×Nat×List τq×List Int×List Int) :=
 (M_cd vwZ0 tzZ0 aaZ0 abZ0 acZ0).bind fun rZ1=>cond (rZ1.1==(-1)) (some (0,aaZ0.length,rZ1.2.1,rZ1.2.2.1,rZ1.2.2.2)) ((iter (M_p vwZ0 tzZ0 aaZ0) N0 (rZ1.1,IntKind.wrap .i64 (rZ1.1+1),rZ1.2.1,rZ1.2.2.1,rZ1.2.2.2)).bind fun oZ13=>(grd (0≤oZ13.1∧True∧Int.toNat oZ13.1≤aaZ0.length∧True)).bind fun uZ14=>bnd (over oZ13.2.1 (Int.toNat oZ13.1) (List.replicate (aaZ0.length - (Int.toNat oZ13.1)) tzZ0)) fun lZ15=>(grd (True∧0≤oZ13.1∧True∧Int.toNat oZ13.1≤aaZ0.length)).bind fun uZ18=>some (0,(Int.toNat oZ13.1),lZ15,oZ13.2.2.1,oZ13.2.2.2))
def M_ce (rZ0:TRestoration) (fibersZ0:List Int):Option (TRestoration×List Int×Bool) :=
 (M_fd rZ0 fibersZ0).bind fun rZ1=>cond (!rZ1) (some ((⟨(⟨(⟨[],[]⟩:TNetwork),[]⟩:TPlan),[],[]⟩:TRestoration),([]),false)) ((M_fe rZ0).bind fun rZ3=>bnd ([rZ0.Down,fibersZ0]) fun lZ4=>(M_dm lZ4).bind fun rZ8=>(sortI rZ8).bind fun lZ9=>(M_ct 0 rZ8.length lZ9).bind fun rZ11=>(M_bm id (⟨0,(⟨0,[]⟩:TRoute),(⟨0,0⟩:TBlock)⟩:TLight) rZ3.Plan.Lights fibersZ0 ([])).bind fun rZ12=>bnd (subT rZ12.2.2.1 rZ12.1 rZ12.2.1) fun lZ13=>bnd (subT rZ11.2.2 rZ11.1 rZ11.2.1) fun lZ15=>some ((⟨(⟨(⟨rZ3.Plan.Network.Nodes,rZ3.Plan.Network.Fibers⟩:TNetwork),lZ13⟩:TPlan),rZ3.Home,lZ15⟩:TRestoration),rZ12.2.2.2.2,true))
def M_at (aZ0:List ByteArray) (bZ0:List ByteArray) (sZ2:Int):Option (Int ⊕ (Unit ⊕ Bool)) :=
 cond (decide (sZ2 < (aZ0.length:Int))) ((geti aZ0 sZ2).bind fun yZ4=>(geti bZ0 sZ2).bind fun yZ5=>cond (!(yZ4.toList==yZ5.toList)) (some (.inr (.inr false))) (some (.inl (IntKind.wrap .i64 (sZ2+1))))) (some (.inr (.inl ())))
def M_ff (aZ0:List ByteArray) (bZ0:List ByteArray):Option Bool :=
 cond ((aZ0.length:Int) != (bZ0.length:Int)) (some false) ((iter (M_at aZ0 bZ0) N0 0).bind fun oZ7=>(match oZ7 with | .inl vZ8=>some true | .inr xZ9=>some xZ9))
def M_df (aZ0:TFiber) (bZ0:TFiber):Option Bool :=
 cond (aZ0.A != bZ0.A) (some false) (cond (aZ0.B != bZ0.B) (some false) (cond (aZ0.Length != bZ0.Length) (some false) (cond (aZ0.Risk != bZ0.Risk) (some false) (some true))))
def M_au (aZ0:List TFiber) (bZ0:List TFiber) (sZ2:Int):Option (Int ⊕ (Unit ⊕ Bool)) :=
 cond (decide (sZ2 < (aZ0.length:Int))) ((geti aZ0 sZ2).bind fun yZ4=>(geti bZ0 sZ2).bind fun yZ5=>(M_df yZ4 yZ5).bind fun rZ6=>cond (!rZ6) (some (.inr (.inr false))) (some (.inl (IntKind.wrap .i64 (sZ2+1))))) (some (.inr (.inl ())))
def M_fg (aZ0:List TFiber) (bZ0:List TFiber):Option Bool :=
 cond ((aZ0.length:Int) != (bZ0.length:Int)) (some false) ((iter (M_au aZ0 bZ0) N0 0).bind fun oZ8=>(match oZ8 with | .inl vZ9=>some true | .inr xZ10=>some xZ10))
def M_fh (aZ0:TNetwork) (bZ0:TNetwork):Option Bool :=
 (M_ff aZ0.Nodes bZ0.Nodes).bind fun rZ1=>cond (!rZ1) (some false) ((M_fg aZ0.Fibers bZ0.Fibers).bind fun rZ3=>cond (!rZ3) (some false) (some true))
def M_av (aZ0:List Int) (bZ0:List Int) (sZ2:Int):Option (Int ⊕ (Unit ⊕ Bool)) :=
 cond (decide (sZ2 < (aZ0.length:Int))) ((geti aZ0 sZ2).bind fun yZ4=>(geti bZ0 sZ2).bind fun yZ5=>cond (yZ4 != yZ5) (some (.inr (.inr false))) (some (.inl (IntKind.wrap .i64 (sZ2+1))))) (some (.inr (.inl ())))
def M_bk (aZ0:List Int) (bZ0:List Int):Option Bool :=
 cond ((aZ0.length:Int) != (bZ0.length:Int)) (some false) ((iter (M_av aZ0 bZ0) N0 0).bind fun oZ7=>(match oZ7 with | .inl vZ8=>some true | .inr xZ9=>some xZ9))
def M_fi (aZ0:TRoute) (bZ0:TRoute):Option Bool :=
 cond (aZ0.Start != bZ0.Start) (some false) ((M_bk aZ0.Fibers bZ0.Fibers).bind fun rZ2=>cond (!rZ2) (some false) (some true))
def M_fj (aZ0:TBlock) (bZ0:TBlock):Option Bool :=
 cond (aZ0.First != bZ0.First) (some false) (cond (aZ0.Count != bZ0.Count) (some false) (some true))
def M_dg (aZ0:TLight) (bZ0:TLight):Option Bool :=
 cond (aZ0.Id != bZ0.Id) (some false) ((M_fi aZ0.Route bZ0.Route).bind fun rZ2=>cond (!rZ2) (some false) ((M_fj aZ0.Block bZ0.Block).bind fun rZ4=>cond (!rZ4) (some false) (some true)))
def M_aw (aZ0:List TLight) (bZ0:List TLight) (sZ2:Int):Option (Int ⊕ (Unit ⊕ Bool)) :=
 cond (decide (sZ2 < (aZ0.length:Int))) ((geti aZ0 sZ2).bind fun yZ4=>(geti bZ0 sZ2).bind fun yZ5=>(M_dg yZ4 yZ5).bind fun rZ6=>cond (!rZ6) (some (.inr (.inr false))) (some (.inl (IntKind.wrap .i64 (sZ2+1))))) (some (.inr (.inl ())))
def M_cy (aZ0:List TLight) (bZ0:List TLight):Option Bool :=
 cond ((aZ0.length:Int) != (bZ0.length:Int)) (some false) ((iter (M_aw aZ0 bZ0) N0 0).bind fun oZ8=>(match oZ8 with | .inl vZ9=>some true | .inr xZ10=>some xZ10))
def M_fk (aZ0:TPlan) (bZ0:TPlan):Option Bool :=
 (M_fh aZ0.Network bZ0.Network).bind fun rZ1=>cond (!rZ1) (some false) ((M_cy aZ0.Lights bZ0.Lights).bind fun rZ3=>cond (!rZ3) (some false) (some true))
def M_bp (aZ0:TRestoration) (bZ0:TRestoration):Option Bool :=
 (M_fk aZ0.Plan bZ0.Plan).bind fun rZ1=>cond (!rZ1) (some false) ((M_cy aZ0.Home bZ0.Home).bind fun rZ3=>cond (!rZ3) (some false) ((M_bk aZ0.Down bZ0.Down).bind fun rZ5=>cond (!rZ5) (some false) (some true)))
def M_ax (sZ2:Int×ByteArray):Option ((Int×ByteArray) ⊕ ByteArray) :=
 cond (decide (0 < sZ2.1)) ((grd (10 ≠ 0)).bind fun uZ4=>bnd ([IntKind.wrap .u8 (IntKind.wrap .i64 (48+(Int.tmod sZ2.1 10)))]) fun lZ5=>(grd ((b2s lZ5).size+sZ2.2.size≤9223372036854775807)).bind fun uZ9=>(grd (10 ≠ 0)).bind fun uZ10=>some (.inl (IntKind.wrap .i64 (Int.tdiv sZ2.1 10),(b2s lZ5)++sZ2.2))) (some (.inr sZ2.2))
def M_bu (kZ0:Int):Option ByteArray :=
 cond (decide (kZ0≤0)) (some (⟨#[109,48]⟩:ByteArray)) ((iter (M_ax) N0 (kZ0,(⟨#[]⟩:ByteArray))).bind fun oZ11=>(grd ((⟨#[109]⟩:ByteArray).size+oZ11.size≤9223372036854775807)).bind fun uZ12=>some ((⟨#[109]⟩:ByteArray)++oZ11))
def M_ay (sZ1:Int×Int×List ByteArray):Option ((Int×Int×List ByteArray) ⊕ (Int×List ByteArray)) :=
 cond (decide (sZ1.2.1 < (sZ1.2.2.length:Int))) ((M_bu sZ1.1).bind fun rZ3=>(grd (0≤sZ1.2.1∧sZ1.2.1 < (sZ1.2.2.length:Int))).bind fun kZ4=>(sZ1.2.2[(Int.toNat sZ1.2.1)]?).bind fun yZ5=>bnd (sZ1.2.2.set (Int.toNat sZ1.2.1) rZ3) fun lZ6=>some (.inl (IntKind.wrap .i64 (sZ1.1+1),IntKind.wrap .i64 (sZ1.2.1+1),lZ6))) (some (.inr (sZ1.1,sZ1.2.2)))
def M_fl (aaZ0:Int) (abZ0:List ByteArray):Option (Int×List ByteArray) :=
 (iter (M_ay) N0 (aaZ0,0,abZ0)).bind fun oZ8=>some (oZ8.1,oZ8.2)
def M_az (sZ1:Int×Int×List TFiber):Option ((Int×Int×List TFiber) ⊕ (Int×List TFiber)) :=
 cond (decide (sZ1.2.1 < (sZ1.2.2.length:Int))) ((grd (0≤sZ1.2.1∧sZ1.2.1 < (sZ1.2.2.length:Int))).bind fun kZ3=>(sZ1.2.2[(Int.toNat sZ1.2.1)]?).bind fun yZ4=>bnd (sZ1.2.2.set (Int.toNat sZ1.2.1) (⟨sZ1.1,yZ4.B,yZ4.Length,yZ4.Risk⟩:TFiber)) fun lZ5=>(lZ5[(Int.toNat sZ1.2.1)]?).bind fun yZ7=>bnd (lZ5.set (Int.toNat sZ1.2.1) (⟨yZ7.A,IntKind.wrap .i64 (sZ1.1+1),yZ7.Length,yZ7.Risk⟩:TFiber)) fun lZ8=>(lZ8[(Int.toNat sZ1.2.1)]?).bind fun yZ10=>bnd (lZ8.set (Int.toNat sZ1.2.1) (⟨yZ10.A,yZ10.B,IntKind.wrap .i64 ((IntKind.wrap .i64 (sZ1.1+1))+1),yZ10.Risk⟩:TFiber)) fun lZ11=>(lZ11[(Int.toNat sZ1.2.1)]?).bind fun yZ13=>bnd (lZ11.set (Int.toNat sZ1.2.1) (⟨yZ13.A,yZ13.B,yZ13.Length,IntKind.wrap .i64 ((IntKind.wrap .i64 ((IntKind.wrap .i64 (sZ1.1+1))+1))+1)⟩:TFiber)) fun lZ14=>some (.inl (IntKind.wrap .i64 ((IntKind.wrap .i64 ((IntKind.wrap .i64 ((IntKind.wrap .i64 (sZ1.1+1))+1))+1))+1),IntKind.wrap .i64 (sZ1.2.1+1),lZ14))) (some (.inr (sZ1.1,sZ1.2.2)))
def M_fm (aaZ0:Int) (abZ0:List TFiber):Option (Int×List TFiber) :=
 (iter (M_az) N0 (aaZ0,0,abZ0)).bind fun oZ16=>some (oZ16.1,oZ16.2)
def M_fn (aaZ0:Int) (abZ0:List ByteArray) (acZ0:List TFiber):Option (Int×List ByteArray×List TFiber) :=
 (M_fl aaZ0 abZ0).bind fun rZ1=>(M_fm rZ1.1 acZ0).bind fun rZ2=>some (rZ2.1,rZ1.2,rZ2.2)
def M_ba (sZ1:Int×Int×List Int):Option ((Int×Int×List Int) ⊕ (Int×List Int)) :=
 cond (decide (sZ1.2.1 < (sZ1.2.2.length:Int))) ((grd (0≤sZ1.2.1∧sZ1.2.1 < (sZ1.2.2.length:Int))).bind fun kZ3=>(sZ1.2.2[(Int.toNat sZ1.2.1)]?).bind fun yZ4=>bnd (sZ1.2.2.set (Int.toNat sZ1.2.1) sZ1.1) fun lZ5=>some (.inl (IntKind.wrap .i64 (sZ1.1+1),IntKind.wrap .i64 (sZ1.2.1+1),lZ5))) (some (.inr (sZ1.1,sZ1.2.2)))
def M_bq (aaZ0:Int) (abZ0:List Int):Option (Int×List Int) :=
 (iter (M_ba) N0 (aaZ0,0,abZ0)).bind fun oZ7=>some (oZ7.1,oZ7.2)
def M_bb (sZ1:Int×Int×List TLight):Option ((Int×Int×List TLight) ⊕ (Int×List TLight)) :=
 cond (decide (sZ1.2.1 < (sZ1.2.2.length:Int))) ((grd (0≤sZ1.2.1∧sZ1.2.1 < (sZ1.2.2.length:Int))).bind fun kZ3=>(sZ1.2.2[(Int.toNat sZ1.2.1)]?).bind fun yZ4=>bnd (sZ1.2.2.set (Int.toNat sZ1.2.1) (⟨sZ1.1,(⟨yZ4.Route.Start,yZ4.Route.Fibers⟩:TRoute),(⟨yZ4.Block.First,yZ4.Block.Count⟩:TBlock)⟩:TLight)) fun lZ5=>(lZ5[(Int.toNat sZ1.2.1)]?).bind fun yZ7=>bnd (lZ5.set (Int.toNat sZ1.2.1) (⟨yZ7.Id,(⟨IntKind.wrap .i64 (sZ1.1+1),yZ7.Route.Fibers⟩:TRoute),(⟨yZ7.Block.First,yZ7.Block.Count⟩:TBlock)⟩:TLight)) fun lZ8=>(lZ8[(Int.toNat sZ1.2.1)]?).bind fun yZ10=>(M_bq (IntKind.wrap .i64 ((IntKind.wrap .i64 (sZ1.1+1))+1)) yZ10.Route.Fibers).bind fun rZ11=>bnd (lZ8.set (Int.toNat sZ1.2.1) (⟨yZ10.Id,(⟨yZ10.Route.Start,rZ11.2⟩:TRoute),(⟨yZ10.Block.First,yZ10.Block.Count⟩:TBlock)⟩:TLight)) fun lZ12=>(lZ12[(Int.toNat sZ1.2.1)]?).bind fun yZ14=>bnd (lZ12.set (Int.toNat sZ1.2.1) (⟨yZ14.Id,(⟨yZ14.Route.Start,yZ14.Route.Fibers⟩:TRoute),(⟨rZ11.1,yZ14.Block.Count⟩:TBlock)⟩:TLight)) fun lZ15=>(lZ15[(Int.toNat sZ1.2.1)]?).bind fun yZ17=>bnd (lZ15.set (Int.toNat sZ1.2.1) (⟨yZ17.Id,(⟨yZ17.Route.Start,yZ17.Route.Fibers⟩:TRoute),(⟨yZ17.Block.First,IntKind.wrap .i64 (rZ11.1+1)⟩:TBlock)⟩:TLight)) fun lZ18=>some (.inl (IntKind.wrap .i64 ((IntKind.wrap .i64 (rZ11.1+1))+1),IntKind.wrap .i64 (sZ1.2.1+1),lZ18))) (some (.inr (sZ1.1,sZ1.2.2)))
def M_bv (aaZ0:Int) (abZ0:List TLight):Option (Int×List TLight) :=
 (iter (M_bb) N0 (aaZ0,0,abZ0)).bind fun oZ20=>some (oZ20.1,oZ20.2)
def M_dh (aaZ0:Int) (abZ0:List ByteArray) (acZ0:List TFiber) (adZ0:List TLight):Option (Int×List ByteArray×List TFiber×List TLight) :=
 (M_fn aaZ0 abZ0 acZ0).bind fun rZ1=>(M_bv rZ1.1 adZ0).bind fun rZ2=>some (rZ2.1,rZ1.2.1,rZ1.2.2,rZ2.2)
def M_bw (aaZ0:Int) (abZ0:List ByteArray) (acZ0:List TFiber) (adZ0:List TLight) (aeZ0:List TLight) (afZ0:List Int):Option (Int×List ByteArray×List TFiber×List TLight×List TLight×List Int) :=
 (M_dh aaZ0 abZ0 acZ0 adZ0).bind fun rZ1=>(M_bv rZ1.1 aeZ0).bind fun rZ2=>(M_bq rZ2.1 afZ0).bind fun rZ3=>some (rZ3.1,rZ1.2.1,rZ1.2.2.1,rZ1.2.2.2,rZ2.2,rZ3.2)
def M_bc (aZ0:List ByteArray) (sZ1:Int×Int):Option ((Int×Int) ⊕ (Int ⊕ Int)) :=
 cond (decide (sZ1.2 < (aZ0.length:Int))) ((geti aZ0 sZ1.2).bind fun yZ3=>(M_bu sZ1.1).bind fun rZ4=>cond (!(yZ3.toList==rZ4.toList)) (some (.inr (.inr (-1)))) (some (.inl (IntKind.wrap .i64 (sZ1.1+1),IntKind.wrap .i64 (sZ1.2+1))))) (some (.inr (.inl sZ1.1)))
def M_di (aZ0:List ByteArray) (kZ0:Int):Option Int :=
 (iter (M_bc aZ0) N0 (kZ0,0)).bind fun oZ6=>(match oZ6 with | .inl vZ7=>some vZ7 | .inr xZ8=>some xZ8)
def M_bd (aZ0:List TFiber) (sZ1:Int×Int):Option ((Int×Int) ⊕ (Int ⊕ Int)) :=
 cond (decide (sZ1.2 < (aZ0.length:Int))) ((geti aZ0 sZ1.2).bind fun yZ3=>cond (yZ3.A != sZ1.1) (some (.inr (.inr (-1)))) (cond (yZ3.B != (IntKind.wrap .i64 (sZ1.1+1))) (some (.inr (.inr (-1)))) (cond (yZ3.Length != (IntKind.wrap .i64 ((IntKind.wrap .i64 (sZ1.1+1))+1))) (some (.inr (.inr (-1)))) (cond (yZ3.Risk != (IntKind.wrap .i64 ((IntKind.wrap .i64 ((IntKind.wrap .i64 (sZ1.1+1))+1))+1))) (some (.inr (.inr (-1)))) (some (.inl (IntKind.wrap .i64 ((IntKind.wrap .i64 ((IntKind.wrap .i64 ((IntKind.wrap .i64 (sZ1.1+1))+1))+1))+1),IntKind.wrap .i64 (sZ1.2+1)))))))) (some (.inr (.inl sZ1.1)))
def M_dj (aZ0:List TFiber) (kZ0:Int):Option Int :=
 (iter (M_bd aZ0) N0 (kZ0,0)).bind fun oZ8=>(match oZ8 with | .inl vZ9=>some vZ9 | .inr xZ10=>some xZ10)
def M_dk (aZ0:TNetwork) (kZ0:Int):Option Int :=
 (M_di aZ0.Nodes kZ0).bind fun rZ1=>cond (decide (rZ1 < 0)) (some (-1)) ((M_dj aZ0.Fibers rZ1).bind fun rZ3=>cond (decide (rZ3 < 0)) (some (-1)) (some rZ3))
def M_be (aZ0:List Int) (sZ1:Int×Int):Option ((Int×Int) ⊕ (Int ⊕ Int)) :=
 cond (decide (sZ1.2 < (aZ0.length:Int))) ((geti aZ0 sZ1.2).bind fun yZ3=>cond (yZ3 != sZ1.1) (some (.inr (.inr (-1)))) (some (.inl (IntKind.wrap .i64 (sZ1.1+1),IntKind.wrap .i64 (sZ1.2+1))))) (some (.inr (.inl sZ1.1)))
def M_bl (aZ0:List Int) (kZ0:Int):Option Int :=
 (iter (M_be aZ0) N0 (kZ0,0)).bind fun oZ5=>(match oZ5 with | .inl vZ6=>some vZ6 | .inr xZ7=>some xZ7)
def M_bf (aZ0:List TLight) (sZ1:Int×Int):Option ((Int×Int) ⊕ (Int ⊕ Int)) :=
 cond (decide (sZ1.2 < (aZ0.length:Int))) ((geti aZ0 sZ1.2).bind fun yZ3=>cond (yZ3.Id != sZ1.1) (some (.inr (.inr (-1)))) (cond (yZ3.Route.Start != (IntKind.wrap .i64 (sZ1.1+1))) (some (.inr (.inr (-1)))) ((M_bl yZ3.Route.Fibers (IntKind.wrap .i64 ((IntKind.wrap .i64 (sZ1.1+1))+1))).bind fun rZ6=>cond (decide (rZ6 < 0)) (some (.inr (.inr (-1)))) (cond (yZ3.Block.First != rZ6) (some (.inr (.inr (-1)))) (cond (yZ3.Block.Count != (IntKind.wrap .i64 (rZ6+1))) (some (.inr (.inr (-1)))) (some (.inl (IntKind.wrap .i64 ((IntKind.wrap .i64 (rZ6+1))+1),IntKind.wrap .i64 (sZ1.2+1))))))))) (some (.inr (.inl sZ1.1)))
def M_bx (aZ0:List TLight) (kZ0:Int):Option Int :=
 (iter (M_bf aZ0) N0 (kZ0,0)).bind fun oZ10=>(match oZ10 with | .inl vZ11=>some vZ11 | .inr xZ12=>some xZ12)
def M_dl (aZ0:TPlan) (kZ0:Int):Option Int :=
 (M_dk aZ0.Network kZ0).bind fun rZ1=>cond (decide (rZ1 < 0)) (some (-1)) ((M_bx aZ0.Lights rZ1).bind fun rZ3=>cond (decide (rZ3 < 0)) (some (-1)) (some rZ3))
def M_by (aZ0:TRestoration) (kZ0:Int):Option Int :=
 (M_dl aZ0.Plan kZ0).bind fun rZ1=>cond (decide (rZ1 < 0)) (some (-1)) ((M_bx aZ0.Home rZ1).bind fun rZ3=>cond (decide (rZ3 < 0)) (some (-1)) ((M_bl aZ0.Down rZ3).bind fun rZ5=>cond (decide (rZ5 < 0)) (some (-1)) (some rZ5)))
def M_fo (aRZ0:TRestoration) (aFibersZ0:List Int):Option Bool :=
 cond (decide (1048576 < (aFibersZ0.length:Int))) (some true) ((M_dx aRZ0 1048576).bind fun rZ2=>cond (decide (rZ2 < 0)) (some true) ((M_bn aRZ0).bind fun rZ4=>(M_bj aFibersZ0).bind fun rZ5=>(M_dq rZ4.Plan.Network.Nodes rZ4.Plan.Network.Fibers rZ4.Plan.Lights rZ4.Home rZ4.Down rZ5).bind fun rZ6=>(M_bn (⟨(⟨(⟨aRZ0.Plan.Network.Nodes,aRZ0.Plan.Network.Fibers⟩:TNetwork),aRZ0.Plan.Lights⟩:TPlan),aRZ0.Home,aRZ0.Down⟩:TRestoration)).bind fun rZ7=>(M_bj aFibersZ0).bind fun rZ8=>(M_ce (⟨(⟨(⟨rZ7.Plan.Network.Nodes,rZ7.Plan.Network.Fibers⟩:TNetwork),rZ7.Plan.Lights⟩:TPlan),rZ7.Home,rZ7.Down⟩:TRestoration) rZ8).bind fun rZ9=>((M_bp (⟨(⟨(⟨rZ9.1.Plan.Network.Nodes,rZ9.1.Plan.Network.Fibers⟩:TNetwork),rZ9.1.Plan.Lights⟩:TPlan),rZ9.1.Home,rZ9.1.Down⟩:TRestoration) (⟨(⟨(⟨rZ6.2.2.1,rZ6.2.2.2.1⟩:TNetwork),rZ6.2.2.2.2.1⟩:TPlan),rZ6.2.2.2.2.2.1,rZ6.2.2.2.2.2.2.1⟩:TRestoration)).bind fun rZ10=>cond (!rZ10) (some true) ((M_bk rZ9.2.1 rZ6.2.1).bind fun rZ12=>cond (!rZ12) (some true) (some (!(rZ9.2.2==rZ6.1)))):Option Bool).bind fun oZ14=>cond (oZ14) (some false) ((M_bn (⟨(⟨(⟨aRZ0.Plan.Network.Nodes,aRZ0.Plan.Network.Fibers⟩:TNetwork),aRZ0.Plan.Lights⟩:TPlan),aRZ0.Home,aRZ0.Down⟩:TRestoration)).bind fun rZ16=>(M_bp (⟨(⟨(⟨rZ7.Plan.Network.Nodes,rZ7.Plan.Network.Fibers⟩:TNetwork),rZ7.Plan.Lights⟩:TPlan),rZ7.Home,rZ7.Down⟩:TRestoration) (⟨(⟨(⟨rZ16.Plan.Network.Nodes,rZ16.Plan.Network.Fibers⟩:TNetwork),rZ16.Plan.Lights⟩:TPlan),rZ16.Home,rZ16.Down⟩:TRestoration)).bind fun rZ17=>cond (!rZ17) (some false) ((M_bj aFibersZ0).bind fun rZ19=>(M_bk rZ8 rZ19).bind fun rZ20=>cond (!rZ20) (some false) ((M_bw 1 rZ7.Plan.Network.Nodes rZ7.Plan.Network.Fibers rZ7.Plan.Lights rZ7.Home rZ7.Down).bind fun rZ22=>(M_bq rZ22.1 rZ8).bind fun rZ23=>(cond (decide (rZ23.1 < 0)) (some true) ((M_bp (⟨(⟨(⟨rZ9.1.Plan.Network.Nodes,rZ9.1.Plan.Network.Fibers⟩:TNetwork),rZ9.1.Plan.Lights⟩:TPlan),rZ9.1.Home,rZ9.1.Down⟩:TRestoration) (⟨(⟨(⟨rZ6.2.2.1,rZ6.2.2.2.1⟩:TNetwork),rZ6.2.2.2.2.1⟩:TPlan),rZ6.2.2.2.2.2.1,rZ6.2.2.2.2.2.2.1⟩:TRestoration)).bind fun rZ25=>cond (!rZ25) (some true) ((M_bk rZ9.2.1 rZ6.2.1).bind fun rZ27=>cond (!rZ27) (some true) (some (!(rZ9.2.2==rZ6.1))))):Option Bool).bind fun oZ29=>cond (oZ29) (some false) ((M_bw 1 rZ9.1.Plan.Network.Nodes rZ9.1.Plan.Network.Fibers rZ9.1.Plan.Lights rZ9.1.Home rZ9.1.Down).bind fun rZ31=>(M_bq rZ31.1 rZ9.2.1).bind fun rZ32=>bnd (subT rZ31.2.1 0 rZ9.1.Plan.Network.Nodes.length) fun lZ33=>bnd (subT rZ31.2.2.1 0 rZ9.1.Plan.Network.Fibers.length) fun lZ35=>bnd (subT rZ31.2.2.2.1 0 rZ9.1.Plan.Lights.length) fun lZ37=>bnd (subT rZ31.2.2.2.2.1 0 rZ9.1.Home.length) fun lZ39=>bnd (subT rZ31.2.2.2.2.2 0 rZ9.1.Down.length) fun lZ41=>(M_by (⟨(⟨(⟨lZ33,lZ35⟩:TNetwork),lZ37⟩:TPlan),lZ39,lZ41⟩:TRestoration) 1).bind fun rZ43=>cond (decide (rZ43 < 0)) (some false) (bnd (subT rZ32.2 0 rZ9.2.1.length) fun lZ45=>(M_bl lZ45 rZ43).bind fun rZ47=>cond (decide (rZ47 < 0)) (some false) (cond (rZ47 != rZ32.1) (some false) ((M_bn (⟨(⟨(⟨aRZ0.Plan.Network.Nodes,aRZ0.Plan.Network.Fibers⟩:TNetwork),aRZ0.Plan.Lights⟩:TPlan),aRZ0.Home,aRZ0.Down⟩:TRestoration)).bind fun rZ50=>(M_bj aFibersZ0).bind fun rZ51=>(M_ce (⟨(⟨(⟨rZ50.Plan.Network.Nodes,rZ50.Plan.Network.Fibers⟩:TNetwork),rZ50.Plan.Lights⟩:TPlan),rZ50.Home,rZ50.Down⟩:TRestoration) rZ51).bind fun rZ52=>((M_bp (⟨(⟨(⟨rZ52.1.Plan.Network.Nodes,rZ52.1.Plan.Network.Fibers⟩:TNetwork),rZ52.1.Plan.Lights⟩:TPlan),rZ52.1.Home,rZ52.1.Down⟩:TRestoration) (⟨(⟨(⟨rZ6.2.2.1,rZ6.2.2.2.1⟩:TNetwork),rZ6.2.2.2.2.1⟩:TPlan),rZ6.2.2.2.2.2.1,rZ6.2.2.2.2.2.2.1⟩:TRestoration)).bind fun rZ53=>cond (!rZ53) (some true) ((M_bk rZ52.2.1 rZ6.2.1).bind fun rZ55=>cond (!rZ55) (some true) (some (!(rZ52.2.2==rZ6.1)))):Option Bool).bind fun oZ57=>cond (oZ57) (some false) ((M_by (⟨(⟨(⟨lZ33,lZ35⟩:TNetwork),lZ37⟩:TPlan),lZ39,lZ41⟩:TRestoration) 1).bind fun rZ59=>cond (decide (rZ59 < 0)) (some false) ((M_bl lZ45 rZ59).bind fun rZ61=>cond (decide (rZ61 < 0)) (some false) (cond (rZ61 != rZ32.1) (some false) (some true)))))))))))))
end Vs

namespace Vs
open Go
theorem d_slices_DeleteFunc_LightM1 {τq:Type} (vw:τq→TLight) (tz:τq) (X:List τq) (a b:List Int):M_bm vw tz X a b=delF (fun t s=>M_bh (vw t) s.1 s.2) tz X (a,b):=by
 have h1:M_bi vw tz X=idxL (fun t s=>M_bh (vw t) s.1 s.2) X:=rfl
 have h2:M_p vw tz X=delL (fun t s=>M_bh (vw t) s.1 s.2) X:=rfl
 have h3:M_cd vw tz X a b=idxF (fun t s=>M_bh (vw t) s.1 s.2) X (a,b):=by
  unfold M_cd idxF
  rw [h1]
  congr 1
  funext o; cases o <;> rfl
 unfold M_bm delF
 rw [h2,h3]
theorem p_slices_DeleteFunc_LightM1 {H:World→Prop} (XZ0:List (Tok H e_TLight 5)) (abZ0:List Int) (acZ0:List Int) {r:Nat×Nat×List TLight×List Int×List Int} (h:M_bm id (⟨0,(⟨0,[]⟩:TRoute),(⟨0,0⟩:TBlock)⟩:TLight) (XZ0.map Tok.x) abZ0 acZ0=some r) :
 ∃ YZ0:List (Tok H e_TLight 5),M_bm Tok.x tz_TLight XZ0 abZ0 acZ0=some (r.1,r.2.1,YZ0,r.2.2.2.1,r.2.2.2.2)∧Sel XZ0 YZ0∧YZ0.map Tok.x=r.2.2.1:=by
 rw [d_slices_DeleteFunc_LightM1] at h ⊢
 exact del_par (p:=fun t s=>M_bh t s.1 s.2) rfl tz_TLight_F h
end Vs

namespace Vs
open Go Go.Proofs
theorem hmix:Tryz.prog.follows .mixedOrders=true:=Tryz.checked.mixed
def lay111_ren:Go.Shelf.Ren:=⟨fun | 189=>111 | 125=>172 | 257=>171 | 128=>210 | 129=>211 | 294=>201 | 295=>202 | 296=>203 | 297=>204 | 298=>205 | 299=>206 | 216=>207 | 300=>208 | 301=>209 | 328=>228 | 329=>229 | 330=>230 | 331=>231 | 332=>232 | 215=>233 | 343=>248 | n=>n,fun | 28=>29 | 3=>3 | 46=>184 | 0=>0 | 51=>214 | 53=>216 | 4=>4 | 183=>207 | 182=>206 | 131=>211 | 5=>5 | 9=>9 | 218=>227 | 222=>231 | 228=>241 | 229=>242 | n=>n,fun | n=>n⟩
theorem lay111:Go.Proofs.Lays.n189 Tryz.prog lay111_ren:={
 mixed:=by kernel_rfl
 f125:=Tryz.func172.trans (congrArg some (by kernel_rfl))
 f128:=Tryz.func210.trans (congrArg some (by kernel_rfl))
 f129:=Tryz.func211.trans (congrArg some (by kernel_rfl))
 f189:=Tryz.func111.trans (congrArg some (by kernel_rfl))
 f215:=Tryz.func233.trans (congrArg some (by kernel_rfl))
 f216:=Tryz.func207.trans (congrArg some (by kernel_rfl))
 f257:=Tryz.func171.trans (congrArg some (by kernel_rfl))
 f294:=Tryz.func201.trans (congrArg some (by kernel_rfl))
 f295:=Tryz.func202.trans (congrArg some (by kernel_rfl))
 f296:=Tryz.func203.trans (congrArg some (by kernel_rfl))
 f297:=Tryz.func204.trans (congrArg some (by kernel_rfl))
 f298:=Tryz.func205.trans (congrArg some (by kernel_rfl))
 f299:=Tryz.func206.trans (congrArg some (by kernel_rfl))
 f300:=Tryz.func208.trans (congrArg some (by kernel_rfl))
 f301:=Tryz.func209.trans (congrArg some (by kernel_rfl))
 f328:=Tryz.func228.trans (congrArg some (by kernel_rfl))
 f329:=Tryz.func229.trans (congrArg some (by kernel_rfl))
 f330:=Tryz.func230.trans (congrArg some (by kernel_rfl))
 f331:=Tryz.func231.trans (congrArg some (by kernel_rfl))
 f332:=Tryz.func232.trans (congrArg some (by kernel_rfl))
 f343:=Tryz.func248.trans (congrArg some (by kernel_rfl))
 t0:=Tryz.underlying0
 a0:=Tryz.isAgg0
 z0:=Tryz.sizeOf0
 v0:=Tryz.zeroValue0
 t3:=Tryz.underlying3
 a3:=Tryz.isAgg3
 z3:=Tryz.sizeOf3
 v3:=Tryz.zeroValue3
 t4:=Tryz.underlying4
 a4:=Tryz.isAgg4
 z4:=Tryz.sizeOf4
 v4:=Tryz.zeroValue4
 t5:=Tryz.underlying5
 a5:=Tryz.isAgg5
 z5:=Tryz.sizeOf5
 v5:=Tryz.zeroValue5
 t9:=Tryz.underlying9
 a9:=Tryz.isAgg9
 z9:=Tryz.sizeOf9
 v9:=Tryz.zeroValue9
 t28:=Tryz.underlying29
 a28:=Tryz.isAgg29
 z28:=Tryz.sizeOf29
 v28:=Tryz.zeroValue29
 t46:=Tryz.underlying184
 a46:=Tryz.isAgg184
 z46:=Tryz.sizeOf184
 v46:=Tryz.zeroValue184
 t51:=Tryz.underlying214
 a51:=Tryz.isAgg214
 z51:=Tryz.sizeOf214
 v51:=Tryz.zeroValue214
 t53:=Tryz.underlying216
 a53:=Tryz.isAgg216
 z53:=Tryz.sizeOf216
 v53:=Tryz.zeroValue216
 t131:=Tryz.underlying211
 a131:=Tryz.isAgg211
 z131:=Tryz.sizeOf211
 v131:=Tryz.zeroValue211
 t182:=Tryz.underlying206
 a182:=Tryz.isAgg206
 z182:=Tryz.sizeOf206
 v182:=Tryz.zeroValue206
 t183:=Tryz.underlying207
 a183:=Tryz.isAgg207
 z183:=Tryz.sizeOf207
 v183:=Tryz.zeroValue207
 t218:=Tryz.underlying227
 a218:=Tryz.isAgg227
 z218:=Tryz.sizeOf227
 v218:=Tryz.zeroValue227
 t222:=Tryz.underlying231
 a222:=Tryz.isAgg231
 z222:=Tryz.sizeOf231
 v222:=Tryz.zeroValue231
 t228:=Tryz.underlying241
 a228:=Tryz.isAgg241
 z228:=Tryz.sizeOf241
 v228:=Tryz.zeroValue241
 t229:=Tryz.underlying242
 a229:=Tryz.isAgg242
 z229:=Tryz.sizeOf242
 v229:=Tryz.zeroValue242 }
theorem sortI111:SortI Tryz.prog 111:=sortI1 (ρ:=lay111_ren) lay111 ⟨_,Tryz.func111,by kernel_rfl,by kernel_rfl⟩
def A85L1:ACode:=(.seq (.seq (.reg [Zm 12 5,Zm 13 0,Zk 14 13,Zb 15 .lss 12 14] []) (.cond (Zt 15) .skip (.exit 0))) (.seq (.blk 1 (.seq (.reg [Zm 18 1,Zm 19 0,Zm 20 5,Zx 21 1 19 20,Zl 22 21,Zo 23 (.lenz (Zt 22)),Zb 24 .sub 18 23,Zm 1 24] []) (.seq (.reg [Zm 25 1,Zd 26 .lss 25 0] []) (.cond (Zt 26) (.seq (.reg [Zn 4 (-1)] []) .ret) .skip)))) (.reg [Zm 16 5,Zd 17 .add 16 1,Zm 5 17] [])))
def A85R2:ACode:=(.seq (.reg [Zm 27 1,Zm 4 27] []) .ret)
def A85:ACode:=(.seq (.reg [Zn 4 0] []) (.seq (.reg [Zm 6 1,Zm 7 0,Zk 8 7,Zb 9 .sub 6 8,Zm 1 9] []) (.seq (.seq (.reg [Zm 10 1,Zd 11 .lss 10 0] []) (.cond (Zt 11) (.seq (.reg [Zn 4 (-1)] []) .ret) .skip)) (.seqa (.reg [Zn 5 0] []) (.blk 0 (.loop A85L1)) [1] [] A85R2))))
def V85:List RV:=[.t 4]
theorem m85:mtcF Tryz.prog 85 2 A85 V85=true:=by kernel_rfl
def A86:ACode:=(.seq (.reg [Zn 4 0] []) (.seq (.reg [Zm 5 1,Zm 6 0,Zk 7 6,Zb 8 .sub 5 7,Zm 1 8] []) (.seq (.seq (.reg [Zm 9 1,Zd 10 .lss 9 0] []) (.cond (Zt 10) (.seq (.reg [Zn 4 (-1)] []) .ret) .skip)) (.seq (.reg [Zm 11 1,Zm 4 11] []) .ret))))
def V86:List RV:=[.t 4]
theorem m86:mtcF Tryz.prog 86 2 A86 V86=true:=by kernel_rfl
def A34:ACode:=(.seq (.reg [Zo 2 (.box 2 (Zt 0)),Zn 4 0] []) (.seq (.reg [Za 5 0 2,Zl 6 5,Zm 7 1,Zo 8 (.call 85 [(Zt 6),(Zt 7)]),Zm 1 8] []) (.seq (.seq (.reg [Zm 9 1,Zd 10 .lss 9 0] []) (.cond (Zt 10) (.seq (.reg [Zn 4 (-1)] []) .ret) .skip)) (.seq (.reg [Za 11 1 2,Zl 12 11,Zm 13 1,Zo 14 (.call 86 [(Zt 12),(Zt 13)]),Zm 1 14] []) (.seq (.seq (.reg [Zm 15 1,Zd 16 .lss 15 0] []) (.cond (Zt 16) (.seq (.reg [Zn 4 (-1)] []) .ret) .skip)) (.seq (.reg [Zm 17 1,Zm 4 17] []) .ret))))))
def V34:List RV:=[.t 4]
theorem m34:mtcF Tryz.prog 34 2 A34 V34=true:=by kernel_rfl
def A60:ACode:=(.seq (.reg [Zn 4 0] []) (.seq (.reg [Zm 5 1,Zm 6 0,Zk 7 6,Zb 8 .sub 5 7,Zm 1 8] []) (.seq (.seq (.reg [Zm 9 1,Zd 10 .lss 9 0] []) (.cond (Zt 10) (.seq (.reg [Zn 4 (-1)] []) .ret) .skip)) (.seq (.reg [Zm 11 1,Zm 4 11] []) .ret))))
def V60:List RV:=[.t 4]
theorem m60:mtcF Tryz.prog 60 2 A60 V60=true:=by kernel_rfl
def A147:ACode:=(.seq (.reg [Zo 2 (.box 2 (Zt 0)),Zn 4 0] []) (.seq (.reg [Za 5 1 2,Zl 6 5,Zm 7 1,Zo 8 (.call 60 [(Zt 6),(Zt 7)]),Zm 1 8] []) (.seq (.seq (.reg [Zm 9 1,Zd 10 .lss 9 0] []) (.cond (Zt 10) (.seq (.reg [Zn 4 (-1)] []) .ret) .skip)) (.seq (.reg [Zm 11 1,Zm 4 11] []) .ret))))
def V147:List RV:=[.t 4]
theorem m147:mtcF Tryz.prog 147 2 A147 V147=true:=by kernel_rfl
def A124:ACode:=(.seq (.reg [Zo 2 (.box 5 (Zt 0)),Zn 4 0] []) (.seq (.reg [Za 5 1 2,Zo 6 (.load 2 true (Zt 5)),Zm 7 1,Zo 8 (.call 147 [(Zt 6),(Zt 7)]),Zm 1 8] []) (.seq (.seq (.reg [Zm 9 1,Zd 10 .lss 9 0] []) (.cond (Zt 10) (.seq (.reg [Zn 4 (-1)] []) .ret) .skip)) (.seq (.reg [Zm 11 1,Zm 4 11] []) .ret))))
def V124:List RV:=[.t 4]
theorem m124:mtcF Tryz.prog 124 2 A124 V124=true:=by kernel_rfl
def A59L1:ACode:=(.seq (.seq (.reg [Zm 12 5,Zm 13 0,Zk 14 13,Zb 15 .lss 12 14] []) (.cond (Zt 15) .skip (.exit 0))) (.seq (.blk 1 (.seq (.reg [Zm 18 0,Zm 19 5,Zx 20 5 18 19,Zo 21 (.load 5 true (Zt 20)),Zm 22 1,Zo 23 (.call 124 [(Zt 21),(Zt 22)]),Zm 1 23] []) (.seq (.reg [Zm 24 1,Zd 25 .lss 24 0] []) (.cond (Zt 25) (.seq (.reg [Zn 4 (-1)] []) .ret) .skip)))) (.reg [Zm 16 5,Zd 17 .add 16 1,Zm 5 17] [])))
def A59R2:ACode:=(.seq (.reg [Zm 26 1,Zm 4 26] []) .ret)
def A59:ACode:=(.seq (.reg [Zn 4 0] []) (.seq (.reg [Zm 6 1,Zm 7 0,Zk 8 7,Zb 9 .sub 6 8,Zm 1 9] []) (.seq (.seq (.reg [Zm 10 1,Zd 11 .lss 10 0] []) (.cond (Zt 11) (.seq (.reg [Zn 4 (-1)] []) .ret) .skip)) (.seqa (.reg [Zn 5 0] []) (.blk 0 (.loop A59L1)) [1] [] A59R2))))
def V59:List RV:=[.t 4]
theorem m59:mtcF Tryz.prog 59 2 A59 V59=true:=by kernel_rfl
def A24:ACode:=(.seq (.reg [Zo 2 (.box 3 (Zt 0)),Zn 4 0] []) (.seq (.reg [Za 5 0 2,Zo 6 (.load 2 true (Zt 5)),Zm 7 1,Zo 8 (.call 34 [(Zt 6),(Zt 7)]),Zm 1 8] []) (.seq (.seq (.reg [Zm 9 1,Zd 10 .lss 9 0] []) (.cond (Zt 10) (.seq (.reg [Zn 4 (-1)] []) .ret) .skip)) (.seq (.reg [Za 11 2 2,Zl 12 11,Zm 13 1,Zo 14 (.call 59 [(Zt 12),(Zt 13)]),Zm 1 14] []) (.seq (.seq (.reg [Zm 15 1,Zd 16 .lss 15 0] []) (.cond (Zt 16) (.seq (.reg [Zn 4 (-1)] []) .ret) .skip)) (.seq (.reg [Zm 17 1,Zm 4 17] []) .ret))))))
def V24:List RV:=[.t 4]
theorem m24:mtcF Tryz.prog 24 2 A24 V24=true:=by kernel_rfl
def A13:ACode:=(.seq (.reg [Zo 2 (.box 5 (Zt 0)),Zn 4 0] []) (.seq (.reg [Za 5 0 2,Zo 6 (.load 3 true (Zt 5)),Zm 7 1,Zo 8 (.call 24 [(Zt 6),(Zt 7)]),Zm 1 8] []) (.seq (.seq (.reg [Zm 9 1,Zd 10 .lss 9 0] []) (.cond (Zt 10) (.seq (.reg [Zn 4 (-1)] []) .ret) .skip)) (.seq (.reg [Za 11 3 2,Zl 12 11,Zm 13 1,Zo 14 (.call 59 [(Zt 12),(Zt 13)]),Zm 1 14] []) (.seq (.seq (.reg [Zm 15 1,Zd 16 .lss 15 0] []) (.cond (Zt 16) (.seq (.reg [Zn 4 (-1)] []) .ret) .skip)) (.seq (.reg [Za 17 4 2,Zl 18 17,Zm 19 1,Zo 20 (.call 60 [(Zt 18),(Zt 19)]),Zm 1 20] []) (.seq (.seq (.reg [Zm 21 1,Zd 22 .lss 21 0] []) (.cond (Zt 22) (.seq (.reg [Zn 4 (-1)] []) .ret) .skip)) (.seq (.reg [Zm 23 1,Zm 4 23] []) .ret))))))))
def V13:List RV:=[.t 4]
theorem m13:mtcF Tryz.prog 13 2 A13 V13=true:=by kernel_rfl
def A91L1:ACode:=(.seq (.seq (.reg [Zm 8 4,Zm 9 0,Zk 10 9,Zb 11 .lss 8 10] []) (.cond (Zt 11) .skip (.exit 0))) (.seq (.blk 1 (.reg [Zm 14 3,Zm 15 4,Zm 16 0,Zm 17 4,Zx 18 1 16 17,Zl 19 18,Zx 20 1 14 15,⟨none,.store 1 (Zt 20) (Zt 19),none⟩] [])) (.reg [Zm 12 4,Zd 13 .add 12 1,Zm 4 13] [])))
def A91R2:ACode:=(.seq (.reg [Zm 21 3,Zm 2 21] [.s 2]) .ret)
def A91:ACode:=(.seq (.reg [Zo 2 (.mv (.c (.lst .u 1 [])))] [.s 2]) (.seq (.reg [Zm 5 0,Zk 6 5,Zo 7 (.mks 1 (.z ⟨#[]⟩) 16 (Zt 6) (Zt 6)),Zm 3 7] [.s 3]) (.seqa (.reg [Zn 4 0] []) (.blk 0 (.loop A91L1)) [3] [3] A91R2)))
def V91:List RV:=[.t 2]
theorem m91:mtcF Tryz.prog 91 1 A91 V91=true:=by kernel_rfl
def A150:ACode:=(.seq (.reg [Zo 1 (.box 4 (Zt 0)),Zo 2 (.alloc (.agg [.i 0,.i 0,.i 0,.i 0]))] []) (.seq (.reg [Zo 3 (.alloc (.agg [.i 0,.i 0,.i 0,.i 0]))] []) (.seq (.reg [Za 4 0 1,Zl 5 4,Za 6 0 3,⟨none,.store 1 (Zt 6) (Zt 5),none⟩] []) (.seq (.reg [Za 7 1 1,Zl 8 7,Za 9 1 3,⟨none,.store 1 (Zt 9) (Zt 8),none⟩] []) (.seq (.reg [Za 10 2 1,Zl 11 10,Za 12 2 3,⟨none,.store 1 (Zt 12) (Zt 11),none⟩] []) (.seq (.reg [Za 13 3 1,Zl 14 13,Za 15 3 3,⟨none,.store 1 (Zt 15) (Zt 14),none⟩] []) (.seq (.reg [Zo 16 (.load 4 true (Zt 3)),⟨none,.store 4 (Zt 2) (Zt 16),none⟩] []) .ret)))))))
def V150:List RV:=[.c 2 4 true]
theorem m150:mtcF Tryz.prog 150 1 A150 V150=true:=by kernel_rfl
def A92L1:ACode:=(.seq (.seq (.reg [Zm 8 4,Zm 9 0,Zk 10 9,Zb 11 .lss 8 10] []) (.cond (Zt 11) .skip (.exit 0))) (.seq (.blk 1 (.reg [Zm 14 3,Zm 15 4,Zm 16 0,Zm 17 4,Zx 18 4 16 17,Zo 19 (.load 4 true (Zt 18)),Zo 20 (.call 150 [(Zt 19)]),Zx 21 4 14 15,⟨none,.store 4 (Zt 21) (Zt 20),none⟩] [])) (.reg [Zm 12 4,Zd 13 .add 12 1,Zm 4 13] [])))
def A92R2:ACode:=(.seq (.reg [Zm 22 3,Zm 2 22] [.s 2]) .ret)
def A92:ACode:=(.seq (.reg [Zo 2 (.mv (.c (.lst .u 4 [])))] [.s 2]) (.seq (.reg [Zm 5 0,Zk 6 5,Zo 7 (.mks 4 (.agg [.i 0,.i 0,.i 0,.i 0]) 32 (Zt 6) (Zt 6)),Zm 3 7] [.s 3]) (.seqa (.reg [Zn 4 0] []) (.blk 0 (.loop A92L1)) [3] [3] A92R2)))
def V92:List RV:=[.t 2]
theorem m92:mtcF Tryz.prog 92 1 A92 V92=true:=by kernel_rfl
def A37:ACode:=(.seq (.reg [Zo 1 (.box 2 (Zt 0)),Zo 2 (.alloc (.agg [.lst .u 1 [],.lst .u 4 []]))] []) (.seq (.reg [Zo 3 (.alloc (.agg [.lst .u 1 [],.lst .u 4 []]))] []) (.seq (.reg [Za 4 0 1,Zl 5 4,Zo 6 (.call 91 [(Zt 5)]),Za 7 0 3,⟨none,.store 1 (Zt 7) (Zt 6),none⟩] []) (.seq (.reg [Za 8 1 1,Zl 9 8,Zo 10 (.call 92 [(Zt 9)]),Za 11 1 3,⟨none,.store 1 (Zt 11) (Zt 10),none⟩] []) (.seq (.reg [Zo 12 (.load 2 true (Zt 3)),⟨none,.store 2 (Zt 2) (Zt 12),none⟩] []) .ret)))))
def V37:List RV:=[.c 2 2 true]
theorem m37:mtcF Tryz.prog 37 1 A37 V37=true:=by kernel_rfl
def A32L1:ACode:=(.seq (.seq (.reg [Zm 8 4,Zm 9 0,Zk 10 9,Zb 11 .lss 8 10] []) (.cond (Zt 11) .skip (.exit 0))) (.seq (.blk 1 (.reg [Zm 14 3,Zm 15 4,Zm 16 0,Zm 17 4,Zx 18 1 16 17,Zl 19 18,Zx 20 1 14 15,⟨none,.store 1 (Zt 20) (Zt 19),none⟩] [])) (.reg [Zm 12 4,Zd 13 .add 12 1,Zm 4 13] [])))
def A32R2:ACode:=(.seq (.reg [Zm 21 3,Zm 2 21] [.s 2]) .ret)
def A32:ACode:=(.seq (.reg [Zo 2 (.mv (.c (.lst .u 1 [])))] [.s 2]) (.seq (.reg [Zm 5 0,Zk 6 5,Zo 7 (.mks 1 (.i 0) 8 (Zt 6) (Zt 6)),Zm 3 7] [.s 3]) (.seqa (.reg [Zn 4 0] []) (.blk 0 (.loop A32L1)) [3] [3] A32R2)))
def V32:List RV:=[.t 2]
theorem m32:mtcF Tryz.prog 32 1 A32 V32=true:=by kernel_rfl
def A151:ACode:=(.seq (.reg [Zo 1 (.box 2 (Zt 0)),Zo 2 (.alloc (.agg [.i 0,.lst .u 1 []]))] []) (.seq (.reg [Zo 3 (.alloc (.agg [.i 0,.lst .u 1 []]))] []) (.seq (.reg [Za 4 0 1,Zl 5 4,Za 6 0 3,⟨none,.store 1 (Zt 6) (Zt 5),none⟩] []) (.seq (.reg [Za 7 1 1,Zl 8 7,Zo 9 (.call 32 [(Zt 8)]),Za 10 1 3,⟨none,.store 1 (Zt 10) (Zt 9),none⟩] []) (.seq (.reg [Zo 11 (.load 2 true (Zt 3)),⟨none,.store 2 (Zt 2) (Zt 11),none⟩] []) .ret)))))
def V151:List RV:=[.c 2 2 true]
theorem m151:mtcF Tryz.prog 151 1 A151 V151=true:=by kernel_rfl
def A152:ACode:=(.seq (.reg [Zo 1 (.box 2 (Zt 0)),Zo 2 (.alloc (.agg [.i 0,.i 0]))] []) (.seq (.reg [Zo 3 (.alloc (.agg [.i 0,.i 0]))] []) (.seq (.reg [Za 4 0 1,Zl 5 4,Za 6 0 3,⟨none,.store 1 (Zt 6) (Zt 5),none⟩] []) (.seq (.reg [Za 7 1 1,Zl 8 7,Za 9 1 3,⟨none,.store 1 (Zt 9) (Zt 8),none⟩] []) (.seq (.reg [Zo 10 (.load 2 true (Zt 3)),⟨none,.store 2 (Zt 2) (Zt 10),none⟩] []) .ret)))))
def V152:List RV:=[.c 2 2 true]
theorem m152:mtcF Tryz.prog 152 1 A152 V152=true:=by kernel_rfl
def A127:ACode:=(.seq (.reg [Zo 1 (.box 5 (Zt 0)),Zo 2 (.alloc (.agg [.i 0,.i 0,.lst .u 1 [],.i 0,.i 0]))] []) (.seq (.reg [Zo 3 (.alloc (.agg [.i 0,.i 0,.lst .u 1 [],.i 0,.i 0]))] []) (.seq (.reg [Za 4 0 1,Zl 5 4,Za 6 0 3,⟨none,.store 1 (Zt 6) (Zt 5),none⟩] []) (.seq (.reg [Za 7 1 1,Zo 8 (.load 2 true (Zt 7)),Zo 9 (.call 151 [(Zt 8)]),Za 10 1 3,⟨none,.store 2 (Zt 10) (Zt 9),none⟩] []) (.seq (.reg [Za 11 3 1,Zo 12 (.load 2 true (Zt 11)),Zo 13 (.call 152 [(Zt 12)]),Za 14 3 3,⟨none,.store 2 (Zt 14) (Zt 13),none⟩] []) (.seq (.reg [Zo 15 (.load 5 true (Zt 3)),⟨none,.store 5 (Zt 2) (Zt 15),none⟩] []) .ret))))))
def V127:List RV:=[.c 2 5 true]
theorem m127:mtcF Tryz.prog 127 1 A127 V127=true:=by kernel_rfl
def A62L1:ACode:=(.seq (.seq (.reg [Zm 8 4,Zm 9 0,Zk 10 9,Zb 11 .lss 8 10] []) (.cond (Zt 11) .skip (.exit 0))) (.seq (.blk 1 (.reg [Zm 14 3,Zm 15 4,Zm 16 0,Zm 17 4,Zx 18 5 16 17,Zo 19 (.load 5 true (Zt 18)),Zo 20 (.call 127 [(Zt 19)]),Zx 21 5 14 15,⟨none,.store 5 (Zt 21) (Zt 20),none⟩] [])) (.reg [Zm 12 4,Zd 13 .add 12 1,Zm 4 13] [])))
def A62R2:ACode:=(.seq (.reg [Zm 22 3,Zm 2 22] [.s 2]) .ret)
def A62:ACode:=(.seq (.reg [Zo 2 (.mv (.c (.lst .u 5 [])))] [.s 2]) (.seq (.reg [Zm 5 0,Zk 6 5,Zo 7 (.mks 5 (.agg [.i 0,.i 0,.lst .u 1 [],.i 0,.i 0]) 56 (Zt 6) (Zt 6)),Zm 3 7] [.s 3]) (.seqa (.reg [Zn 4 0] []) (.blk 0 (.loop A62L1)) [3] [3] A62R2)))
def V62:List RV:=[.t 2]
theorem m62:mtcF Tryz.prog 62 1 A62 V62=true:=by kernel_rfl
def A26:ACode:=(.seq (.reg [Zo 1 (.box 3 (Zt 0)),Zo 2 (.alloc (.agg [.lst .u 1 [],.lst .u 4 [],.lst .u 5 []]))] []) (.seq (.reg [Zo 3 (.alloc (.agg [.lst .u 1 [],.lst .u 4 [],.lst .u 5 []]))] []) (.seq (.reg [Za 4 0 1,Zo 5 (.load 2 true (Zt 4)),Zo 6 (.call 37 [(Zt 5)]),Za 7 0 3,⟨none,.store 2 (Zt 7) (Zt 6),none⟩] []) (.seq (.reg [Za 8 2 1,Zl 9 8,Zo 10 (.call 62 [(Zt 9)]),Za 11 2 3,⟨none,.store 1 (Zt 11) (Zt 10),none⟩] []) (.seq (.reg [Zo 12 (.load 3 true (Zt 3)),⟨none,.store 3 (Zt 2) (Zt 12),none⟩] []) .ret)))))
def V26:List RV:=[.c 2 3 true]
theorem m26:mtcF Tryz.prog 26 1 A26 V26=true:=by kernel_rfl
def A15:ACode:=(.seq (.reg [Zo 1 (.box 5 (Zt 0)),Zo 2 (.alloc (.agg [.lst .u 1 [],.lst .u 4 [],.lst .u 5 [],.lst .u 5 [],.lst .u 1 []]))] []) (.seq (.reg [Zo 3 (.alloc (.agg [.lst .u 1 [],.lst .u 4 [],.lst .u 5 [],.lst .u 5 [],.lst .u 1 []]))] []) (.seq (.reg [Za 4 0 1,Zo 5 (.load 3 true (Zt 4)),Zo 6 (.call 26 [(Zt 5)]),Za 7 0 3,⟨none,.store 3 (Zt 7) (Zt 6),none⟩] []) (.seq (.reg [Za 8 3 1,Zl 9 8,Zo 10 (.call 62 [(Zt 9)]),Za 11 3 3,⟨none,.store 1 (Zt 11) (Zt 10),none⟩] []) (.seq (.reg [Za 12 4 1,Zl 13 12,Zo 14 (.call 32 [(Zt 13)]),Za 15 4 3,⟨none,.store 1 (Zt 15) (Zt 14),none⟩] []) (.seq (.reg [Zo 16 (.load 5 true (Zt 3)),⟨none,.store 5 (Zt 2) (Zt 16),none⟩] []) .ret))))))
def V15:List RV:=[.c 2 5 true]
theorem m15:mtcF Tryz.prog 15 1 A15 V15=true:=by kernel_rfl
def A178:ACode:=(.seq (.reg [Zo 6 (.mv (.c (.b false)))] []) (.seq (.reg [Zm 7 0,Zm 8 1,Zb 9 .geq 7 8,Zm 10 9,⟨(some 11),.mv (Zt 0),(some (10,true))⟩,⟨(some 12),.mv (Zt 2),(some (10,true))⟩,⟨(some 13),.bin .leq (Zt 11) (Zt 12),(some (10,true))⟩,Zo 14 (.pick (Zt 10) (Zt 13) (.c (.b false))),Zm 6 14] []) .ret))
def V178:List RV:=[.t 6]
theorem m178:mtcF Tryz.prog 178 3 A178 V178=true:=by kernel_rfl
def A224:ACode:=(.seq (.reg [Zo 2 (.mv (.c (.b false)))] []) (.seq (.reg [Zm 3 0,Zo 4 (.bin .geq (Zt 3) (.c (.sc (.int .u8 97)))),Zm 5 4,⟨(some 6),.mv (Zt 0),(some (5,true))⟩,⟨(some 7),.bin .leq (Zt 6) (.c (.sc (.int .u8 122))),(some (5,true))⟩,Zo 8 (.pick (Zt 5) (Zt 7) (.c (.b false))),Zm 9 8,⟨(some 10),.mv (Zt 0),(some (9,false))⟩,⟨(some 11),.bin .geq (Zt 10) (.c (.sc (.int .u8 48))),(some (9,false))⟩,⟨(some 12),.mv (Zt 11),(some (9,false))⟩,⟨(some 13),.mv (Zt 0),(some (12,true))⟩,⟨(some 14),.bin .leq (Zt 13) (.c (.sc (.int .u8 57))),(some (12,true))⟩,⟨(some 15),.pick (Zt 12) (Zt 14) (.c (.b false)),(some (9,false))⟩,Zo 16 (.pick (Zt 9) (.c (.b true)) (Zt 15)),Zm 2 16] []) .ret))
def V224:List RV:=[.t 2]
theorem m224:mtcF Tryz.prog 224 1 A224 V224=true:=by kernel_rfl
def A187R1:ACode:=(.cond (Zt 17) (.seq (.reg [Zo 2 (.mv (.c (.b false)))] []) .ret) .skip)
def A187L2:ACode:=(.seq (.seq (.reg [Zm 18 3,Zm 19 0,Zo 20 (.lenz (Zt 19)),Zb 21 .lss 18 20] []) (.cond (Zt 21) .skip (.exit 0))) (.seq (.blk 1 (.seq (.reg [Zm 24 0,Zm 25 3,Zo 26 (.stri (Zt 24) (Zt 25)),Zo 27 (.call 224 [(Zt 26)]),Zo 28 (.un .not (Zt 27))] []) (.cond (Zt 28) (.seq (.reg [Zo 2 (.mv (.c (.b false)))] []) .ret) .skip))) (.reg [Zm 22 3,Zd 23 .add 22 1,Zm 3 23] [])))
def A187R3:ACode:=(.seq (.reg [Zo 2 (.mv (.c (.b true)))] []) .ret)
def A187:ACode:=(.seq (.reg [Zo 2 (.mv (.c (.b false)))] []) (.seq (.seqr (.reg [Zm 4 0,Zo 5 (.lenz (Zt 4)),Zo 6 (.call 178 [(Zt 5),(.c (.i 1)),(.c (.i 8))]),Zo 7 (.un .not (Zt 6)),Zm 8 7,⟨(some 9),.mv (Zt 0),(some (8,false))⟩,⟨(some 10),.stri (Zt 9) (.c (.i 0)),(some (8,false))⟩,⟨(some 11),.bin .lss (Zt 10) (.c (.sc (.int .u8 97))),(some (8,false))⟩,Zo 12 (.pick (Zt 8) (.c (.b true)) (Zt 11)),Zm 13 12,⟨(some 14),.mv (Zt 0),(some (13,false))⟩,⟨(some 15),.stri (Zt 14) (.c (.i 0)),(some (13,false))⟩,⟨(some 16),.bin .gtr (Zt 15) (.c (.sc (.int .u8 122))),(some (13,false))⟩,Zo 17 (.pick (Zt 13) (.c (.b true)) (Zt 16))] []) [0,17] [] A187R1) (.seqa (.reg [Zn 3 0] []) (.blk 0 (.loop A187L2)) [] [] A187R3)))
def V187:List RV:=[.t 2]
theorem m187:mtcF Tryz.prog 187 1 A187 V187=true:=by kernel_rfl
def A188L1:ACode:=(.seq (.seq (.reg [Zm 6 5,Zm 7 0,Zk 8 7,Zb 9 .lss 6 8] []) (.cond (Zt 9) .skip (.exit 0))) (.seq (.blk 1 (.seq (.reg [Zm 12 0,Zm 13 5,Zx 14 1 12 13,Zl 15 14,Zm 16 1,Zb 17 .eql 15 16] []) (.cond (Zt 17) (.seq (.reg [Zm 18 5,Zm 4 18] []) .ret) .skip))) (.reg [Zm 10 5,Zd 11 .add 10 1,Zm 5 11] [])))
def A188R2:ACode:=(.seq (.reg [Zn 4 (-1)] []) .ret)
def A188:ACode:=(.seq (.reg [Zn 4 0] []) (.seqa (.reg [Zn 5 0] []) (.blk 0 (.loop A188L1)) [] [] A188R2))
def V188:List RV:=[.t 4]
theorem m188:mtcF Tryz.prog 188 2 A188 V188=true:=by kernel_rfl
def A189:ACode:=(.seq (.reg [Zo 2 (.box 4 (Zt 0)),Zo 4 (.mv (.c (.b false)))] []) (.seq (.reg [Za 5 0 2,Zl 6 5,Zm 7 1,Zd 8 .sub 7 1,Zo 9 (.call 178 [(Zt 6),(.c (.i 0)),(Zt 8)]),Zm 10 9,⟨(some 11),.fad 1 (Zt 2),(some (10,true))⟩,⟨(some 12),.load 1 false (Zt 11),(some (10,true))⟩,⟨(some 13),.fad 0 (Zt 2),(some (10,true))⟩,⟨(some 14),.load 1 false (Zt 13),(some (10,true))⟩,⟨(some 15),.bin .add (Zt 14) (.c (.i 1)),(some (10,true))⟩,⟨(some 16),.mv (Zt 1),(some (10,true))⟩,⟨(some 17),.bin .sub (Zt 16) (.c (.i 1)),(some (10,true))⟩,⟨(some 18),.call 178 [(Zt 12),(Zt 15),(Zt 17)],(some (10,true))⟩,Zo 19 (.pick (Zt 10) (Zt 18) (.c (.b false))),Zm 20 19,⟨(some 21),.fad 2 (Zt 2),(some (20,true))⟩,⟨(some 22),.load 1 false (Zt 21),(some (20,true))⟩,⟨(some 23),.call 178 [(Zt 22),(.c (.i 1)),(.c (.i 5000))],(some (20,true))⟩,Zo 24 (.pick (Zt 20) (Zt 23) (.c (.b false))),Zm 25 24,⟨(some 26),.fad 3 (Zt 2),(some (25,true))⟩,⟨(some 27),.load 1 false (Zt 26),(some (25,true))⟩,⟨(some 28),.call 178 [(Zt 27),(.c (.i 0)),(.c (.i 9))],(some (25,true))⟩,Zo 29 (.pick (Zt 25) (Zt 28) (.c (.b false))),Zm 4 29] []) .ret))
def V189:List RV:=[.t 4]
theorem m189:mtcF Tryz.prog 189 2 A189 V189=true:=by kernel_rfl
def A190:ACode:=(.seq (.reg [Zo 2 (.box 4 (Zt 0)),Zo 3 (.box 4 (Zt 1)),Zn 4 0] []) (.seq (.blk 0 (.seq (.reg [Za 6 0 2,Zl 7 6,Za 8 0 3,Zl 9 8,Zb 10 .neq 7 9,Zm 5 10] []) (.cond (Zt 5) (.seq (.reg [Za 11 0 2,Zl 12 11,Za 13 0 3,Zl 14 13,Zb 15 .sub 12 14,Zm 4 15] []) .ret) (.seq (.reg [Za 17 1 2,Zl 18 17,Za 19 1 3,Zl 20 19,Zb 21 .neq 18 20,Zm 16 21] []) (.cond (Zt 16) (.seq (.reg [Za 22 1 2,Zl 23 22,Za 24 1 3,Zl 25 24,Zb 26 .sub 23 25,Zm 4 26] []) .ret) (.seq (.reg [Za 28 2 2,Zl 29 28,Za 30 2 3,Zl 31 30,Zb 32 .neq 29 31,Zm 27 32] []) (.cond (Zt 27) (.seq (.reg [Za 33 2 2,Zl 34 33,Za 35 2 3,Zl 36 35,Zb 37 .sub 34 36,Zm 4 37] []) .ret) .skip))))))) (.seq (.reg [Za 38 3 2,Zl 39 38,Za 40 3 3,Zl 41 40,Zb 42 .sub 39 41,Zm 4 42] []) .ret)))
def V190:List RV:=[.t 4]
theorem m190:mtcF Tryz.prog 190 2 A190 V190=true:=by kernel_rfl
def A138R1:ACode:=(.cond (Zt 15) (.seq (.reg [Zo 2 (.mv (.c (.b false)))] []) .ret) .skip)
def A138R2:ACode:=(.cond (Zt 41) (.seq (.reg [Zo 2 (.mv (.c (.b false)))] []) .ret) .skip)
def A138L3:ACode:=(.seq (.seq (.reg [Zm 16 3,Za 17 0 1,Zl 18 17,Zk 19 18,Zb 20 .lss 16 19] []) (.cond (Zt 20) .skip (.exit 0))) (.seq (.blk 1 (.seqr (.drw [Za 23 0 1,Zl 24 23,Zm 25 3,Zx 26 1 24 25,Zl 27 26,Zo 28 (.call 187 [(Zt 27)]),Zo 29 (.un .not (Zt 28)),Zm 30 29,⟨(some 31),.fad 0 (Zt 1),(some (30,false))⟩,⟨(some 32),.load 1 false (Zt 31),(some (30,false))⟩,⟨(some 33),.fad 0 (Zt 1),(some (30,false))⟩,⟨(some 34),.load 1 false (Zt 33),(some (30,false))⟩,⟨(some 35),.mv (Zt 3),(some (30,false))⟩,⟨(some 36),.idx 1 (Zt 34) (Zt 35),(some (30,false))⟩,⟨(some 37),.load 1 false (Zt 36),(some (30,false))⟩,⟨(some 38),.call 188 [(Zt 32),(Zt 37)],(some (30,false))⟩,⟨(some 39),.mv (Zt 3),(some (30,false))⟩,⟨(some 40),.bin .neq (Zt 38) (Zt 39),(some (30,false))⟩,Zo 41 (.pick (Zt 30) (.c (.b true)) (Zt 40))] []) [1,3,41] [1] A138R2)) (.reg [Zm 21 3,Zd 22 .add 21 1,Zm 3 22] [])))
def A138R5:ACode:=(.cond (Zt 77) (.seq (.reg [Zo 2 (.mv (.c (.b false)))] []) .ret) .skip)
def A138L6:ACode:=(.seq (.seq (.reg [Zm 42 4,Za 43 1 1,Zl 44 43,Zk 45 44,Zb 46 .lss 42 45] []) (.cond (Zt 46) .skip (.exit 2))) (.seq (.blk 3 (.seqr (.drw [Za 49 1 1,Zl 50 49,Zm 51 4,Zx 52 4 50 51,Zo 53 (.load 4 true (Zt 52)),Za 54 0 1,Zl 55 54,Zk 56 55,Zo 57 (.call 189 [(Zt 53),(Zt 56)]),Zo 58 (.un .not (Zt 57)),Zm 59 58,⟨(some 60),.mv (Zt 4),(some (59,false))⟩,⟨(some 61),.bin .gtr (Zt 60) (.c (.i 0)),(some (59,false))⟩,⟨(some 62),.mv (Zt 61),(some (59,false))⟩,⟨(some 63),.fad 1 (Zt 1),(some (62,true))⟩,⟨(some 64),.load 1 false (Zt 63),(some (62,true))⟩,⟨(some 65),.mv (Zt 4),(some (62,true))⟩,⟨(some 66),.bin .sub (Zt 65) (.c (.i 1)),(some (62,true))⟩,⟨(some 67),.idx 4 (Zt 64) (Zt 66),(some (62,true))⟩,⟨(some 68),.load 4 true (Zt 67),(some (62,true))⟩,⟨(some 69),.fad 1 (Zt 1),(some (62,true))⟩,⟨(some 70),.load 1 false (Zt 69),(some (62,true))⟩,⟨(some 71),.mv (Zt 4),(some (62,true))⟩,⟨(some 72),.idx 4 (Zt 70) (Zt 71),(some (62,true))⟩,⟨(some 73),.load 4 true (Zt 72),(some (62,true))⟩,⟨(some 74),.call 190 [(Zt 68),(Zt 73)],(some (62,true))⟩,⟨(some 75),.bin .gtr (Zt 74) (.c (.i 0)),(some (62,true))⟩,⟨(some 76),.pick (Zt 62) (Zt 75) (.c (.b false)),(some (59,false))⟩,Zo 77 (.pick (Zt 59) (.c (.b true)) (Zt 76))] []) [1,4,77] [1] A138R5)) (.reg [Zm 47 4,Zd 48 .add 47 1,Zm 4 48] [])))
def A138R7:ACode:=(.seq (.reg [Zo 2 (.mv (.c (.b true)))] []) .ret)
def A138R4:ACode:=(.seqa (.reg [Zn 4 0] []) (.blk 2 (.loop A138L6)) [] [] A138R7)
def A138:ACode:=(.seq (.reg [Zo 1 (.box 2 (Zt 0)),Zo 2 (.mv (.c (.b false)))] []) (.seq (.seqr (.reg [Za 5 0 1,Zl 6 5,Zk 7 6,Zo 8 (.call 178 [(Zt 7),(.c (.i 2)),(.c (.i 8))]),Zo 9 (.un .not (Zt 8)),Zm 10 9,⟨(some 11),.fad 1 (Zt 1),(some (10,false))⟩,⟨(some 12),.load 1 false (Zt 11),(some (10,false))⟩,⟨(some 13),.len (Zt 12),(some (10,false))⟩,⟨(some 14),.bin .gtr (Zt 13) (.c (.i 14)),(some (10,false))⟩,Zo 15 (.pick (Zt 10) (.c (.b true)) (Zt 14))] []) [1,15] [1] A138R1) (.seqa (.reg [Zn 3 0] []) (.blk 0 (.loop A138L3)) [1] [1] A138R4)))
def V138:List RV:=[.t 2]
theorem m138:mtcF Tryz.prog 138 1 A138 V138=true:=by kernel_rfl
def A246:ACode:=(.seq (.reg [Zo 3 (.box 2 (Zt 0)),Zn 6 0] []) (.seq (.reg [Za 8 1 3,Zl 9 8,Zm 10 1,Zx 11 4 9 10,Zo 12 (.load 4 true (Zt 11)),Zo 7 (.alloc (.agg [.i 0,.i 0,.i 0,.i 0])),⟨none,.store 4 (Zt 7) (Zt 12),none⟩] []) (.seq (.seq (.reg [Zm 13 2] []) (.blk 0 (.seq (.reg [Za 15 0 7,Zl 16 15,Zb 17 .eql 13 16,Zm 14 17] []) (.cond (Zt 14) (.seq (.reg [Za 18 1 7,Zl 19 18,Zm 6 19] []) .ret) (.seq (.reg [Za 21 1 7,Zl 22 21,Zb 23 .eql 13 22,Zm 20 23] []) (.cond (Zt 20) (.seq (.reg [Za 24 0 7,Zl 25 24,Zm 6 25] []) .ret) .skip)))))) (.seq (.reg [Zn 6 (-1)] []) .ret))))
def V246:List RV:=[.t 6]
theorem m246:mtcF Tryz.prog 246 3 A246 V246=true:=by kernel_rfl
def A144L1:ACode:=(.seq (.seq (.reg [Zm 6 5,Zm 7 0,Zk 8 7,Zb 9 .lss 6 8] []) (.cond (Zt 9) .skip (.exit 0))) (.seq (.blk 1 (.seq (.reg [Zm 12 0,Zm 13 5,Zx 14 1 12 13,Zl 15 14,Zm 16 1,Zb 17 .eql 15 16] []) (.cond (Zt 17) (.seq (.reg [Zo 4 (.mv (.c (.b true)))] []) .ret) .skip))) (.reg [Zm 10 5,Zd 11 .add 10 1,Zm 5 11] [])))
def A144R2:ACode:=(.seq (.reg [Zo 4 (.mv (.c (.b false)))] []) .ret)
def A144:ACode:=(.seq (.reg [Zo 4 (.mv (.c (.b false)))] []) (.seqa (.reg [Zn 5 0] []) (.blk 0 (.loop A144L1)) [] [] A144R2))
def V144:List RV:=[.t 4]
theorem m144:mtcF Tryz.prog 144 2 A144 V144=true:=by kernel_rfl
def A220R1:ACode:=(.cond (Zt 25) (.seq (.reg [Zm 26 6,Zm 4 26,Zo 5 (.mv (.c (.b false)))] [.s 4]) .ret) .skip)
def A220R2:ACode:=(.cond (Zt 65) (.seq (.reg [Zm 66 6,Zm 4 66,Zo 5 (.mv (.c (.b false)))] [.s 4]) .ret) .skip)
def A220L3:ACode:=(.seq (.seq (.reg [Zm 27 7,Za 28 1 3,Zl 29 28,Zk 30 29,Zb 31 .lss 27 30] []) (.cond (Zt 31) .skip (.exit 0))) (.seq (.blk 1 (.seq (.seq (.drw [Za 34 1 3,Zl 35 34,Zm 36 7,Zx 37 1 35 36,Zl 38 37,Za 39 1 2,Zl 40 39,Zk 41 40,Zd 42 .sub 41 1,Zo 43 (.call 178 [(Zt 38),(.c (.i 0)),(Zt 42)]),Zo 44 (.un .not (Zt 43))] []) (.cond (Zt 44) (.seq (.reg [Zm 45 6,Zm 4 45,Zo 5 (.mv (.c (.b false)))] [.s 4]) .ret) .skip)) (.seq (.drw [Zo 46 (.load 2 true (Zt 2)),Za 47 1 3,Zl 48 47,Zm 49 7,Zx 50 1 48 49,Zl 51 50,Zm 52 6,Zm 53 6,Zk 54 53,Zd 55 .sub 54 1,Zx 56 1 52 55,Zl 57 56,Zo 58 (.call 246 [(Zt 46),(Zt 51),(Zt 57)]),Zm 8 58] []) (.seq (.seqr (.reg [Zm 59 8,Zd 60 .lss 59 0,Zm 61 60,⟨(some 62),.mv (Zt 6),(some (61,false))⟩,⟨(some 63),.mv (Zt 8),(some (61,false))⟩,⟨(some 64),.call 144 [(Zt 62),(Zt 63)],(some (61,false))⟩,Zo 65 (.pick (Zt 61) (.c (.b true)) (Zt 64))] []) [2,3,6,7,8,65] [2,3,6] A220R2) (.reg [Zm 67 6,Zm 68 8,Zo 69 (.bsl 1 false [(Zt 68)]),Zo 70 (.app 1 8 true (Zt 67) (Zt 69)),Zm 6 70] [.s 6]))))) (.reg [Zm 32 7,Zd 33 .add 32 1,Zm 7 33] [])))
def A220R4:ACode:=(.seq (.reg [Zm 71 6,Zm 4 71,Zo 5 (.mv (.c (.b true)))] [.s 4]) .ret)
def A220:ACode:=(.seq (.reg [Zo 2 (.box 2 (Zt 0)),Zo 3 (.box 2 (Zt 1)),Zo 4 (.mv (.c (.lst .u 1 []))),Zo 5 (.mv (.c (.b false)))] [.s 4]) (.seq (.reg [Za 9 0 3,Zl 10 9,Zo 11 (.bsl 1 false [(Zt 10)]),Zm 6 11] [.s 6]) (.seq (.seqr (.reg [Za 12 0 3,Zl 13 12,Za 14 0 2,Zl 15 14,Zk 16 15,Zd 17 .sub 16 1,Zo 18 (.call 178 [(Zt 13),(.c (.i 0)),(Zt 17)]),Zo 19 (.un .not (Zt 18)),Zm 20 19,⟨(some 21),.fad 1 (Zt 3),(some (20,false))⟩,⟨(some 22),.load 1 false (Zt 21),(some (20,false))⟩,⟨(some 23),.len (Zt 22),(some (20,false))⟩,⟨(some 24),.bin .eql (Zt 23) (.c (.i 0)),(some (20,false))⟩,Zo 25 (.pick (Zt 20) (.c (.b true)) (Zt 24))] []) [2,3,6,25] [2,3,6] A220R1) (.seqa (.reg [Zn 7 0] []) (.blk 0 (.loop A220L3)) [6] [6] A220R4))))
def V220:List RV:=[.t 4,.t 5]
theorem m220:mtcF Tryz.prog 220 2 A220 V220=true:=by kernel_rfl
def A191:ACode:=(.seq (.reg [Zo 2 (.box 2 (Zt 0)),Zo 3 (.box 2 (Zt 1)),Zo 4 (.mv (.c (.b false)))] []) (.seq (.seq (.reg [Zo 7 (.load 2 true (Zt 2)),Zo 8 (.call 138 [(Zt 7)]),Zo 9 (.un .not (Zt 8))] []) (.cond (Zt 9) (.seq (.reg [Zo 4 (.mv (.c (.b false)))] []) .ret) .skip)) (.seq (.reg [Zo 11 (.load 2 true (Zt 2)),Zo 12 (.load 2 true (Zt 3)),Zo 13 (.call 220 [(Zt 11),(Zt 12)]),Zm 10 13,Ze 14 10 0,Ze 15 10 1,Zm 5 14,Zm 6 15] [.s 5]) (.seq (.reg [Zm 16 6,Zm 4 16] []) .ret))))
def V191:List RV:=[.t 4]
theorem m191:mtcF Tryz.prog 191 2 A191 V191=true:=by kernel_rfl
def A192:ACode:=(.seq (.reg [Zo 1 (.box 2 (Zt 0)),Zo 2 (.mv (.c (.b false)))] []) (.seq (.reg [Za 3 0 1,Zl 4 3,Zo 5 (.call 178 [(Zt 4),(.c (.i 0)),(.c (.i 23))]),Zm 6 5,⟨(some 7),.fad 1 (Zt 1),(some (6,true))⟩,⟨(some 8),.load 1 false (Zt 7),(some (6,true))⟩,⟨(some 9),.fad 0 (Zt 1),(some (6,true))⟩,⟨(some 10),.load 1 false (Zt 9),(some (6,true))⟩,⟨(some 11),.bin .sub (.c (.i 24)) (Zt 10),(some (6,true))⟩,⟨(some 12),.call 178 [(Zt 8),(.c (.i 1)),(Zt 11)],(some (6,true))⟩,Zo 13 (.pick (Zt 6) (Zt 12) (.c (.b false))),Zm 2 13] []) .ret))
def V192:List RV:=[.t 2]
theorem m192:mtcF Tryz.prog 192 1 A192 V192=true:=by kernel_rfl
def A139:ACode:=(.seq (.reg [Zo 2 (.box 2 (Zt 0)),Zo 3 (.box 5 (Zt 1)),Zo 4 (.mv (.c (.b false)))] []) (.seq (.reg [Za 5 0 3,Zl 6 5,Zo 7 (.call 178 [(Zt 6),(.c (.i 1)),(.c (.i 999))]),Zm 8 7,⟨(some 9),.load 2 true (Zt 2),(some (8,true))⟩,⟨(some 10),.fad 1 (Zt 3),(some (8,true))⟩,⟨(some 11),.load 2 true (Zt 10),(some (8,true))⟩,⟨(some 12),.call 191 [(Zt 9),(Zt 11)],(some (8,true))⟩,Zo 13 (.pick (Zt 8) (Zt 12) (.c (.b false))),Zm 14 13,⟨(some 15),.fad 3 (Zt 3),(some (14,true))⟩,⟨(some 16),.load 2 true (Zt 15),(some (14,true))⟩,⟨(some 17),.call 192 [(Zt 16)],(some (14,true))⟩,Zo 18 (.pick (Zt 14) (Zt 17) (.c (.b false))),Zm 4 18] []) .ret))
def V139:List RV:=[.t 4]
theorem m139:mtcF Tryz.prog 139 2 A139 V139=true:=by kernel_rfl
def A125L1:ACode:=(.seq (.seq (.reg [Zm 6 5,Za 7 1 2,Zl 8 7,Zk 9 8,Zb 10 .lss 6 9] []) (.cond (Zt 10) .skip (.exit 0))) (.seq (.blk 1 (.seq (.reg [Zm 13 1,Za 14 1 2,Zl 15 14,Zm 16 5,Zx 17 1 15 16,Zl 18 17,Zo 19 (.call 144 [(Zt 13),(Zt 18)])] []) (.cond (Zt 19) (.seq (.reg [Zo 4 (.mv (.c (.b true)))] []) .ret) .skip))) (.reg [Zm 11 5,Zd 12 .add 11 1,Zm 5 12] [])))
def A125R2:ACode:=(.seq (.reg [Zo 4 (.mv (.c (.b false)))] []) .ret)
def A125:ACode:=(.seq (.reg [Zo 2 (.box 2 (Zt 0)),Zo 4 (.mv (.c (.b false)))] []) (.seqa (.reg [Zn 5 0] []) (.blk 0 (.loop A125L1)) [] [] A125R2))
def V125:List RV:=[.t 4]
theorem m125:mtcF Tryz.prog 125 2 A125 V125=true:=by kernel_rfl
def A167:ACode:=(.seq (.reg [Zo 1 (.box 2 (Zt 0)),Zn 2 0] []) (.seq (.reg [Za 3 1 1,Zl 4 3,Zo 5 (.conv .u64 (Zt 4)),Zo 6 (.bin .shl (.c (.i 1)) (Zt 5)),Zd 7 .sub 6 1,Za 8 0 1,Zl 9 8,Zo 10 (.conv .u64 (Zt 9)),Zb 11 .shl 7 10,Zm 2 11] []) .ret))
def V167:List RV:=[.t 2]
theorem m167:mtcF Tryz.prog 167 1 A167 V167=true:=by kernel_rfl
def A140:ACode:=(.seq (.reg [Zo 2 (.box 5 (Zt 0)),Zo 3 (.box 5 (Zt 1)),Zo 4 (.mv (.c (.b false)))] []) (.seq (.drw [Za 5 1 2,Zo 6 (.load 2 true (Zt 5)),Za 7 1 3,Za 8 1 7,Zl 9 8,Zo 10 (.call 125 [(Zt 6),(Zt 9)]),Zm 11 10,⟨(some 12),.fad 3 (Zt 2),(some (11,true))⟩,⟨(some 13),.load 2 true (Zt 12),(some (11,true))⟩,⟨(some 14),.call 167 [(Zt 13)],(some (11,true))⟩,⟨(some 15),.fad 3 (Zt 3),(some (11,true))⟩,⟨(some 16),.load 2 true (Zt 15),(some (11,true))⟩,⟨(some 17),.call 167 [(Zt 16)],(some (11,true))⟩,⟨(some 18),.bin .and (Zt 14) (Zt 17),(some (11,true))⟩,⟨(some 19),.bin .neq (Zt 18) (.c (.i 0)),(some (11,true))⟩,Zo 20 (.pick (Zt 11) (Zt 19) (.c (.b false))),Zm 4 20] []) .ret))
def V140:List RV:=[.t 4]
theorem m140:mtcF Tryz.prog 140 2 A140 V140=true:=by kernel_rfl
def A74R1:ACode:=(.cond (Zt 14) (.seq (.reg [Zo 2 (.mv (.c (.b false)))] []) .ret) .skip)
def A74R2:ACode:=(.cond (Zt 50) (.seq (.reg [Zo 2 (.mv (.c (.b false)))] []) .ret) .skip)
def A74L3:ACode:=(.seq (.seq (.reg [Zm 51 4,Zm 52 3,Zb 53 .lss 51 52] []) (.cond (Zt 53) .skip (.exit 2))) (.seq (.blk 3 (.seq (.drw [Za 56 2 1,Zl 57 56,Zm 58 4,Zx 59 5 57 58,Zo 60 (.load 5 true (Zt 59)),Za 61 2 1,Zl 62 61,Zm 63 3,Zx 64 5 62 63,Zo 65 (.load 5 true (Zt 64)),Zo 66 (.call 140 [(Zt 60),(Zt 65)])] []) (.cond (Zt 66) (.seq (.reg [Zo 2 (.mv (.c (.b false)))] []) .ret) .skip))) (.reg [Zm 54 4,Zd 55 .add 54 1,Zm 4 55] [])))
def A74R4:ACode:=(.reg [Zm 20 3,Zd 21 .add 20 1,Zm 3 21] [])
def A74L5:ACode:=(.seq (.seq (.reg [Zm 15 3,Za 16 2 1,Zl 17 16,Zk 18 17,Zb 19 .lss 15 18] []) (.cond (Zt 19) .skip (.exit 0))) (.seqr (.blk 1 (.seq (.seqr (.drw [Za 22 0 1,Zo 23 (.load 2 true (Zt 22)),Za 24 2 1,Zl 25 24,Zm 26 3,Zx 27 5 25 26,Zo 28 (.load 5 true (Zt 27)),Zo 29 (.call 139 [(Zt 23),(Zt 28)]),Zo 30 (.un .not (Zt 29)),Zm 31 30,⟨(some 32),.mv (Zt 3),(some (31,false))⟩,⟨(some 33),.bin .gtr (Zt 32) (.c (.i 0)),(some (31,false))⟩,⟨(some 34),.mv (Zt 33),(some (31,false))⟩,⟨(some 35),.fad 2 (Zt 1),(some (34,true))⟩,⟨(some 36),.load 1 false (Zt 35),(some (34,true))⟩,⟨(some 37),.mv (Zt 3),(some (34,true))⟩,⟨(some 38),.bin .sub (Zt 37) (.c (.i 1)),(some (34,true))⟩,⟨(some 39),.idx 5 (Zt 36) (Zt 38),(some (34,true))⟩,⟨(some 40),.fad 0 (Zt 39),(some (34,true))⟩,⟨(some 41),.load 1 false (Zt 40),(some (34,true))⟩,⟨(some 42),.fad 2 (Zt 1),(some (34,true))⟩,⟨(some 43),.load 1 false (Zt 42),(some (34,true))⟩,⟨(some 44),.mv (Zt 3),(some (34,true))⟩,⟨(some 45),.idx 5 (Zt 43) (Zt 44),(some (34,true))⟩,⟨(some 46),.fad 0 (Zt 45),(some (34,true))⟩,⟨(some 47),.load 1 false (Zt 46),(some (34,true))⟩,⟨(some 48),.bin .geq (Zt 41) (Zt 47),(some (34,true))⟩,⟨(some 49),.pick (Zt 34) (Zt 48) (.c (.b false)),(some (31,false))⟩,Zo 50 (.pick (Zt 31) (.c (.b true)) (Zt 49))] []) [1,3,50] [1] A74R2) (.seq (.reg [Zn 4 0] []) (.blk 2 (.loop A74L3))))) [1,3] [1] A74R4))
def A74R6:ACode:=(.seq (.reg [Zo 2 (.mv (.c (.b true)))] []) .ret)
def A74:ACode:=(.seq (.reg [Zo 1 (.box 3 (Zt 0)),Zo 2 (.mv (.c (.b false)))] []) (.seq (.seqr (.reg [Za 5 0 1,Zo 6 (.load 2 true (Zt 5)),Zo 7 (.call 138 [(Zt 6)]),Zo 8 (.un .not (Zt 7)),Zm 9 8,⟨(some 10),.fad 2 (Zt 1),(some (9,false))⟩,⟨(some 11),.load 1 false (Zt 10),(some (9,false))⟩,⟨(some 12),.len (Zt 11),(some (9,false))⟩,⟨(some 13),.bin .gtr (Zt 12) (.c (.i 12)),(some (9,false))⟩,Zo 14 (.pick (Zt 9) (.c (.b true)) (Zt 13))] []) [1,14] [1] A74R1) (.seqa (.reg [Zn 3 0] []) (.blk 0 (.loop A74L5)) [] [] A74R6)))
def V74:List RV:=[.t 2]
theorem m74:mtcF Tryz.prog 74 1 A74 V74=true:=by kernel_rfl
def A121R1:ACode:=(.cond (Zt 37) (.seq (.reg [Zo 6 (.mv (.c (.b false)))] []) .ret) .skip)
def A121L2:ACode:=(.seq (.seq (.reg [Zm 8 7,Zm 9 0,Zk 10 9,Zb 11 .lss 8 10] []) (.cond (Zt 11) .skip (.exit 0))) (.seq (.blk 1 (.seqr (.drw [Zm 14 0,Zm 15 7,Zx 16 1 14 15,Zl 17 16,Zm 18 1,Zm 19 2,Zo 20 (.call 178 [(Zt 17),(Zt 18),(Zt 19)]),Zo 21 (.un .not (Zt 20)),Zm 22 21,⟨(some 23),.mv (Zt 7),(some (22,false))⟩,⟨(some 24),.bin .gtr (Zt 23) (.c (.i 0)),(some (22,false))⟩,⟨(some 25),.mv (Zt 24),(some (22,false))⟩,⟨(some 26),.mv (Zt 0),(some (25,true))⟩,⟨(some 27),.mv (Zt 7),(some (25,true))⟩,⟨(some 28),.bin .sub (Zt 27) (.c (.i 1)),(some (25,true))⟩,⟨(some 29),.idx 1 (Zt 26) (Zt 28),(some (25,true))⟩,⟨(some 30),.load 1 false (Zt 29),(some (25,true))⟩,⟨(some 31),.mv (Zt 0),(some (25,true))⟩,⟨(some 32),.mv (Zt 7),(some (25,true))⟩,⟨(some 33),.idx 1 (Zt 31) (Zt 32),(some (25,true))⟩,⟨(some 34),.load 1 false (Zt 33),(some (25,true))⟩,⟨(some 35),.bin .geq (Zt 30) (Zt 34),(some (25,true))⟩,⟨(some 36),.pick (Zt 25) (Zt 35) (.c (.b false)),(some (22,false))⟩,Zo 37 (.pick (Zt 22) (.c (.b true)) (Zt 36))] []) [0,1,2,7,37] [] A121R1)) (.reg [Zm 12 7,Zd 13 .add 12 1,Zm 7 13] [])))
def A121R3:ACode:=(.seq (.reg [Zo 6 (.mv (.c (.b true)))] []) .ret)
def A121:ACode:=(.seq (.reg [Zo 6 (.mv (.c (.b false)))] []) (.seqa (.reg [Zn 7 0] []) (.blk 0 (.loop A121L2)) [] [] A121R3))
def V121:List RV:=[.t 6]
theorem m121:mtcF Tryz.prog 121 3 A121 V121=true:=by kernel_rfl
def A115L1:ACode:=(.seq (.seq (.reg [Zm 6 5,Zm 7 0,Zk 8 7,Zb 9 .lss 6 8] []) (.cond (Zt 9) .skip (.exit 0))) (.seq (.blk 1 (.seq (.reg [Zm 12 0,Zm 13 5,Zx 14 5 12 13,Za 15 0 14,Zl 16 15,Zm 17 1,Zb 18 .eql 16 17] []) (.cond (Zt 18) (.seq (.reg [Zm 19 5,Zm 4 19] []) .ret) .skip))) (.reg [Zm 10 5,Zd 11 .add 10 1,Zm 5 11] [])))
def A115R2:ACode:=(.seq (.reg [Zn 4 (-1)] []) .ret)
def A115:ACode:=(.seq (.reg [Zn 4 0] []) (.seqa (.reg [Zn 5 0] []) (.blk 0 (.loop A115L1)) [] [] A115R2))
def V115:List RV:=[.t 4]
theorem m115:mtcF Tryz.prog 115 2 A115 V115=true:=by kernel_rfl
def A179:ACode:=(.seq (.reg [Zo 2 (.box 2 (Zt 0)),Zo 3 (.box 2 (Zt 1)),Zo 4 (.mv (.c (.lst .u 1 [])))] [.s 4]) (.seq (.reg [Zo 8 (.load 2 true (Zt 2)),Zo 9 (.load 2 true (Zt 3)),Zo 10 (.call 220 [(Zt 8),(Zt 9)]),Zm 7 10,Ze 11 7 0,Ze 12 7 1,Zm 5 11,Zm 6 12] [.s 5]) (.seq (.reg [Zm 13 5,Zm 4 13] [.s 4]) .ret)))
def V179:List RV:=[.t 4]
theorem m179:mtcF Tryz.prog 179 2 A179 V179=true:=by kernel_rfl
def A126:ACode:=(.seq (.reg [Zo 2 (.box 2 (Zt 0)),Zo 3 (.box 2 (Zt 1)),Zn 4 0] []) (.seq (.reg [Zo 6 (.load 2 true (Zt 2)),Zo 7 (.load 2 true (Zt 3)),Zo 8 (.call 179 [(Zt 6),(Zt 7)]),Zm 5 8] [.s 5]) (.seq (.reg [Zm 9 5,Zm 10 5,Zk 11 10,Zd 12 .sub 11 1,Zx 13 1 9 12,Zl 14 13,Zm 4 14] []) .ret)))
def V126:List RV:=[.t 4]
theorem m126:mtcF Tryz.prog 126 2 A126 V126=true:=by kernel_rfl
def A61R1:ACode:=(.cond (Zt 32) (.seq (.reg [Zo 2 (.mv (.c (.b false)))] []) .ret) .skip)
def A61R2:ACode:=(.cond (Zt 60) (.seq (.reg [Zo 2 (.mv (.c (.b false)))] []) .ret) .skip)
def A61R3:ACode:=(.cond (Zt 92) (.seq (.reg [Zo 2 (.mv (.c (.b false)))] []) .ret) .skip)
def A61L4:ACode:=(.seq (.seq (.reg [Zm 33 4,Za 34 0 1,Za 35 2 34,Zl 36 35,Zk 37 36,Zb 38 .lss 33 37] []) (.cond (Zt 38) .skip (.exit 0))) (.seq (.blk 1 (.seq (.reg [Za 41 0 1,Za 42 2 41,Zl 43 42,Zm 44 4,Zx 45 5 43 44,Zo 46 (.load 5 true (Zt 45)),Zo 5 (.alloc (.agg [.i 0,.i 0,.lst .u 1 [],.i 0,.i 0])),⟨none,.store 5 (Zt 5) (Zt 46),none⟩] []) (.seq (.reg [Za 47 3 1,Zl 48 47,Za 49 0 5,Zl 50 49,Zo 51 (.call 115 [(Zt 48),(Zt 50)]),Zm 6 51] []) (.seq (.seqr (.reg [Zm 52 6,Zd 53 .lss 52 0,Zm 54 53,⟨(some 55),.fad 1 (Zt 5),(some (54,false))⟩,⟨(some 56),.load 2 true (Zt 55),(some (54,false))⟩,⟨(some 57),.fad 4 (Zt 1),(some (54,false))⟩,⟨(some 58),.load 1 false (Zt 57),(some (54,false))⟩,⟨(some 59),.call 125 [(Zt 56),(Zt 58)],(some (54,false))⟩,Zo 60 (.pick (Zt 54) (.c (.b true)) (Zt 59))] []) [1,3,4,5,6,60] [1,3,5] A61R2) (.seq (.reg [Za 61 3 1,Zl 62 61,Zm 63 6,Zx 64 5 62 63,Zo 65 (.load 5 true (Zt 64)),Zo 7 (.alloc (.agg [.i 0,.i 0,.lst .u 1 [],.i 0,.i 0])),⟨none,.store 5 (Zt 7) (Zt 65),none⟩] []) (.seqr (.drw [Za 66 1 5,Za 67 0 66,Zl 68 67,Za 69 1 7,Za 70 0 69,Zl 71 70,Zb 72 .neq 68 71,Zm 73 72,⟨(some 74),.load 2 true (Zt 3),(some (73,false))⟩,⟨(some 75),.fad 1 (Zt 5),(some (73,false))⟩,⟨(some 76),.load 2 true (Zt 75),(some (73,false))⟩,⟨(some 77),.call 126 [(Zt 74),(Zt 76)],(some (73,false))⟩,⟨(some 78),.load 2 true (Zt 3),(some (73,false))⟩,⟨(some 79),.fad 1 (Zt 7),(some (73,false))⟩,⟨(some 80),.load 2 true (Zt 79),(some (73,false))⟩,⟨(some 81),.call 126 [(Zt 78),(Zt 80)],(some (73,false))⟩,⟨(some 82),.bin .neq (Zt 77) (Zt 81),(some (73,false))⟩,Zo 83 (.pick (Zt 73) (.c (.b true)) (Zt 82)),Zm 84 83,⟨(some 85),.fad 3 (Zt 5),(some (84,false))⟩,⟨(some 86),.fad 1 (Zt 85),(some (84,false))⟩,⟨(some 87),.load 1 false (Zt 86),(some (84,false))⟩,⟨(some 88),.fad 3 (Zt 7),(some (84,false))⟩,⟨(some 89),.fad 1 (Zt 88),(some (84,false))⟩,⟨(some 90),.load 1 false (Zt 89),(some (84,false))⟩,⟨(some 91),.bin .neq (Zt 87) (Zt 90),(some (84,false))⟩,Zo 92 (.pick (Zt 84) (.c (.b true)) (Zt 91))] []) [1,3,4,92] [1,3] A61R3)))))) (.reg [Zm 39 4,Zd 40 .add 39 1,Zm 4 40] [])))
def A61R5:ACode:=(.seq (.reg [Zo 2 (.mv (.c (.b true)))] []) .ret)
def A61:ACode:=(.seq (.reg [Zo 1 (.box 5 (Zt 0)),Zo 2 (.mv (.c (.b false)))] []) (.seq (.reg [Za 8 0 1,Za 9 0 8,Zo 10 (.load 2 true (Zt 9)),Zo 3 (.alloc (.agg [.lst .u 1 [],.lst .u 4 []])),⟨none,.store 2 (Zt 3) (Zt 10),none⟩] []) (.seq (.seqr (.reg [Za 11 0 1,Zo 12 (.load 3 true (Zt 11)),Zo 13 (.call 74 [(Zt 12)]),Zo 14 (.un .not (Zt 13)),Zm 15 14,⟨(some 16),.load 2 true (Zt 3),(some (15,false))⟩,⟨(some 17),.fad 3 (Zt 1),(some (15,false))⟩,⟨(some 18),.load 1 false (Zt 17),(some (15,false))⟩,⟨(some 19),.build [.lst .u 1 [],.lst .u 4 [],.lst .u 5 []] [(0,2,(Zt 16)),(2,1,(Zt 18))],(some (15,false))⟩,⟨(some 20),.call 74 [(Zt 19)],(some (15,false))⟩,⟨(some 21),.un .not (Zt 20),(some (15,false))⟩,Zo 22 (.pick (Zt 15) (.c (.b true)) (Zt 21)),Zm 23 22,⟨(some 24),.fad 4 (Zt 1),(some (23,false))⟩,⟨(some 25),.load 1 false (Zt 24),(some (23,false))⟩,⟨(some 26),.fad 1 (Zt 3),(some (23,false))⟩,⟨(some 27),.load 1 false (Zt 26),(some (23,false))⟩,⟨(some 28),.len (Zt 27),(some (23,false))⟩,⟨(some 29),.bin .sub (Zt 28) (.c (.i 1)),(some (23,false))⟩,⟨(some 30),.call 121 [(Zt 25),(.c (.i 0)),(Zt 29)],(some (23,false))⟩,⟨(some 31),.un .not (Zt 30),(some (23,false))⟩,Zo 32 (.pick (Zt 23) (.c (.b true)) (Zt 31))] []) [1,3,32] [1,3] A61R1) (.seqa (.reg [Zn 4 0] []) (.blk 0 (.loop A61L4)) [] [] A61R5))))
def V61:List RV:=[.t 2]
theorem m61:mtcF Tryz.prog 61 1 A61 V61=true:=by kernel_rfl
def A79:ACode:=(.seq (.reg [Zo 2 (.box 5 (Zt 0)),Zo 4 (.mv (.c (.b false)))] []) (.seq (.reg [Zo 5 (.load 5 true (Zt 2)),Zo 6 (.call 61 [(Zt 5)]),Zm 7 6,⟨(some 8),.mv (Zt 1),(some (7,true))⟩,⟨(some 9),.fad 0 (Zt 2),(some (7,true))⟩,⟨(some 10),.fad 0 (Zt 9),(some (7,true))⟩,⟨(some 11),.fad 1 (Zt 10),(some (7,true))⟩,⟨(some 12),.load 1 false (Zt 11),(some (7,true))⟩,⟨(some 13),.len (Zt 12),(some (7,true))⟩,⟨(some 14),.bin .sub (Zt 13) (.c (.i 1)),(some (7,true))⟩,⟨(some 15),.call 121 [(Zt 8),(.c (.i 0)),(Zt 14)],(some (7,true))⟩,Zo 16 (.pick (Zt 7) (Zt 15) (.c (.b false))),Zm 4 16] []) .ret))
def V79:List RV:=[.t 4]
theorem m79:mtcF Tryz.prog 79 2 A79 V79=true:=by kernel_rfl
def A89:ACode:=(.seq (.reg [Zo 1 (.box 2 (Zt 0)),Zo 2 (.alloc (.agg [.lst .u 1 [],.lst .u 4 []]))] []) (.seq (.drw [Zo 3 (.bsl 1 true []),Za 4 0 1,Zl 5 4,Zo 6 (.app 1 16 false (Zt 3) (Zt 5)),Zo 7 (.bsl 4 true []),Za 8 1 1,Zl 9 8,Zo 10 (.app 4 32 false (Zt 7) (Zt 9)),Zo 11 (.build [.lst .u 1 [],.lst .u 4 []] [(0,1,(Zt 6)),(1,1,(Zt 10))]),⟨none,.store 2 (Zt 2) (Zt 11),none⟩] []) .ret))
def V89:List RV:=[.c 2 2 true]
theorem m89:mtcF Tryz.prog 89 1 A89 V89=true:=by kernel_rfl
def A194:ACode:=(.seq (.reg [Zo 2 (.mv (.c (.lst .u 1 [])))] [.s 2]) (.seq (.reg [Zo 3 (.bsl 1 false []),Zm 4 0,Zo 5 (.app 1 8 false (Zt 3) (Zt 4)),Zm 2 5] [.s 2]) .ret))
def V194:List RV:=[.t 2]
theorem m194:mtcF Tryz.prog 194 1 A194 V194=true:=by kernel_rfl
def A193:ACode:=(.seq (.reg [Zo 1 (.box 2 (Zt 0)),Zo 2 (.alloc (.agg [.i 0,.lst .u 1 []]))] []) (.seq (.drw [Za 3 0 1,Zl 4 3,Za 5 1 1,Zl 6 5,Zo 7 (.call 194 [(Zt 6)]),Zo 8 (.build [.i 0,.lst .u 1 []] [(0,1,(Zt 4)),(1,1,(Zt 7))]),⟨none,.store 2 (Zt 2) (Zt 8),none⟩] []) .ret))
def V193:List RV:=[.c 2 2 true]
theorem m193:mtcF Tryz.prog 193 1 A193 V193=true:=by kernel_rfl
def A141:ACode:=(.seq (.reg [Zo 1 (.box 5 (Zt 0)),Zo 2 (.alloc (.agg [.i 0,.i 0,.lst .u 1 [],.i 0,.i 0]))] []) (.seq (.drw [Za 3 0 1,Zl 4 3,Za 5 1 1,Zo 6 (.load 2 true (Zt 5)),Zo 7 (.call 193 [(Zt 6)]),Za 8 3 1,Zo 9 (.load 2 true (Zt 8)),Zo 10 (.build [.i 0,.i 0,.lst .u 1 [],.i 0,.i 0] [(0,1,(Zt 4)),(1,2,(Zt 7)),(3,2,(Zt 9))]),⟨none,.store 5 (Zt 2) (Zt 10),none⟩] []) .ret))
def V141:List RV:=[.c 2 5 true]
theorem m141:mtcF Tryz.prog 141 1 A141 V141=true:=by kernel_rfl
def A75L1:ACode:=(.seq (.seq (.reg [Zm 9 4,Za 10 2 1,Zl 11 10,Zk 12 11,Zb 13 .lss 9 12] []) (.cond (Zt 13) .skip (.exit 0))) (.seq (.blk 1 (.drw [Zo 16 (.fdv [] 2 (Zt 3)),Zo 17 (.ldv [] 1 false (Zt 16)),Za 18 2 1,Zl 19 18,Zm 20 4,Zx 21 5 19 20,Zo 22 (.load 5 true (Zt 21)),Zo 23 (.call 141 [(Zt 22)]),Zo 24 (.bsm 5 [(Zt 23)]),Zo 25 (.app 5 56 true (Zt 17) (Zt 24)),Za 26 2 3,⟨none,.store 1 (Zt 26) (Zt 25),none⟩] [.f false 500000194 3 2])) (.reg [Zm 14 4,Zd 15 .add 14 1,Zm 4 15] [])))
def A75R2:ACode:=(.seq (.reg [Zo 27 (.load 3 true (Zt 3)),⟨none,.store 3 (Zt 2) (Zt 27),none⟩] [.f false 500000128 2 0,.f false 500000129 2 1,.f false 500000130 2 2]) .ret)
def A75:ACode:=(.seq (.reg [Zo 1 (.box 3 (Zt 0)),Zo 2 (.alloc (.agg [.lst .u 1 [],.lst .u 4 [],.lst .u 5 []]))] []) (.seq (.reg [Za 5 0 1,Zo 6 (.load 2 true (Zt 5)),Zo 7 (.call 89 [(Zt 6)]),Zo 8 (.build [.lst .u 1 [],.lst .u 4 [],.lst .u 5 []] [(0,2,(Zt 7))]),Zo 3 (.alloc (.agg [.lst .u 1 [],.lst .u 4 [],.lst .u 5 []])),⟨none,.store 3 (Zt 3) (Zt 8),none⟩] [.f false 500000192 3 0,.f false 500000193 3 1,.f false 500000194 3 2]) (.seqa (.reg [Zn 4 0] []) (.blk 0 (.loop A75L1)) [2,3] [2,3,500000192,500000193,500000194] A75R2)))
def V75:List RV:=[.c 2 3 true]
theorem m75:mtcF Tryz.prog 75 1 A75 V75=true:=by kernel_rfl
def A76L1:ACode:=(.seq (.seq (.reg [Zm 6 4,Zm 7 0,Zk 8 7,Zb 9 .lss 6 8] []) (.cond (Zt 9) .skip (.exit 0))) (.seq (.blk 1 (.reg [Zm 12 3,Zm 13 0,Zm 14 4,Zx 15 5 13 14,Zo 16 (.load 5 true (Zt 15)),Zo 17 (.call 141 [(Zt 16)]),Zo 18 (.bsl 5 false [(Zt 17)]),Zo 19 (.app 5 56 true (Zt 12) (Zt 18)),Zm 3 19] [.s 3])) (.reg [Zm 10 4,Zd 11 .add 10 1,Zm 4 11] [])))
def A76R2:ACode:=(.seq (.reg [Zm 20 3,Zm 2 20] [.s 2]) .ret)
def A76:ACode:=(.seq (.reg [Zo 2 (.mv (.c (.lst .u 5 [])))] [.s 2]) (.seq (.reg [Zo 5 (.bsl 5 false []),Zm 3 5] [.s 3]) (.seqa (.reg [Zn 4 0] []) (.blk 0 (.loop A76L1)) [3] [3] A76R2)))
def V76:List RV:=[.t 2]
theorem m76:mtcF Tryz.prog 76 1 A76 V76=true:=by kernel_rfl
def A143:ACode:=(.seq (.reg [Zo 1 (.box 5 (Zt 0)),Zo 2 (.alloc (.agg [.lst .u 1 [],.lst .u 4 [],.lst .u 5 [],.lst .u 5 [],.lst .u 1 []]))] []) (.seq (.drw [Za 3 0 1,Zo 4 (.load 3 true (Zt 3)),Zo 5 (.call 75 [(Zt 4)]),Za 6 3 1,Zl 7 6,Zo 8 (.call 76 [(Zt 7)]),Za 9 4 1,Zl 10 9,Zo 11 (.call 194 [(Zt 10)]),Zo 12 (.build [.lst .u 1 [],.lst .u 4 [],.lst .u 5 [],.lst .u 5 [],.lst .u 1 []] [(0,3,(Zt 5)),(3,1,(Zt 8)),(4,1,(Zt 11))]),⟨none,.store 5 (Zt 2) (Zt 12),none⟩] []) .ret))
def V143:List RV:=[.c 2 5 true]
theorem m143:mtcF Tryz.prog 143 1 A143 V143=true:=by kernel_rfl
def A169M1L1:ACode:=(.seq (.seq (.reg [Zm 6 5,Zm 7 0,Zk 8 7,Zb 9 .lss 6 8,Zm 10 9,⟨(some 11),.mv (Zt 0),(some (10,true))⟩,⟨(some 12),.mv (Zt 5),(some (10,true))⟩,⟨(some 13),.idx 1 (Zt 11) (Zt 12),(some (10,true))⟩,⟨(some 14),.load 1 false (Zt 13),(some (10,true))⟩,⟨(some 15),.mv (Zt 1),(some (10,true))⟩,⟨(some 16),.bin .lss (Zt 14) (Zt 15),(some (10,true))⟩,Zo 17 (.pick (Zt 10) (Zt 16) (.c (.b false)))] []) (.cond (Zt 17) .skip (.exit 0))) (.blk 1 (.reg [Zm 18 5,Zd 19 .add 18 1,Zm 5 19] [])))
def A169M1R3:ACode:=(.cond (Zt 31) (.seq (.reg [Zm 32 0,Zm 4 32] [.r 4]) .ret) .skip)
def A169M1R2:ACode:=(.seq (.seqr (.reg [Zm 20 5,Zm 21 0,Zk 22 21,Zb 23 .lss 20 22,Zm 24 23,⟨(some 25),.mv (Zt 0),(some (24,true))⟩,⟨(some 26),.mv (Zt 5),(some (24,true))⟩,⟨(some 27),.idx 1 (Zt 25) (Zt 26),(some (24,true))⟩,⟨(some 28),.load 1 false (Zt 27),(some (24,true))⟩,⟨(some 29),.mv (Zt 1),(some (24,true))⟩,⟨(some 30),.bin .eql (Zt 28) (Zt 29),(some (24,true))⟩,Zo 31 (.pick (Zt 24) (Zt 30) (.c (.b false)))] []) [0,1,5,31] [1000000000] A169M1R3) (.seq (.drw [Zo 33 (.bsl 1 true []),Zm 34 0,Zm 35 5,Zo 36 (.slc 1 (Zt 34) none (some (Zt 35)) none),Zo 37 (.app 1 8 false (Zt 33) (Zt 36)),Zm 38 1,Zo 39 (.bsl 1 true [(Zt 38)]),Zo 40 (.app 1 8 true (Zt 37) (Zt 39)),Zm 41 0,Zm 42 5,Zo 43 (.slc 1 (Zt 41) (some (Zt 42)) none none),Zo 44 (.app 1 8 false (Zt 40) (Zt 43)),Zm 4 44] [.r 4]) .ret))
def A169M1:ACode:=(.seq (.reg [Zo 4 (.mv (.c (.lst .u 1 [])))] [.r 4]) (.seq (.reg [Zn 5 0] []) (.seqr (.blk 0 (.loop A169M1L1)) [0,1,5] [1000000000] A169M1R2)))
def V169M1:List RV:=[.t 4]
theorem m169M1:mtcF Tryz.prog 169 2 A169M1 V169M1=true:=by kernel_rfl
def A116L1:ACode:=(.seq (.seq (.reg [Zm 6 5,Za 7 2 2,Zl 8 7,Zk 9 8,Zb 10 .lss 6 9] []) (.cond (Zt 10) .skip (.exit 0))) (.seq (.blk 1 (.seq (.reg [Za 13 2 2,Zl 14 13,Zm 15 5,Zx 16 5 14 15,Za 17 0 16,Zl 18 17,Zm 19 1,Zb 20 .eql 18 19] []) (.cond (Zt 20) (.seq (.reg [Zm 21 5,Zm 4 21] []) .ret) .skip))) (.reg [Zm 11 5,Zd 12 .add 11 1,Zm 5 12] [])))
def A116R2:ACode:=(.seq (.reg [Zn 4 (-1)] []) .ret)
def A116:ACode:=(.seq (.reg [Zo 2 (.box 3 (Zt 0)),Zn 4 0] []) (.seqa (.reg [Zn 5 0] []) (.blk 0 (.loop A116L1)) [] [] A116R2))
def V116:List RV:=[.t 4]
theorem m116:mtcF Tryz.prog 116 2 A116 V116=true:=by kernel_rfl
def A165M2:ACode:=(.seq (.reg [Zo 2 (.box 3 (Zt 0)),Zo 4 (.alloc (.agg [.lst .u 1 [],.lst .u 4 [],.lst .u 5 []]))] []) (.seq (.reg [Zo 6 (.load 3 true (Zt 2)),Zo 7 (.call 75 [(Zt 6)]),Zo 5 (.alloc (.agg [.lst .u 1 [],.lst .u 4 [],.lst .u 5 []])),⟨none,.store 3 (Zt 5) (Zt 7),none⟩] []) (.seq (.drw [Zo 8 (.bsl 5 true []),Za 9 2 5,Zl 10 9,Zm 11 1,Zo 12 (.slc 5 (Zt 10) none (some (Zt 11)) none),Zo 13 (.app 5 56 false (Zt 8) (Zt 12)),Za 14 2 5,Zl 15 14,Zm 16 1,Zd 17 .add 16 1,Zo 18 (.slc 5 (Zt 15) (some (Zt 17)) none none),Zo 19 (.app 5 56 false (Zt 13) (Zt 18)),Za 20 2 5,⟨none,.store 1 (Zt 20) (Zt 19),none⟩] []) (.seq (.reg [Zo 21 (.load 3 true (Zt 5)),⟨none,.store 3 (Zt 4) (Zt 21),none⟩] []) .ret))))
def V165M2:List RV:=[.c 4 3 true]
theorem m165M2:mtcF Tryz.prog 165 2 A165M2 V165M2=true:=by kernel_rfl
def A109M2L1:ACode:=(.seq (.seq (.reg [Zm 14 8,Zm 15 1,Zk 16 15,Zb 17 .lss 14 16] []) (.cond (Zt 17) .skip (.exit 0))) (.seq (.blk 1 (.drw [Za 20 4 6,Zl 21 20,Zm 22 1,Zm 23 8,Zx 24 1 22 23,Zl 25 24,Zo 26 (.callM 169 [(Zt 21),(Zt 25)] [500000388]),Za 27 4 6,⟨none,.store 1 (Zt 27) (Zt 26),none⟩] [.f false 500000388 6 4])) (.reg [Zm 18 8,Zd 19 .add 18 1,Zm 8 19] [])))
def A109M2L3:ACode:=(.seq (.seq (.reg [Zm 28 9,Za 29 0 2,Za 30 2 29,Zl 31 30,Zk 32 31,Zb 33 .lss 28 32] []) (.cond (Zt 33) .skip (.exit 2))) (.seq (.blk 3 (.seq (.reg [Za 36 0 2,Za 37 2 36,Zl 38 37,Zm 39 9,Zx 40 5 38 39,Zo 41 (.load 5 true (Zt 40)),Zo 10 (.alloc (.agg [.i 0,.i 0,.lst .u 1 [],.i 0,.i 0])),⟨none,.store 5 (Zt 10) (Zt 41),none⟩] [.f false 500000642 10 2]) (.seq (.reg [Za 42 1 10,Zo 43 (.load 2 true (Zt 42)),Zm 44 1,Zo 45 (.call 125 [(Zt 43),(Zt 44)])] []) (.cond (Zt 45) (.seq (.reg [Zm 46 7,Za 47 0 10,Zl 48 47,Zo 49 (.bsl 1 false [(Zt 48)]),Zo 50 (.app 1 8 true (Zt 46) (Zt 49)),Zm 7 50] [.s 7]) (.drw [Za 51 0 6,Zo 52 (.load 3 true (Zt 51)),Za 53 0 6,Zo 54 (.load 3 true (Zt 53)),Za 55 0 10,Zl 56 55,Zo 57 (.call 116 [(Zt 54),(Zt 56)]),Zo 58 (.callM 165 [(Zt 52),(Zt 57)] [500000384,500000385,500000386]),Za 59 0 6,⟨none,.store 3 (Zt 59) (Zt 58),none⟩] [.f false 500000384 6 0,.f false 500000385 6 1,.f false 500000386 6 2])) .skip)))) (.reg [Zm 34 9,Zd 35 .add 34 1,Zm 9 35] [])))
def A109M2R4:ACode:=(.seq (.reg [Zo 60 (.load 5 true (Zt 6)),Zm 61 7,⟨none,.store 5 (Zt 4) (Zt 60),none⟩,Zm 5 61] [.s 5,.f false 500000256 4 0,.f false 500000257 4 1,.f false 500000258 4 2,.f false 500000259 4 3,.f false 500000260 4 4]) .ret)
def A109M2R2:ACode:=(.seqa (.reg [Zn 9 0] []) (.blk 2 (.loop A109M2L3)) [4,6,7] [4,6,7,500000384,500000385,500000386,500000387,500000388,1000000000,1000000001,1000000002,1000000003,1000000004,1000000005] A109M2R4)
def A109M2:ACode:=(.seq (.reg [Zo 2 (.box 5 (Zt 0)),Zo 4 (.alloc (.agg [.lst .u 1 [],.lst .u 4 [],.lst .u 5 [],.lst .u 5 [],.lst .u 1 []])),Zo 5 (.mv (.c (.lst .u 1 [])))] [.s 5,.f false 500000128 2 0,.f false 500000129 2 1,.f false 500000130 2 2,.f false 500000131 2 3,.f false 500000132 2 4]) (.seq (.reg [Zo 11 (.load 5 true (Zt 2)),Zo 12 (.call 143 [(Zt 11)]),Zo 6 (.alloc (.agg [.lst .u 1 [],.lst .u 4 [],.lst .u 5 [],.lst .u 5 [],.lst .u 1 []])),⟨none,.store 5 (Zt 6) (Zt 12),none⟩] [.f false 500000384 6 0,.f false 500000385 6 1,.f false 500000386 6 2,.f false 500000387 6 3,.f false 500000388 6 4,.w 500000386]) (.seq (.reg [Zo 13 (.bsl 1 false []),Zm 7 13] [.s 7]) (.seqa (.reg [Zn 8 0] []) (.blk 0 (.loop A109M2L1)) [1,2,4,6,7] [2,4,6,7,500000384,500000385,500000386,500000387,500000388,1000000000,1000000001,1000000002,1000000003,1000000004,1000000005] A109M2R2))))
def V109M2:List RV:=[.c 4 5 true,.t 5]
theorem m109M2:mtcF Tryz.prog 109 2 A109M2 V109M2=true:=by kernel_rfl
def A47M1:ACode:=(.seq (.reg [Zo 2 (.box 5 (Zt 0)),Zo 4 (.alloc (.agg [.lst .u 1 [],.lst .u 4 [],.lst .u 5 [],.lst .u 5 [],.lst .u 1 []])),Zo 5 (.mv (.c (.lst .u 1 []))),Zo 6 (.mv (.c (.b false)))] [.s 5,.f false 500000128 2 0,.f false 500000129 2 1,.f false 500000130 2 2,.f false 500000131 2 3,.f false 500000132 2 4]) (.seq (.seq (.reg [Zo 9 (.load 5 true (Zt 2)),Zm 10 1,Zo 11 (.call 79 [(Zt 9),(Zt 10)]),Zo 12 (.un .not (Zt 11))] []) (.cond (Zt 12) (.seq (.reg [Zo 13 (.build [.lst .u 1 [],.lst .u 4 [],.lst .u 5 [],.lst .u 5 [],.lst .u 1 []] []),Zo 14 (.bsl 1 false []),⟨none,.store 5 (Zt 4) (Zt 13),none⟩,Zm 5 14,Zo 6 (.mv (.c (.b false)))] [.s 5,.f false 500000256 4 0,.f false 500000257 4 1,.f false 500000258 4 2,.f false 500000259 4 3,.f false 500000260 4 4]) .ret) .skip)) (.seq (.reg [Zo 16 (.load 5 true (Zt 2)),Zm 17 1,Zo 18 (.callM 109 [(Zt 16),(Zt 17)] [1000000000,1000000001,1000000002,1000000003,1000000004,1000000005]),Zm 15 18,Ze 19 15 0,Ze 20 15 1,Zo 7 (.alloc (.agg [.lst .u 1 [],.lst .u 4 [],.lst .u 5 [],.lst .u 5 [],.lst .u 1 []])),⟨none,.store 5 (Zt 7) (Zt 19),none⟩,Zm 8 20] [.s 8,.f false 500000448 7 0,.f false 500000449 7 1,.f false 500000450 7 2,.f false 500000451 7 3,.f false 500000452 7 4]) (.seq (.reg [Zo 21 (.load 5 true (Zt 7)),Zm 22 8,⟨none,.store 5 (Zt 4) (Zt 21),none⟩,Zm 5 22,Zo 6 (.mv (.c (.b true)))] [.s 5,.f false 500000256 4 0,.f false 500000257 4 1,.f false 500000258 4 2,.f false 500000259 4 3,.f false 500000260 4 4]) .ret))))
def V47M1:List RV:=[.c 4 5 true,.t 5,.t 6]
theorem m47M1:mtcF Tryz.prog 47 2 A47M1 V47M1=true:=by kernel_rfl
def A132:ACode:=(.seq (.reg [Zo 6 (.mv (.c (.b false)))] []) (.seq (.reg [Zm 7 1,Zm 8 0,Zb 9 .leq 7 8,Zm 10 9,⟨(some 11),.mv (Zt 0),(some (10,true))⟩,⟨(some 12),.mv (Zt 2),(some (10,true))⟩,⟨(some 13),.bin .leq (Zt 11) (Zt 12),(some (10,true))⟩,Zo 14 (.pick (Zt 10) (Zt 13) (.c (.b false))),Zm 6 14] []) .ret))
def V132:List RV:=[.t 6]
theorem m132:mtcF Tryz.prog 132 3 A132 V132=true:=by kernel_rfl
def A180R1:ACode:=(.seq (.reg [Zm 31 4,Zo 32 (.un .not (Zt 31)),Zm 33 32,⟨(some 34),.mv (Zt 5),(some (33,true))⟩,⟨(some 35),.un .not (Zt 34),(some (33,true))⟩,⟨(some 36),.mv (Zt 35),(some (33,true))⟩,⟨(some 37),.mv (Zt 3),(some (36,false))⟩,⟨(some 38),.bin .eql (Zt 37) (.c (.i 0)),(some (36,false))⟩,⟨(some 39),.pick (Zt 36) (.c (.b true)) (Zt 38),(some (33,true))⟩,Zo 40 (.pick (Zt 33) (Zt 39) (.c (.b false)))] []) (.cond (Zt 40) (.seq (.reg [Zo 2 (.mv (.c (.b false)))] []) .ret) .skip))
def A180L2:ACode:=(.seq (.reg [Zb 9 .lss 8 7] []) (.seq (.cond (Zt 9) .skip (.exit 0)) (.seq (.blk 1 (.seq (.reg [Zm 10 8,Zm 3 10] []) (.seqr (.drw [Zm 11 0,Zm 12 3,Zo 13 (.stri (Zt 11) (Zt 12)),Zo 14 (.bin .geq (Zt 13) (.c (.sc (.int .u8 97)))),Zm 15 14,⟨(some 16),.mv (Zt 0),(some (15,true))⟩,⟨(some 17),.mv (Zt 3),(some (15,true))⟩,⟨(some 18),.stri (Zt 16) (Zt 17),(some (15,true))⟩,⟨(some 19),.bin .leq (Zt 18) (.c (.sc (.int .u8 122))),(some (15,true))⟩,Zo 20 (.pick (Zt 15) (Zt 19) (.c (.b false))),Zm 21 0,Zm 22 3,Zo 23 (.stri (Zt 21) (Zt 22)),Zo 24 (.bin .geq (Zt 23) (.c (.sc (.int .u8 48)))),Zm 25 24,⟨(some 26),.mv (Zt 0),(some (25,true))⟩,⟨(some 27),.mv (Zt 3),(some (25,true))⟩,⟨(some 28),.stri (Zt 26) (Zt 27),(some (25,true))⟩,⟨(some 29),.bin .leq (Zt 28) (.c (.sc (.int .u8 57))),(some (25,true))⟩,Zo 30 (.pick (Zt 25) (Zt 29) (.c (.b false))),Zm 4 20,Zm 5 30] []) [0,3,4,5,7,8] [] A180R1))) (.reg [Zd 41 .add 8 1,Zm 8 41] []))))
def A180R3:ACode:=(.seq (.reg [Zm 42 0,Zo 43 (.lenz (Zt 42)),Zo 44 (.call 132 [(Zt 43),(.c (.i 1)),(.c (.i 8))]),Zm 2 44] []) .ret)
def A180:ACode:=(.seq (.reg [Zo 2 (.mv (.c (.b false)))] []) (.seqa (.reg [Zm 6 0,Zo 7 (.lenz (Zt 6)),Zn 8 0] []) (.blk 0 (.loop A180L2)) [0] [] A180R3))
def V180:List RV:=[.t 2]
theorem m180:mtcF Tryz.prog 180 1 A180 V180=true:=by kernel_rfl
def A221L1:ACode:=(.seq (.reg [Zb 9 .lss 8 7] []) (.seq (.cond (Zt 9) .skip (.exit 0)) (.seq (.blk 1 (.seq (.reg [Zm 10 8,Zm 5 10] []) (.seq (.reg [Zm 11 1,Zm 12 0,Zm 13 5,Zx 14 1 12 13,Zl 15 14,Zb 16 .eql 11 15] []) (.cond (Zt 16) (.seq (.reg [Zm 17 5,Zm 4 17] []) .ret) .skip)))) (.reg [Zd 18 .add 8 1,Zm 8 18] []))))
def A221R2:ACode:=(.seq (.reg [Zn 4 (-1)] []) .ret)
def A221:ACode:=(.seq (.reg [Zn 4 0] []) (.seqa (.reg [Zm 6 0,Zk 7 6,Zn 8 0] []) (.blk 0 (.loop A221L1)) [] [] A221R2))
def V221:List RV:=[.t 4]
theorem m221:mtcF Tryz.prog 221 2 A221 V221=true:=by kernel_rfl
def A181:ACode:=(.seq (.reg [Zo 4 (.mv (.c (.b false)))] []) (.seq (.reg [Zm 5 0,Zm 6 1,Zo 7 (.call 221 [(Zt 5),(Zt 6)]),Zd 8 .geq 7 0,Zm 4 8] []) .ret))
def V181:List RV:=[.t 4]
theorem m181:mtcF Tryz.prog 181 2 A181 V181=true:=by kernel_rfl
def A233:ACode:=(.seq (.reg [Zo 2 (.mv (.c (.b false)))] []) (.seq (.reg [Zm 3 0,Zm 4 0,Zb 5 .neq 3 4,Zm 2 5] []) .ret))
def V233:List RV:=[.t 2]
theorem m233:mtcF Tryz.prog 233 1 A233 V233=true:=by kernel_rfl
def A223:ACode:=(.seq (.reg [Zn 4 0] []) (.seq (.reg [Zm 7 0,Zo 8 (.call 233 [(Zt 7)]),Zm 5 8] []) (.seq (.reg [Zm 9 1,Zo 10 (.call 233 [(Zt 9)]),Zm 6 10] []) (.seq (.seq (.reg [Zm 11 5] []) (.cond (Zt 11) (.seq (.seq (.reg [Zm 12 6] []) (.cond (Zt 12) (.seq (.reg [Zn 4 0] []) .ret) .skip)) (.seq (.reg [Zn 4 (-1)] []) .ret)) .skip)) (.seq (.seq (.reg [Zm 13 6] []) (.cond (Zt 13) (.seq (.reg [Zn 4 1] []) .ret) .skip)) (.seq (.seq (.reg [Zm 14 0,Zm 15 1,Zb 16 .lss 14 15] []) (.cond (Zt 16) (.seq (.reg [Zn 4 (-1)] []) .ret) .skip)) (.seq (.seq (.reg [Zm 17 0,Zm 18 1,Zb 19 .gtr 17 18] []) (.cond (Zt 19) (.seq (.reg [Zn 4 1] []) .ret) .skip)) (.seq (.reg [Zn 4 0] []) .ret))))))))
def V223:List RV:=[.t 4]
theorem m223:mtcF Tryz.prog 223 2 A223 V223=true:=by kernel_rfl
def A222L1:ACode:=(.seq (.reg [Zb 9 .lss 8 7] []) (.seq (.cond (Zt 9) .skip (.exit 0)) (.seq (.blk 1 (.seq (.reg [Zx 10 1 6 8,Zl 11 10,Zm 5 11] []) (.seq (.reg [Zm 12 5,Zm 13 3,Zb 14 .neq 12 13] []) (.cond (Zt 14) (.seq (.reg [Zm 15 5,Zm 2 15] []) .ret) .skip)))) (.reg [Zd 16 .add 8 1,Zm 8 16] []))))
def A222R2:ACode:=(.seq (.reg [Zm 17 3,Zm 2 17] []) .ret)
def A222:ACode:=(.seq (.reg [Zn 2 0] []) (.seq (.reg [Zn 3 0] []) (.seqa (.reg [Zm 6 0,Zk 7 6,Zn 8 0] []) (.blk 0 (.loop A222L1)) [3] [] A222R2)))
def V222:List RV:=[.t 2]
theorem m222:mtcF Tryz.prog 222 1 A222 V222=true:=by kernel_rfl
def A182:ACode:=(.seq (.reg [Zo 2 (.box 4 (Zt 0)),Zo 3 (.box 4 (Zt 1)),Zn 4 0] []) (.seq (.drw [Za 5 0 2,Zl 6 5,Za 7 0 3,Zl 8 7,Zo 9 (.call 223 [(Zt 6),(Zt 8)]),Za 10 1 2,Zl 11 10,Za 12 1 3,Zl 13 12,Zo 14 (.call 223 [(Zt 11),(Zt 13)]),Za 15 2 2,Zl 16 15,Za 17 2 3,Zl 18 17,Zo 19 (.call 223 [(Zt 16),(Zt 18)]),Za 20 3 2,Zl 21 20,Za 22 3 3,Zl 23 22,Zo 24 (.call 223 [(Zt 21),(Zt 23)]),Zo 25 (.bsl 1 true [(Zt 9),(Zt 14),(Zt 19),(Zt 24)]),Zo 26 (.call 222 [(Zt 25)]),Zm 4 26] []) .ret))
def V182:List RV:=[.t 4]
theorem m182:mtcF Tryz.prog 182 2 A182 V182=true:=by kernel_rfl
def A128L1:ACode:=(.seq (.reg [Zb 11 .lss 10 9] []) (.seq (.cond (Zt 11) .skip (.exit 0)) (.seq (.blk 1 (.seq (.reg [Zm 12 10,Zx 13 1 8 10,Zl 14 13,Zm 3 12,Zm 4 14] []) (.seq (.reg [Zm 15 4,Zo 16 (.call 180 [(Zt 15)]),Zo 17 (.un .not (Zt 16)),Zm 18 17,⟨(some 19),.fad 0 (Zt 1),(some (18,false))⟩,⟨(some 20),.load 1 false (Zt 19),(some (18,false))⟩,⟨(some 21),.mv (Zt 3),(some (18,false))⟩,⟨(some 22),.slc 1 (Zt 20) none (some (Zt 21)) none,(some (18,false))⟩,⟨(some 23),.mv (Zt 4),(some (18,false))⟩,⟨(some 24),.call 181 [(Zt 22),(Zt 23)],(some (18,false))⟩,Zo 25 (.pick (Zt 18) (.c (.b true)) (Zt 24))] []) (.cond (Zt 25) (.seq (.reg [Zo 2 (.mv (.c (.b false)))] []) .ret) .skip)))) (.reg [Zd 26 .add 10 1,Zm 10 26] []))))
def A128L3:ACode:=(.seq (.reg [Zb 31 .lss 30 29] []) (.seq (.cond (Zt 31) .skip (.exit 2)) (.seq (.blk 3 (.seq (.reg [Zm 32 30,Zx 33 4 28 30,Zo 34 (.load 4 true (Zt 33)),Zo 6 (.alloc (.agg [.i 0,.i 0,.i 0,.i 0])),Zm 5 32,⟨none,.store 4 (Zt 6) (Zt 34),none⟩] []) (.seq (.drw [Za 35 0 6,Zl 36 35,Zd 37 .lss 36 0,Zm 38 37,⟨(some 39),.fad 0 (Zt 6),(some (38,false))⟩,⟨(some 40),.load 1 false (Zt 39),(some (38,false))⟩,⟨(some 41),.fad 1 (Zt 6),(some (38,false))⟩,⟨(some 42),.load 1 false (Zt 41),(some (38,false))⟩,⟨(some 43),.bin .geq (Zt 40) (Zt 42),(some (38,false))⟩,Zo 44 (.pick (Zt 38) (.c (.b true)) (Zt 43)),Zm 45 44,⟨(some 46),.fad 1 (Zt 6),(some (45,false))⟩,⟨(some 47),.load 1 false (Zt 46),(some (45,false))⟩,⟨(some 48),.fad 0 (Zt 1),(some (45,false))⟩,⟨(some 49),.load 1 false (Zt 48),(some (45,false))⟩,⟨(some 50),.len (Zt 49),(some (45,false))⟩,⟨(some 51),.bin .geq (Zt 47) (Zt 50),(some (45,false))⟩,Zo 52 (.pick (Zt 45) (.c (.b true)) (Zt 51)),Zm 53 52,⟨(some 54),.fad 2 (Zt 6),(some (53,false))⟩,⟨(some 55),.load 1 false (Zt 54),(some (53,false))⟩,⟨(some 56),.call 132 [(Zt 55),(.c (.i 1)),(.c (.i 5000))],(some (53,false))⟩,⟨(some 57),.un .not (Zt 56),(some (53,false))⟩,Zo 58 (.pick (Zt 53) (.c (.b true)) (Zt 57)),Zm 59 58,⟨(some 60),.fad 3 (Zt 6),(some (59,false))⟩,⟨(some 61),.load 1 false (Zt 60),(some (59,false))⟩,⟨(some 62),.call 132 [(Zt 61),(.c (.i 0)),(.c (.i 9))],(some (59,false))⟩,⟨(some 63),.un .not (Zt 62),(some (59,false))⟩,Zo 64 (.pick (Zt 59) (.c (.b true)) (Zt 63)),Zm 65 64,⟨(some 66),.mv (Zt 5),(some (65,false))⟩,⟨(some 67),.bin .gtr (Zt 66) (.c (.i 0)),(some (65,false))⟩,⟨(some 68),.mv (Zt 67),(some (65,false))⟩,⟨(some 69),.fad 1 (Zt 1),(some (68,true))⟩,⟨(some 70),.load 1 false (Zt 69),(some (68,true))⟩,⟨(some 71),.mv (Zt 5),(some (68,true))⟩,⟨(some 72),.bin .sub (Zt 71) (.c (.i 1)),(some (68,true))⟩,⟨(some 73),.idx 4 (Zt 70) (Zt 72),(some (68,true))⟩,⟨(some 74),.load 4 true (Zt 73),(some (68,true))⟩,⟨(some 75),.load 4 true (Zt 6),(some (68,true))⟩,⟨(some 76),.call 182 [(Zt 74),(Zt 75)],(some (68,true))⟩,⟨(some 77),.bin .gtr (Zt 76) (.c (.i 0)),(some (68,true))⟩,⟨(some 78),.pick (Zt 68) (Zt 77) (.c (.b false)),(some (65,false))⟩,Zo 79 (.pick (Zt 65) (.c (.b true)) (Zt 78))] []) (.cond (Zt 79) (.seq (.reg [Zo 2 (.mv (.c (.b false)))] []) .ret) .skip)))) (.reg [Zd 80 .add 30 1,Zm 30 80] []))))
def A128R4:ACode:=(.seq (.reg [Za 81 0 1,Zl 82 81,Zk 83 82,Zo 84 (.call 132 [(Zt 83),(.c (.i 2)),(.c (.i 8))]),Zm 85 84,⟨(some 86),.fad 1 (Zt 1),(some (85,true))⟩,⟨(some 87),.load 1 false (Zt 86),(some (85,true))⟩,⟨(some 88),.len (Zt 87),(some (85,true))⟩,⟨(some 89),.bin .leq (Zt 88) (.c (.i 14)),(some (85,true))⟩,Zo 90 (.pick (Zt 85) (Zt 89) (.c (.b false))),Zm 2 90] []) .ret)
def A128R2:ACode:=(.seqa (.reg [Za 27 1 1,Zl 28 27,Zk 29 28,Zn 30 0] []) (.blk 2 (.loop A128L3)) [1] [1] A128R4)
def A128:ACode:=(.seq (.reg [Zo 1 (.box 2 (Zt 0)),Zo 2 (.mv (.c (.b false)))] []) (.seqa (.reg [Za 7 0 1,Zl 8 7,Zk 9 8,Zn 10 0] []) (.blk 0 (.loop A128L1)) [1] [1] A128R2))
def V128:List RV:=[.t 2]
theorem m128:mtcF Tryz.prog 128 1 A128 V128=true:=by kernel_rfl
def A185:ACode:=(.seq (.reg [Zo 2 (.box 4 (Zt 0)),Zn 4 0] []) (.seq (.seq (.reg [Zm 5 1] []) (.blk 0 (.seq (.reg [Za 7 0 2,Zl 8 7,Zb 9 .eql 5 8,Zm 6 9] []) (.cond (Zt 6) (.seq (.reg [Za 10 1 2,Zl 11 10,Zm 4 11] []) .ret) (.seq (.reg [Za 13 1 2,Zl 14 13,Zb 15 .eql 5 14,Zm 12 15] []) (.cond (Zt 12) (.seq (.reg [Za 16 0 2,Zl 17 16,Zm 4 17] []) .ret) .skip)))))) (.seq (.reg [Zn 4 (-1)] []) .ret)))
def V185:List RV:=[.t 4]
theorem m185:mtcF Tryz.prog 185 2 A185 V185=true:=by kernel_rfl
def A146L1:ACode:=(.seq (.reg [Zb 9 .lss 8 7] []) (.seq (.cond (Zt 9) .skip (.exit 0)) (.seq (.blk 1 (.seq (.reg [Zm 10 8,Zm 5 10] []) (.seq (.reg [Zm 11 1,Zm 12 0,Zm 13 5,Zx 14 1 12 13,Zl 15 14,Zb 16 .eql 11 15] []) (.cond (Zt 16) (.seq (.reg [Zm 17 5,Zm 4 17] []) .ret) .skip)))) (.reg [Zd 18 .add 8 1,Zm 8 18] []))))
def A146R2:ACode:=(.seq (.reg [Zn 4 (-1)] []) .ret)
def A146:ACode:=(.seq (.reg [Zn 4 0] []) (.seqa (.reg [Zm 6 0,Zk 7 6,Zn 8 0] []) (.blk 0 (.loop A146L1)) [] [] A146R2))
def V146:List RV:=[.t 4]
theorem m146:mtcF Tryz.prog 146 2 A146 V146=true:=by kernel_rfl
def A84:ACode:=(.seq (.reg [Zo 4 (.mv (.c (.b false)))] []) (.seq (.reg [Zm 5 0,Zm 6 1,Zo 7 (.call 146 [(Zt 5),(Zt 6)]),Zd 8 .geq 7 0,Zm 4 8] []) .ret))
def V84:List RV:=[.t 4]
theorem m84:mtcF Tryz.prog 84 2 A84 V84=true:=by kernel_rfl
def A135R1:ACode:=(.cond (Zt 23) (.seq (.reg [Zo 4 (.mv (.c (.lst .u 1 []))),Zo 5 (.mv (.c (.b false)))] [.s 4]) .ret) .skip)
def A135R2:ACode:=(.cond (Zt 56) (.seq (.reg [Zo 4 (.mv (.c (.lst .u 1 []))),Zo 5 (.mv (.c (.b false)))] [.s 4]) .ret) .skip)
def A135L3:ACode:=(.seq (.reg [Zb 33 .lss 32 31] []) (.seq (.cond (Zt 33) .skip (.exit 0)) (.seq (.blk 1 (.seq (.reg [Zx 34 1 30 32,Zl 35 34,Zm 9 35] []) (.seq (.seq (.reg [Zm 36 9,Za 37 1 2,Zl 38 37,Zk 39 38,Zd 40 .sub 39 1,Zo 41 (.call 132 [(Zt 36),(.c (.i 0)),(Zt 40)]),Zo 42 (.un .not (Zt 41))] []) (.cond (Zt 42) (.seq (.reg [Zo 4 (.mv (.c (.lst .u 1 []))),Zo 5 (.mv (.c (.b false)))] [.s 4]) .ret) .skip)) (.seq (.reg [Za 43 1 2,Zl 44 43,Zm 45 9,Zx 46 4 44 45,Zo 47 (.load 4 true (Zt 46)),Zm 48 7,Zo 49 (.call 185 [(Zt 47),(Zt 48)]),Zm 7 49] []) (.seq (.seqr (.reg [Zm 50 7,Zd 51 .lss 50 0,Zm 52 51,⟨(some 53),.mv (Zt 6),(some (52,false))⟩,⟨(some 54),.mv (Zt 7),(some (52,false))⟩,⟨(some 55),.call 84 [(Zt 53),(Zt 54)],(some (52,false))⟩,Zo 56 (.pick (Zt 52) (.c (.b true)) (Zt 55))] []) [2,6,7,30,31,32,56] [2,6] A135R2) (.reg [Zm 57 6,Zm 58 7,Zo 59 (.bsl 1 false [(Zt 58)]),Zo 60 (.app 1 8 true (Zt 57) (Zt 59)),Zm 6 60] [.s 6])))))) (.reg [Zd 61 .add 32 1,Zm 32 61] []))))
def A135R4:ACode:=(.seq (.reg [Zm 62 6,Zm 4 62,Zo 5 (.mv (.c (.b true)))] [.s 4]) .ret)
def A135:ACode:=(.seq (.reg [Zo 2 (.box 2 (Zt 0)),Zo 3 (.box 2 (Zt 1)),Zo 4 (.mv (.c (.lst .u 1 []))),Zo 5 (.mv (.c (.b false)))] [.s 4]) (.seq (.seqr (.reg [Za 10 0 3,Zl 11 10,Za 12 0 2,Zl 13 12,Zk 14 13,Zd 15 .sub 14 1,Zo 16 (.call 132 [(Zt 11),(.c (.i 0)),(Zt 15)]),Zo 17 (.un .not (Zt 16)),Zm 18 17,⟨(some 19),.fad 1 (Zt 3),(some (18,false))⟩,⟨(some 20),.load 1 false (Zt 19),(some (18,false))⟩,⟨(some 21),.len (Zt 20),(some (18,false))⟩,⟨(some 22),.bin .eql (Zt 21) (.c (.i 0)),(some (18,false))⟩,Zo 23 (.pick (Zt 18) (.c (.b true)) (Zt 22))] []) [2,3,23] [2,3] A135R1) (.seq (.drw [Za 24 0 3,Zl 25 24,Zo 26 (.bsl 1 true [(Zt 25)]),Za 27 0 3,Zl 28 27,Zm 6 26,Zm 7 28] [.s 6]) (.seqa (.reg [Za 29 1 3,Zl 30 29,Zk 31 30,Zn 32 0] []) (.blk 0 (.loop A135L3)) [6] [6] A135R4))))
def V135:List RV:=[.t 4,.t 5]
theorem m135:mtcF Tryz.prog 135 2 A135 V135=true:=by kernel_rfl
def A183:ACode:=(.seq (.reg [Zo 1 (.box 2 (Zt 0)),Zo 2 (.mv (.c (.b false)))] []) (.seq (.reg [Za 3 0 1,Zl 4 3,Zd 5 .geq 4 0,Zm 6 5,⟨(some 7),.fad 1 (Zt 1),(some (6,true))⟩,⟨(some 8),.load 1 false (Zt 7),(some (6,true))⟩,⟨(some 9),.call 132 [(Zt 8),(.c (.i 1)),(.c (.i 24))],(some (6,true))⟩,Zo 10 (.pick (Zt 6) (Zt 9) (.c (.b false))),Zm 11 10,⟨(some 12),.fad 0 (Zt 1),(some (11,true))⟩,⟨(some 13),.load 1 false (Zt 12),(some (11,true))⟩,⟨(some 14),.fad 1 (Zt 1),(some (11,true))⟩,⟨(some 15),.load 1 false (Zt 14),(some (11,true))⟩,⟨(some 16),.bin .sub (.c (.i 24)) (Zt 15),(some (11,true))⟩,⟨(some 17),.bin .leq (Zt 13) (Zt 16),(some (11,true))⟩,Zo 18 (.pick (Zt 11) (Zt 17) (.c (.b false))),Zm 2 18] []) .ret))
def V183:List RV:=[.t 2]
theorem m183:mtcF Tryz.prog 183 1 A183 V183=true:=by kernel_rfl
def A129:ACode:=(.seq (.reg [Zo 2 (.box 2 (Zt 0)),Zo 3 (.box 5 (Zt 1)),Zo 4 (.mv (.c (.b false)))] []) (.seq (.reg [Zo 8 (.load 2 true (Zt 2)),Za 9 1 3,Zo 10 (.load 2 true (Zt 9)),Zo 11 (.call 135 [(Zt 8),(Zt 10)]),Zm 7 11,Ze 12 7 0,Ze 13 7 1,Zm 5 12,Zm 6 13] [.s 5]) (.seq (.reg [Zm 14 6,Zm 15 14,⟨(some 16),.fad 0 (Zt 3),(some (15,true))⟩,⟨(some 17),.load 1 false (Zt 16),(some (15,true))⟩,⟨(some 18),.call 132 [(Zt 17),(.c (.i 1)),(.c (.i 999))],(some (15,true))⟩,Zo 19 (.pick (Zt 15) (Zt 18) (.c (.b false))),Zm 20 19,⟨(some 21),.fad 3 (Zt 3),(some (20,true))⟩,⟨(some 22),.load 2 true (Zt 21),(some (20,true))⟩,⟨(some 23),.call 183 [(Zt 22)],(some (20,true))⟩,Zo 24 (.pick (Zt 20) (Zt 23) (.c (.b false))),Zm 4 24] []) .ret)))
def V129:List RV:=[.t 4]
theorem m129:mtcF Tryz.prog 129 2 A129 V129=true:=by kernel_rfl
def A184:ACode:=(.seq (.reg [Zo 1 (.box 2 (Zt 0)),Zn 2 0] []) (.seq (.drw [Za 3 1 1,Zl 4 3,Zo 5 (.bin .shl (.c (.i 1)) (Zt 4)),Zd 6 .sub 5 1,Za 7 0 1,Zl 8 7,Zb 9 .shl 6 8,Zm 2 9] []) .ret))
def V184:List RV:=[.t 2]
theorem m184:mtcF Tryz.prog 184 1 A184 V184=true:=by kernel_rfl
def A112M1L1:ACode:=(.seq (.seq (.reg [Zm 29 5,Zm 30 4,Zk 31 30,Zb 32 .lss 29 31] []) (.cond (Zt 32) .skip (.exit 2))) (.seq (.blk 3 (.seq (.drw [Zm 35 4,Zm 36 5,Zx 37 1 35 36,Zl 38 37,Zm 39 4,Zm 40 5,Zd 41 .sub 40 1,Zx 42 1 39 41,Zl 43 42,Zb 44 .neq 38 43] []) (.cond (Zt 44) (.seq (.reg [Zm 45 0,Zm 46 3,Zm 47 4,Zm 48 5,Zx 49 1 47 48,Zl 50 49,Zx 51 1 45 46,⟨none,.store 1 (Zt 51) (Zt 50),none⟩] []) (.reg [Zm 52 3,Zd 53 .add 52 1,Zm 3 53] [])) .skip))) (.reg [Zm 33 5,Zd 34 .add 33 1,Zm 5 34] [])))
def A112M1R2:ACode:=(.seq (.reg [Zm 54 0,Zm 55 3,Zo 56 (.slc 1 (Zt 54) (some (Zt 55)) none none),⟨none,.clr 1 (.i 0) (Zt 56),none⟩] []) (.seq (.reg [Zm 57 0,Zm 58 3,Zo 59 (.slc 1 (Zt 57) none (some (Zt 58)) none),Zm 2 59] [.s 2]) .ret))
def A112M1L3:ACode:=(.seq (.seq (.reg [Zm 10 3,Zm 11 0,Zk 12 11,Zb 13 .lss 10 12] []) (.cond (Zt 13) .skip (.exit 0))) (.seq (.blk 1 (.seq (.drw [Zm 16 0,Zm 17 3,Zx 18 1 16 17,Zl 19 18,Zm 20 0,Zm 21 3,Zd 22 .sub 21 1,Zx 23 1 20 22,Zl 24 23,Zb 25 .eql 19 24] []) (.cond (Zt 25) (.seq (.reg [Zm 26 0,Zm 27 3,Zo 28 (.slc 1 (Zt 26) (some (Zt 27)) none none),Zm 4 28] [.s 4]) (.seqa (.reg [Zn 5 1] []) (.blk 2 (.loop A112M1L1)) [0,3] [1000000000] A112M1R2)) .skip))) (.reg [Zm 14 3,Zd 15 .add 14 1,Zm 3 15] [])))
def A112M1R4:ACode:=(.seq (.reg [Zm 60 0,Zm 2 60] [.s 2]) .ret)
def A112M1:ACode:=(.seq (.reg [Zo 2 (.mv (.c (.lst .u 1 [])))] [.s 2]) (.seq (.seq (.reg [Zm 6 0,Zk 7 6,Zd 8 .lss 7 2] []) (.cond (Zt 8) (.seq (.reg [Zm 9 0,Zm 2 9] [.s 2]) .ret) .skip)) (.seqa (.reg [Zn 3 1] []) (.blk 0 (.loop A112M1L3)) [0] [1000000000] A112M1R4)))
def V112M1:List RV:=[.t 2]
theorem m112M1:mtcF Tryz.prog 112 1 A112M1 V112M1=true:=by kernel_rfl
def A68L1:ACode:=(.seq (.reg [Zb 12 .lss 11 10] []) (.seq (.cond (Zt 12) .skip (.exit 0)) (.seq (.blk 1 (.seq (.reg [Zx 13 1 9 11,Zl 14 13,Zm 7 14] []) (.seq (.reg [Zm 15 1,Zm 16 7,Zo 17 (.call 84 [(Zt 15),(Zt 16)])] []) (.cond (Zt 17) (.reg [Zm 18 5,Zm 19 7,Zo 20 (.bsl 1 false [(Zt 19)]),Zo 21 (.app 1 8 true (Zt 18) (Zt 20)),Zm 5 21] [.s 5]) .skip)))) (.reg [Zd 22 .add 11 1,Zm 11 22] []))))
def A68R2:ACode:=(.seq (.reg [Zm 23 5,Zo 24 (.callM 111 [(Zt 23)] [5])] []) (.seq (.reg [Zm 25 5,Zo 26 (.callM 112 [(Zt 25)] [5]),Zm 4 26] [.s 4]) .ret))
def A68:ACode:=(.seq (.reg [Zo 4 (.mv (.c (.lst .u 1 [])))] [.s 4]) (.seq (.reg [Zo 8 (.bsl 1 false []),Zm 5 8] [.s 5]) (.seqa (.reg [Zm 9 0,Zk 10 9,Zn 11 0] []) (.blk 0 (.loop A68L1)) [5] [5] A68R2)))
def V68:List RV:=[.t 4]
theorem m68:mtcF Tryz.prog 68 2 A68 V68=true:=by kernel_rfl
def A131:ACode:=(.seq (.reg [Zo 2 (.box 5 (Zt 0)),Zo 3 (.box 5 (Zt 1)),Zo 4 (.mv (.c (.b false)))] []) (.seq (.drw [Za 5 3 2,Zo 6 (.load 2 true (Zt 5)),Zo 7 (.call 184 [(Zt 6)]),Za 8 3 3,Zo 9 (.load 2 true (Zt 8)),Zo 10 (.call 184 [(Zt 9)]),Zb 11 .and 7 10,Zd 12 .neq 11 0,Zm 13 12,⟨(some 14),.fad 1 (Zt 2),(some (13,true))⟩,⟨(some 15),.fad 1 (Zt 14),(some (13,true))⟩,⟨(some 16),.load 1 false (Zt 15),(some (13,true))⟩,⟨(some 17),.fad 1 (Zt 3),(some (13,true))⟩,⟨(some 18),.fad 1 (Zt 17),(some (13,true))⟩,⟨(some 19),.load 1 false (Zt 18),(some (13,true))⟩,⟨(some 20),.call 68 [(Zt 16),(Zt 19)],(some (13,true))⟩,⟨(some 21),.len (Zt 20),(some (13,true))⟩,⟨(some 22),.bin .gtr (Zt 21) (.c (.i 0)),(some (13,true))⟩,Zo 23 (.pick (Zt 13) (Zt 22) (.c (.b false))),Zm 4 23] []) .ret))
def V131:List RV:=[.t 4]
theorem m131:mtcF Tryz.prog 131 2 A131 V131=true:=by kernel_rfl
def A130:ACode:=(.seq (.reg [Zo 2 (.box 5 (Zt 0)),Zo 3 (.mv (.c (.b false)))] []) (.seq (.reg [Zo 4 (.load 5 true (Zt 2)),Zo 5 (.load 5 true (Zt 1)),Zo 6 (.call 131 [(Zt 4),(Zt 5)]),Zm 3 6] []) .ret))
def V130:List RV:=[.t 3]
theorem m130:mtcF Tryz.prog 130 2 A130 V130=true:=by kernel_rfl
def A133L1:ACode:=(.seq (.reg [Zb 9 .lss 8 7] []) (.seq (.cond (Zt 9) .skip (.exit 0)) (.seq (.blk 1 (.seq (.reg [Zm 10 8,Zm 5 10] []) (.seq (.reg [Zm 11 1,Zm 12 0,Zm 13 5,Zx 14 5 12 13,Zo 15 (.load 5 true (Zt 14)),Zo 16 (.dyn (Zt 11) [(Zt 15)])] []) (.cond (Zt 16) (.seq (.reg [Zm 17 5,Zm 4 17] []) .ret) .skip)))) (.reg [Zd 18 .add 8 1,Zm 8 18] []))))
def A133R2:ACode:=(.seq (.reg [Zn 4 (-1)] []) .ret)
def A133:ACode:=(.seq (.reg [Zn 4 0] []) (.seqa (.reg [Zm 6 0,Zk 7 6,Zn 8 0] []) (.blk 0 (.loop A133L1)) [] [] A133R2))
def V133:List RV:=[.t 4]
theorem m133:mtcF Tryz.prog 133 2 A133 V133=true:=by kernel_rfl
def A65:ACode:=(.seq (.reg [Zo 4 (.mv (.c (.b false)))] []) (.seq (.reg [Zm 5 0,Zm 6 1,Zo 7 (.call 133 [(Zt 5),(Zt 6)]),Zd 8 .geq 7 0,Zm 4 8] []) .ret))
def V65:List RV:=[.t 4]
theorem m65:mtcF Tryz.prog 65 2 A65 V65=true:=by kernel_rfl
def A63R1:ACode:=(.cond (Zt 14) (.seq (.reg [Zo 2 (.mv (.c (.b false)))] []) .ret) .skip)
def A63L2:ACode:=(.seq (.reg [Zb 19 .lss 18 17] []) (.seq (.cond (Zt 19) .skip (.exit 0)) (.seq (.blk 1 (.seq (.reg [Zm 20 18,Zx 21 5 16 18,Zo 22 (.load 5 true (Zt 21)),Zo 4 (.alloc (.agg [.i 0,.i 0,.lst .u 1 [],.i 0,.i 0])),Zm 3 20,⟨none,.store 5 (Zt 4) (Zt 22),none⟩] []) (.seq (.drw [Za 23 0 1,Zo 24 (.load 2 true (Zt 23)),Zo 25 (.load 5 true (Zt 4)),Zo 26 (.call 129 [(Zt 24),(Zt 25)]),Zo 27 (.un .not (Zt 26)),Zm 28 27,⟨(some 29),.mv (Zt 3),(some (28,false))⟩,⟨(some 30),.bin .gtr (Zt 29) (.c (.i 0)),(some (28,false))⟩,⟨(some 31),.mv (Zt 30),(some (28,false))⟩,⟨(some 32),.fad 2 (Zt 1),(some (31,true))⟩,⟨(some 33),.load 1 false (Zt 32),(some (31,true))⟩,⟨(some 34),.mv (Zt 3),(some (31,true))⟩,⟨(some 35),.bin .sub (Zt 34) (.c (.i 1)),(some (31,true))⟩,⟨(some 36),.idx 5 (Zt 33) (Zt 35),(some (31,true))⟩,⟨(some 37),.fad 0 (Zt 36),(some (31,true))⟩,⟨(some 38),.load 1 false (Zt 37),(some (31,true))⟩,⟨(some 39),.fad 0 (Zt 4),(some (31,true))⟩,⟨(some 40),.load 1 false (Zt 39),(some (31,true))⟩,⟨(some 41),.bin .geq (Zt 38) (Zt 40),(some (31,true))⟩,⟨(some 42),.pick (Zt 31) (Zt 41) (.c (.b false)),(some (28,false))⟩,Zo 43 (.pick (Zt 28) (.c (.b true)) (Zt 42)),Zm 44 43,⟨(some 45),.fad 2 (Zt 1),(some (44,false))⟩,⟨(some 46),.load 1 false (Zt 45),(some (44,false))⟩,⟨(some 47),.mv (Zt 3),(some (44,false))⟩,⟨(some 48),.slc 5 (Zt 46) none (some (Zt 47)) none,(some (44,false))⟩,⟨(some 49),.mkf 130 [(Zt 4)],(some (44,false))⟩,⟨(some 50),.call 65 [(Zt 48),(Zt 49)],(some (44,false))⟩,Zo 51 (.pick (Zt 44) (.c (.b true)) (Zt 50))] []) (.cond (Zt 51) (.seq (.reg [Zo 2 (.mv (.c (.b false)))] []) .ret) .skip)))) (.reg [Zd 52 .add 18 1,Zm 18 52] []))))
def A63R3:ACode:=(.seq (.reg [Zo 2 (.mv (.c (.b true)))] []) .ret)
def A63:ACode:=(.seq (.reg [Zo 1 (.box 3 (Zt 0)),Zo 2 (.mv (.c (.b false)))] []) (.seq (.seqr (.reg [Za 5 0 1,Zo 6 (.load 2 true (Zt 5)),Zo 7 (.call 128 [(Zt 6)]),Zo 8 (.un .not (Zt 7)),Zm 9 8,⟨(some 10),.fad 2 (Zt 1),(some (9,false))⟩,⟨(some 11),.load 1 false (Zt 10),(some (9,false))⟩,⟨(some 12),.len (Zt 11),(some (9,false))⟩,⟨(some 13),.bin .gtr (Zt 12) (.c (.i 12)),(some (9,false))⟩,Zo 14 (.pick (Zt 9) (.c (.b true)) (Zt 13))] []) [1,14] [1] A63R1) (.seqa (.reg [Za 15 2 1,Zl 16 15,Zk 17 16,Zn 18 0] []) (.blk 0 (.loop A63L2)) [] [] A63R3)))
def V63:List RV:=[.t 2]
theorem m63:mtcF Tryz.prog 63 1 A63 V63=true:=by kernel_rfl
def A64L1:ACode:=(.seq (.reg [Zb 10 .lss 9 8] []) (.seq (.cond (Zt 10) .skip (.exit 0)) (.seq (.blk 1 (.seq (.reg [Zm 11 9,Zx 12 1 7 9,Zl 13 12,Zm 5 11,Zm 6 13] []) (.seq (.reg [Zm 14 6,Zm 15 1,Zd 16 .sub 15 1,Zo 17 (.call 132 [(Zt 14),(.c (.i 0)),(Zt 16)]),Zo 18 (.un .not (Zt 17)),Zm 19 18,⟨(some 20),.mv (Zt 5),(some (19,false))⟩,⟨(some 21),.bin .gtr (Zt 20) (.c (.i 0)),(some (19,false))⟩,⟨(some 22),.mv (Zt 21),(some (19,false))⟩,⟨(some 23),.mv (Zt 0),(some (22,true))⟩,⟨(some 24),.mv (Zt 5),(some (22,true))⟩,⟨(some 25),.bin .sub (Zt 24) (.c (.i 1)),(some (22,true))⟩,⟨(some 26),.idx 1 (Zt 23) (Zt 25),(some (22,true))⟩,⟨(some 27),.load 1 false (Zt 26),(some (22,true))⟩,⟨(some 28),.mv (Zt 6),(some (22,true))⟩,⟨(some 29),.bin .geq (Zt 27) (Zt 28),(some (22,true))⟩,⟨(some 30),.pick (Zt 22) (Zt 29) (.c (.b false)),(some (19,false))⟩,Zo 31 (.pick (Zt 19) (.c (.b true)) (Zt 30))] []) (.cond (Zt 31) (.seq (.reg [Zo 4 (.mv (.c (.b false)))] []) .ret) .skip)))) (.reg [Zd 32 .add 9 1,Zm 9 32] []))))
def A64R2:ACode:=(.seq (.reg [Zo 4 (.mv (.c (.b true)))] []) .ret)
def A64:ACode:=(.seq (.reg [Zo 4 (.mv (.c (.b false)))] []) (.seqa (.reg [Zm 7 0,Zk 8 7,Zn 9 0] []) (.blk 0 (.loop A64L1)) [] [] A64R2))
def V64:List RV:=[.t 4]
theorem m64:mtcF Tryz.prog 64 2 A64 V64=true:=by kernel_rfl
def A134:ACode:=(.seq (.reg [Zo 2 (.box 5 (Zt 0)),Zo 3 (.mv (.c (.b false)))] []) (.seq (.reg [Za 4 0 2,Zl 5 4,Zl 6 1,Zb 7 .eql 5 6,Zm 3 7] []) .ret))
def V134:List RV:=[.t 3]
theorem m134:mtcF Tryz.prog 134 2 A134 V134=true:=by kernel_rfl
def A67:ACode:=(.seq (.reg [Zo 2 (.box 5 (Zt 0)),Zo 3 (.box 1 (Zt 1)),Zn 4 0] []) (.seq (.reg [Za 5 3 2,Zl 6 5,Zo 7 (.mkf 134 [(Zt 3)]),Zo 8 (.call 133 [(Zt 6),(Zt 7)]),Zm 4 8] []) .ret))
def V67:List RV:=[.t 4]
theorem m67:mtcF Tryz.prog 67 2 A67 V67=true:=by kernel_rfl
def A69:ACode:=(.seq (.reg [Zo 2 (.box 2 (Zt 0)),Zo 3 (.box 2 (Zt 1)),Zn 4 0] []) (.seq (.reg [Zo 8 (.load 2 true (Zt 2)),Zo 9 (.load 2 true (Zt 3)),Zo 10 (.call 135 [(Zt 8),(Zt 9)]),Zm 7 10,Ze 11 7 0,Ze 12 7 1,Zm 5 11,Zm 6 12] [.s 5]) (.seq (.reg [Zm 13 5,Zm 14 5,Zk 15 14,Zd 16 .sub 15 1,Zx 17 1 13 16,Zl 18 17,Zm 4 18] []) .ret)))
def V69:List RV:=[.t 4]
theorem m69:mtcF Tryz.prog 69 2 A69 V69=true:=by kernel_rfl
def A66R1:ACode:=(.cond (Zt 22) (.seq (.reg [Zo 4 (.mv (.c (.b true)))] []) .ret) .skip)
def A66:ACode:=(.seq (.reg [Zo 3 (.box 5 (Zt 0)),Zo 4 (.mv (.c (.b false)))] []) (.seq (.reg [Zo 7 (.load 5 true (Zt 1)),Za 8 0 3,Zl 9 8,Zo 10 (.call 67 [(Zt 7),(Zt 9)]),Zm 5 10] []) (.seq (.seqr (.reg [Zm 11 5,Zd 12 .lss 11 0,Zm 13 12,⟨(some 14),.fad 1 (Zt 3),(some (13,false))⟩,⟨(some 15),.fad 1 (Zt 14),(some (13,false))⟩,⟨(some 16),.load 1 false (Zt 15),(some (13,false))⟩,⟨(some 17),.fad 4 (Zt 1),(some (13,false))⟩,⟨(some 18),.load 1 false (Zt 17),(some (13,false))⟩,⟨(some 19),.call 68 [(Zt 16),(Zt 18)],(some (13,false))⟩,⟨(some 20),.len (Zt 19),(some (13,false))⟩,⟨(some 21),.bin .gtr (Zt 20) (.c (.i 0)),(some (13,false))⟩,Zo 22 (.pick (Zt 13) (.c (.b true)) (Zt 21))] []) [1,2,3,5,22] [3] A66R1) (.seq (.reg [Za 23 3 1,Zl 24 23,Zm 25 5,Zx 26 5 24 25,Zo 27 (.load 5 true (Zt 26)),Zo 6 (.alloc (.agg [.i 0,.i 0,.lst .u 1 [],.i 0,.i 0])),⟨none,.store 5 (Zt 6) (Zt 27),none⟩] []) (.seq (.drw [Za 28 1 6,Za 29 0 28,Zl 30 29,Za 31 1 3,Za 32 0 31,Zl 33 32,Zb 34 .neq 30 33,Zm 35 34,⟨(some 36),.load 2 true (Zt 2),(some (35,false))⟩,⟨(some 37),.fad 1 (Zt 6),(some (35,false))⟩,⟨(some 38),.load 2 true (Zt 37),(some (35,false))⟩,⟨(some 39),.call 69 [(Zt 36),(Zt 38)],(some (35,false))⟩,⟨(some 40),.load 2 true (Zt 2),(some (35,false))⟩,⟨(some 41),.fad 1 (Zt 3),(some (35,false))⟩,⟨(some 42),.load 2 true (Zt 41),(some (35,false))⟩,⟨(some 43),.call 69 [(Zt 40),(Zt 42)],(some (35,false))⟩,⟨(some 44),.bin .neq (Zt 39) (Zt 43),(some (35,false))⟩,Zo 45 (.pick (Zt 35) (.c (.b true)) (Zt 44)),Zm 46 45,⟨(some 47),.fad 3 (Zt 6),(some (46,false))⟩,⟨(some 48),.fad 1 (Zt 47),(some (46,false))⟩,⟨(some 49),.load 1 false (Zt 48),(some (46,false))⟩,⟨(some 50),.fad 3 (Zt 3),(some (46,false))⟩,⟨(some 51),.fad 1 (Zt 50),(some (46,false))⟩,⟨(some 52),.load 1 false (Zt 51),(some (46,false))⟩,⟨(some 53),.bin .neq (Zt 49) (Zt 52),(some (46,false))⟩,Zo 54 (.pick (Zt 46) (.c (.b true)) (Zt 53)),Zm 4 54] []) .ret)))))
def V66:List RV:=[.t 4]
theorem m66:mtcF Tryz.prog 66 3 A66 V66=true:=by kernel_rfl
def A16R1:ACode:=(.cond (Zt 27) (.seq (.reg [Zo 2 (.mv (.c (.b false)))] []) .ret) .skip)
def A16:ACode:=(.seq (.reg [Zo 1 (.box 5 (Zt 0)),Zo 2 (.mv (.c (.b false)))] []) (.seq (.reg [Za 4 0 1,Za 5 0 4,Zo 6 (.load 2 true (Zt 5)),Zo 3 (.alloc (.agg [.lst .u 1 [],.lst .u 4 []])),⟨none,.store 2 (Zt 3) (Zt 6),none⟩] []) (.seq (.seqr (.reg [Za 7 0 1,Zo 8 (.load 3 true (Zt 7)),Zo 9 (.call 63 [(Zt 8)]),Zo 10 (.un .not (Zt 9)),Zm 11 10,⟨(some 12),.load 2 true (Zt 3),(some (11,false))⟩,⟨(some 13),.fad 3 (Zt 1),(some (11,false))⟩,⟨(some 14),.load 1 false (Zt 13),(some (11,false))⟩,⟨(some 15),.build [.lst .u 1 [],.lst .u 4 [],.lst .u 5 []] [(0,2,(Zt 12)),(2,1,(Zt 14))],(some (11,false))⟩,⟨(some 16),.call 63 [(Zt 15)],(some (11,false))⟩,⟨(some 17),.un .not (Zt 16),(some (11,false))⟩,Zo 18 (.pick (Zt 11) (.c (.b true)) (Zt 17)),Zm 19 18,⟨(some 20),.fad 4 (Zt 1),(some (19,false))⟩,⟨(some 21),.load 1 false (Zt 20),(some (19,false))⟩,⟨(some 22),.fad 1 (Zt 3),(some (19,false))⟩,⟨(some 23),.load 1 false (Zt 22),(some (19,false))⟩,⟨(some 24),.len (Zt 23),(some (19,false))⟩,⟨(some 25),.call 64 [(Zt 21),(Zt 24)],(some (19,false))⟩,⟨(some 26),.un .not (Zt 25),(some (19,false))⟩,Zo 27 (.pick (Zt 19) (.c (.b true)) (Zt 26))] []) [1,3,27] [1,3] A16R1) (.seq (.reg [Za 28 0 1,Za 29 2 28,Zl 30 29,Zo 31 (.mkf 66 [(Zt 1),(Zt 3)]),Zo 32 (.call 65 [(Zt 30),(Zt 31)]),Zo 33 (.un .not (Zt 32)),Zm 2 33] []) .ret))))
def V16:List RV:=[.t 2]
theorem m16:mtcF Tryz.prog 16 1 A16 V16=true:=by kernel_rfl
def A81:ACode:=(.seq (.reg [Zo 2 (.box 5 (Zt 0)),Zo 4 (.mv (.c (.b false)))] []) (.seq (.reg [Zo 5 (.load 5 true (Zt 2)),Zo 6 (.call 16 [(Zt 5)]),Zm 7 6,⟨(some 8),.mv (Zt 1),(some (7,true))⟩,⟨(some 9),.fad 0 (Zt 2),(some (7,true))⟩,⟨(some 10),.fad 0 (Zt 9),(some (7,true))⟩,⟨(some 11),.fad 1 (Zt 10),(some (7,true))⟩,⟨(some 12),.load 1 false (Zt 11),(some (7,true))⟩,⟨(some 13),.len (Zt 12),(some (7,true))⟩,⟨(some 14),.call 64 [(Zt 8),(Zt 13)],(some (7,true))⟩,Zo 15 (.pick (Zt 7) (Zt 14) (.c (.b false))),Zm 4 15] []) .ret))
def V81:List RV:=[.t 4]
theorem m81:mtcF Tryz.prog 81 2 A81 V81=true:=by kernel_rfl
def A157:ACode:=(.seq (.reg [Zo 1 (.box 2 (Zt 0)),Zo 2 (.alloc (.agg [.lst .u 1 [],.lst .u 4 []]))] []) (.seq (.drw [Zo 3 (.bsl 1 true []),Za 4 0 1,Zl 5 4,Zo 6 (.app 1 16 false (Zt 3) (Zt 5)),Zo 7 (.bsl 4 true []),Za 8 1 1,Zl 9 8,Zo 10 (.app 4 32 false (Zt 7) (Zt 9)),Zo 11 (.build [.lst .u 1 [],.lst .u 4 []] [(0,1,(Zt 6)),(1,1,(Zt 10))]),⟨none,.store 2 (Zt 2) (Zt 11),none⟩] []) .ret))
def V157:List RV:=[.c 2 2 true]
theorem m157:mtcF Tryz.prog 157 1 A157 V157=true:=by kernel_rfl
def A108:ACode:=(.seq (.reg [Zo 1 (.box 2 (Zt 0)),Zo 2 (.alloc (.agg [.i 0,.lst .u 1 []]))] []) (.seq (.drw [Za 3 0 1,Zl 4 3,Zo 5 (.bsl 1 true []),Za 6 1 1,Zl 7 6,Zo 8 (.app 1 8 false (Zt 5) (Zt 7)),Zo 9 (.build [.i 0,.lst .u 1 []] [(0,1,(Zt 4)),(1,1,(Zt 8))]),⟨none,.store 2 (Zt 2) (Zt 9),none⟩] []) .ret))
def V108:List RV:=[.c 2 2 true]
theorem m108:mtcF Tryz.prog 108 1 A108 V108=true:=by kernel_rfl
def A98L1:ACode:=(.seq (.reg [Zb 14 .lss 13 12] []) (.seq (.cond (Zt 14) .skip (.exit 0)) (.seq (.blk 1 (.seq (.reg [Zx 15 5 11 13,Zo 16 (.load 5 true (Zt 15)),Zo 5 (.alloc (.agg [.i 0,.i 0,.lst .u 1 [],.i 0,.i 0])),⟨none,.store 5 (Zt 5) (Zt 16),none⟩] [.f false 500000322 5 2]) (.drw [Zo 17 (.fdv [] 2 (Zt 3)),Zo 18 (.ldv [] 1 false (Zt 17)),Za 19 0 5,Zl 20 19,Za 21 1 5,Zo 22 (.load 2 true (Zt 21)),Zo 23 (.call 108 [(Zt 22)]),Za 24 3 5,Zo 25 (.load 2 true (Zt 24)),Zo 26 (.build [.i 0,.i 0,.lst .u 1 [],.i 0,.i 0] [(0,1,(Zt 20)),(1,2,(Zt 23)),(3,2,(Zt 25))]),Zo 27 (.bsm 5 [(Zt 26)]),Zo 28 (.app 5 56 true (Zt 18) (Zt 27)),Za 29 2 3,⟨none,.store 1 (Zt 29) (Zt 28),none⟩] [.f false 500000194 3 2]))) (.reg [Zd 30 .add 13 1,Zm 13 30] []))))
def A98R2:ACode:=(.seq (.reg [Zo 31 (.load 3 true (Zt 3)),⟨none,.store 3 (Zt 2) (Zt 31),none⟩] [.f false 500000128 2 0,.f false 500000129 2 1,.f false 500000130 2 2]) .ret)
def A98:ACode:=(.seq (.reg [Zo 1 (.box 3 (Zt 0)),Zo 2 (.alloc (.agg [.lst .u 1 [],.lst .u 4 [],.lst .u 5 []]))] []) (.seq (.reg [Za 6 0 1,Zo 7 (.load 2 true (Zt 6)),Zo 8 (.call 157 [(Zt 7)]),Zo 9 (.build [.lst .u 1 [],.lst .u 4 [],.lst .u 5 []] [(0,2,(Zt 8))]),Zo 3 (.alloc (.agg [.lst .u 1 [],.lst .u 4 [],.lst .u 5 []])),⟨none,.store 3 (Zt 3) (Zt 9),none⟩] [.f false 500000192 3 0,.f false 500000193 3 1,.f false 500000194 3 2]) (.seqa (.reg [Za 10 2 1,Zl 11 10,Zk 12 11,Zn 13 0] []) (.blk 0 (.loop A98L1)) [2,3] [2,3,500000192,500000193,500000194] A98R2)))
def V98:List RV:=[.c 2 3 true]
theorem m98:mtcF Tryz.prog 98 1 A98 V98=true:=by kernel_rfl
def A142:ACode:=(.seq (.reg [Zo 2 (.mv (.c (.lst .u 1 [])))] [.s 2]) (.seq (.reg [Zo 3 (.bsl 1 false []),Zm 4 0,Zo 5 (.app 1 8 false (Zt 3) (Zt 4)),Zm 2 5] [.s 2]) .ret))
def V142:List RV:=[.t 2]
theorem m142:mtcF Tryz.prog 142 1 A142 V142=true:=by kernel_rfl
def A77:ACode:=(.seq (.reg [Zo 1 (.box 5 (Zt 0)),Zo 2 (.alloc (.agg [.lst .u 1 [],.lst .u 4 [],.lst .u 5 [],.lst .u 5 [],.lst .u 1 []]))] []) (.seq (.drw [Za 3 0 1,Zo 4 (.load 3 true (Zt 3)),Zo 5 (.call 98 [(Zt 4)]),Za 6 3 1,Zl 7 6,Zo 8 (.build [.lst .u 1 [],.lst .u 4 [],.lst .u 5 []] [(2,1,(Zt 7))]),Zo 9 (.call 98 [(Zt 8)]),Zo 10 (.fld 2 1 false (Zt 9)),Za 11 4 1,Zl 12 11,Zo 13 (.call 142 [(Zt 12)]),Zo 14 (.build [.lst .u 1 [],.lst .u 4 [],.lst .u 5 [],.lst .u 5 [],.lst .u 1 []] [(0,3,(Zt 5)),(3,1,(Zt 10)),(4,1,(Zt 13))]),⟨none,.store 5 (Zt 2) (Zt 14),none⟩] []) .ret))
def V77:List RV:=[.c 2 5 true]
theorem m77:mtcF Tryz.prog 77 1 A77 V77=true:=by kernel_rfl
def A170M1:ACode:=(.seq (.reg [Zo 4 (.mv (.c (.lst .u 1 [])))] [.s 4]) (.seq (.seq (.reg [Zm 5 1,Zd 6 .lss 5 0] []) (.cond (Zt 6) (.reg [Zo 7 (.bad),⟨none,.bad,none⟩] []) .skip)) (.seq (.seq (.reg [Zm 8 1,Zm 9 0,Zo 10 (.capn (Zt 9)),Zm 11 0,Zk 12 11,Zb 13 .sub 10 12,Zb 14 .sub 8 13,Zm 1 14] []) (.seq (.reg [Zm 15 1,Zd 16 .gtr 15 0] []) (.cond (Zt 16) (.reg [Zm 17 0,Zm 18 0,Zo 19 (.capn (Zt 18)),Zo 20 (.slg 1 (Zt 17) (Zt 19)),Zm 21 1,Zo 22 (.apz 1 (.i 0) 8 (Zt 20) (Zt 21)),Zm 23 0,Zk 24 23,Zo 25 (.slc 1 (Zt 22) none (some (Zt 24)) none),Zm 0 25] [.s 0]) .skip))) (.seq (.reg [Zm 26 0,Zm 4 26] [.s 4]) .ret))))
def V170M1:List RV:=[.t 4]
theorem m170M1:mtcF Tryz.prog 170 2 A170M1 V170M1=true:=by kernel_rfl
def A110L1:ACode:=(.seq (.reg [Zb 12 .lss 11 10] []) (.seq (.cond (Zt 12) .skip (.exit 0)) (.seq (.blk 1 (.seq (.reg [Zx 13 1 9 11,Zl 14 13,Zm 5 14] [.s 5]) (.seq (.reg [Zm 15 3,Zm 16 5,Zk 17 16,Zb 18 .add 15 17,Zm 3 18] []) (.seq (.reg [Zm 19 3,Zd 20 .lss 19 0] []) (.cond (Zt 20) (.reg [Zo 21 (.bad),⟨none,.bad,none⟩] []) .skip))))) (.reg [Zd 22 .add 11 1,Zm 11 22] []))))
def A110L3:ACode:=(.seq (.reg [Zb 28 .lss 27 26] []) (.seq (.cond (Zt 28) .skip (.exit 2)) (.seq (.blk 3 (.seq (.reg [Zx 29 1 25 27,Zl 30 29,Zm 8 30] [.s 8]) (.reg [Zm 31 6,Zm 32 8,Zo 33 (.app 1 8 false (Zt 31) (Zt 32)),Zm 6 33] [.s 6]))) (.reg [Zd 34 .add 27 1,Zm 27 34] []))))
def A110R4:ACode:=(.seq (.reg [Zm 35 6,Zm 2 35] [.s 2]) .ret)
def A110R2:ACode:=(.seq (.reg [Zm 23 3,Zo 24 (.callM 170 [(.c (.lst .u 1 [])),(Zt 23)] []),Zm 6 24] [.s 6]) (.seqa (.reg [Zm 25 0,Zk 26 25,Zn 27 0] []) (.blk 2 (.loop A110L3)) [6] [6] A110R4))
def A110:ACode:=(.seq (.reg [Zo 2 (.mv (.c (.lst .u 1 [])))] [.s 2]) (.seq (.reg [Zn 3 0] []) (.seqa (.reg [Zm 9 0,Zk 10 9,Zn 11 0] []) (.blk 0 (.loop A110L1)) [0,3] [] A110R2)))
def V110:List RV:=[.t 2]
theorem m110:mtcF Tryz.prog 110 1 A110 V110=true:=by kernel_rfl
def A114M1:ACode:=(.seq (.reg [Zo 3 (.box 5 (Zt 0)),Zo 4 (.mv (.c (.b false)))] [.f true 470000064 1000000001 0]) (.seq (.reg [Za 6 1 3,Za 7 1 6,Zl 8 7,Zl 9 1,Zo 10 (.call 68 [(Zt 8),(Zt 9)]),Zk 11 10,Zd 12 .gtr 11 0,Zm 5 12] []) (.seq (.seq (.reg [Zm 13 5] []) (.cond (Zt 13) (.reg [Zl 14 2,Za 15 0 3,Zl 16 15,Zo 17 (.bsl 1 false [(Zt 16)]),Zo 18 (.app 1 8 true (Zt 14) (Zt 17)),⟨none,.store 1 (Zt 2) (Zt 18),none⟩] [.f true 470000064 1000000001 0]) .skip)) (.seq (.reg [Zm 19 5,Zm 4 19] []) .ret))))
def V114M1:List RV:=[.t 4]
theorem m114M1:mtcF Tryz.prog 114 3 A114M1 V114M1=true:=by kernel_rfl
def A133M1L1:ACode:=(.seq (.reg [Zb 9 .lss 8 7] []) (.seq (.cond (Zt 9) .skip (.exit 0)) (.seq (.blk 1 (.seq (.reg [Zm 10 8,Zm 5 10] []) (.seq (.reg [Zm 11 1,Zm 12 0,Zm 13 5,Zx 14 5 12 13,Zo 15 (.load 5 true (Zt 14)),Zo 16 (.dynM (Zt 11) [(Zt 15)] [1000000001,1000000002,470000128])] [.f true 470000128 1000000002 0]) (.cond (Zt 16) (.seq (.reg [Zm 17 5,Zm 4 17] []) .ret) .skip)))) (.reg [Zd 18 .add 8 1,Zm 8 18] []))))
def A133M1R2:ACode:=(.seq (.reg [Zn 4 (-1)] []) .ret)
def A133M1:ACode:=(.seq (.reg [Zn 4 0] [.f true 470000128 1000000002 0]) (.seqa (.reg [Zm 6 0,Zk 7 6,Zn 8 0] []) (.blk 0 (.loop A133M1L1)) [] [470000128,1000000000,1000000001,1000000002] A133M1R2))
def V133M1:List RV:=[.t 4]
theorem m133M1:mtcF Tryz.prog 133 2 A133M1 V133M1=true:=by kernel_rfl
def A113M1L1:ACode:=(.seq (.seq (.reg [Zm 16 6,Zm 17 0,Zk 18 17,Zb 19 .lss 16 18] []) (.cond (Zt 19) .skip (.exit 0))) (.seq (.blk 1 (.seq (.reg [Zm 22 0,Zm 23 6,Zx 24 5 22 23,Zo 25 (.load 5 true (Zt 24)),Zo 7 (.alloc (.agg [.i 0,.i 0,.lst .u 1 [],.i 0,.i 0])),⟨none,.store 5 (Zt 7) (Zt 25),none⟩] []) (.seq (.reg [Zm 26 1,Zo 27 (.load 5 true (Zt 7)),Zo 28 (.dynM (Zt 26) [(Zt 27)] [1000000001,1000000002,470000128]),Zo 29 (.un .not (Zt 28))] [.f true 470000128 1000000002 0]) (.cond (Zt 29) (.seq (.reg [Zm 30 0,Zm 31 5,Zo 32 (.load 5 true (Zt 7)),Zx 33 5 30 31,⟨none,.store 5 (Zt 33) (Zt 32),none⟩] []) (.reg [Zm 34 5,Zd 35 .add 34 1,Zm 5 35] [])) .skip)))) (.reg [Zm 20 6,Zd 21 .add 20 1,Zm 6 21] [])))
def A113M1R2:ACode:=(.seq (.reg [Zm 36 0,Zm 37 5,Zo 38 (.slc 5 (Zt 36) (some (Zt 37)) none none),⟨none,.clr 5 (.agg [.i 0,.i 0,.sc (.slice none 0 0),.i 0,.i 0]) (Zt 38),none⟩] []) (.seq (.reg [Zm 39 0,Zm 40 5,Zo 41 (.slc 5 (Zt 39) none (some (Zt 40)) none),Zm 4 41] [.r 4]) .ret))
def A113M1:ACode:=(.seq (.reg [Zo 4 (.mv (.c (.lst .u 5 [])))] [.r 4,.f true 470000128 1000000002 0]) (.seq (.reg [Zm 8 0,Zm 9 1,Zo 10 (.callM 133 [(Zt 8),(Zt 9)] [1000000000,1000000001,1000000002,470000128]),Zm 5 10] [.f true 470000128 1000000002 0]) (.seq (.seq (.reg [Zm 11 5,Zd 12 .eql 11 (-1)] []) (.cond (Zt 12) (.seq (.reg [Zm 13 0,Zm 4 13] [.r 4]) .ret) .skip)) (.seqa (.reg [Zm 14 5,Zd 15 .add 14 1,Zm 6 15] []) (.blk 0 (.loop A113M1L1)) [0,5] [470000128,1000000000,1000000001,1000000002] A113M1R2))))
def V113M1:List RV:=[.t 4]
theorem m113M1:mtcF Tryz.prog 113 2 A113M1 V113M1=true:=by kernel_rfl
def A48:ACode:=(.seq (.reg [Zo 2 (.box 5 (Zt 0)),Zo 3 (.box 1 (Zt 1)),Zo 4 (.alloc (.agg [.lst .u 1 [],.lst .u 4 [],.lst .u 5 [],.lst .u 5 [],.lst .u 1 []])),Zo 5 (.mv (.c (.lst .u 1 []))),Zo 6 (.mv (.c (.b false)))] [.s 5]) (.seq (.seq (.reg [Zo 9 (.load 5 true (Zt 2)),Zl 10 3,Zo 11 (.call 81 [(Zt 9),(Zt 10)]),Zo 12 (.un .not (Zt 11))] []) (.cond (Zt 12) (.seq (.reg [Zo 13 (.build [.lst .u 1 [],.lst .u 4 [],.lst .u 5 [],.lst .u 5 [],.lst .u 1 []] []),⟨none,.store 5 (Zt 4) (Zt 13),none⟩,Zo 5 (.mv (.c (.lst .u 1 []))),Zo 6 (.mv (.c (.b false)))] [.s 5]) .ret) .skip)) (.seq (.reg [Zo 14 (.load 5 true (Zt 2)),Zo 15 (.call 77 [(Zt 14)]),Zo 16 (.bsl 1 false []),Zo 7 (.alloc (.agg [.lst .u 1 [],.lst .u 4 [],.lst .u 5 [],.lst .u 5 [],.lst .u 1 []])),Zo 8 (.alloc (.lst .u 1 [])),⟨none,.store 5 (Zt 7) (Zt 15),none⟩,⟨none,.store 1 (Zt 8) (Zt 16),none⟩] []) (.seq (.reg [Za 17 4 2,Zl 18 17,Zl 19 3,Zo 20 (.bsl 1 false [(Zt 18),(Zt 19)]),Zo 21 (.call 110 [(Zt 20)]),Za 22 4 7,⟨none,.store 1 (Zt 22) (Zt 21),none⟩] []) (.seq (.reg [Za 23 4 7,Zl 24 23,Zo 25 (.callM 111 [(Zt 24)] [21])] []) (.seq (.reg [Za 26 4 7,Zl 27 26,Zo 28 (.callM 112 [(Zt 27)] [21]),Za 29 4 7,⟨none,.store 1 (Zt 29) (Zt 28),none⟩] []) (.seq (.reg [Za 30 0 7,Za 31 2 30,Zl 32 31,Zo 33 (.mkf 114 [(Zt 3),(Zt 8)]),Zo 34 (.callM 113 [(Zt 32),(Zt 33)] [2015,3,8,16]),Za 35 0 7,Za 36 2 35,⟨none,.store 1 (Zt 36) (Zt 34),none⟩] []) (.seq (.drw [Zo 37 (.load 5 true (Zt 7)),Zo 38 (.ldv [4] 1 false (Zt 8)),⟨none,.stw 4 5 (Zt 4) (Zt 37),none⟩,Zm 5 38,Zo 6 (.mv (.c (.b true)))] [.s 5]) .ret))))))))
def V48:List RV:=[.c 4 5 true,.t 5,.t 6]
theorem m48:mtcF Tryz.prog 48 2 A48 V48=true:=by kernel_rfl
def A99L1:ACode:=(.seq (.seq (.reg [Zm 11 5,Zm 12 0,Zk 13 12,Zb 14 .lss 11 13] []) (.cond (Zt 14) .skip (.exit 0))) (.seq (.blk 1 (.seq (.drw [Zm 17 0,Zm 18 5,Zx 19 1 17 18,Zl 20 19,Zm 21 1,Zm 22 5,Zx 23 1 21 22,Zl 24 23,Zb 25 .neq 20 24] []) (.cond (Zt 25) (.seq (.reg [Zo 4 (.mv (.c (.b false)))] []) .ret) .skip))) (.reg [Zm 15 5,Zd 16 .add 15 1,Zm 5 16] [])))
def A99R2:ACode:=(.seq (.reg [Zo 4 (.mv (.c (.b true)))] []) .ret)
def A99:ACode:=(.seq (.reg [Zo 4 (.mv (.c (.b false)))] []) (.seq (.seq (.reg [Zm 6 0,Zk 7 6,Zm 8 1,Zk 9 8,Zb 10 .neq 7 9] []) (.cond (Zt 10) (.seq (.reg [Zo 4 (.mv (.c (.b false)))] []) .ret) .skip)) (.seqa (.reg [Zn 5 0] []) (.blk 0 (.loop A99L1)) [] [] A99R2)))
def V99:List RV:=[.t 4]
theorem m99:mtcF Tryz.prog 99 2 A99 V99=true:=by kernel_rfl
def A158:ACode:=(.seq (.reg [Zo 2 (.box 4 (Zt 0)),Zo 3 (.box 4 (Zt 1)),Zo 4 (.mv (.c (.b false)))] []) (.seq (.seq (.reg [Za 5 0 2,Zl 6 5,Za 7 0 3,Zl 8 7,Zb 9 .neq 6 8] []) (.cond (Zt 9) (.seq (.reg [Zo 4 (.mv (.c (.b false)))] []) .ret) .skip)) (.seq (.seq (.reg [Za 10 1 2,Zl 11 10,Za 12 1 3,Zl 13 12,Zb 14 .neq 11 13] []) (.cond (Zt 14) (.seq (.reg [Zo 4 (.mv (.c (.b false)))] []) .ret) .skip)) (.seq (.seq (.reg [Za 15 2 2,Zl 16 15,Za 17 2 3,Zl 18 17,Zb 19 .neq 16 18] []) (.cond (Zt 19) (.seq (.reg [Zo 4 (.mv (.c (.b false)))] []) .ret) .skip)) (.seq (.seq (.reg [Za 20 3 2,Zl 21 20,Za 22 3 3,Zl 23 22,Zb 24 .neq 21 23] []) (.cond (Zt 24) (.seq (.reg [Zo 4 (.mv (.c (.b false)))] []) .ret) .skip)) (.seq (.reg [Zo 4 (.mv (.c (.b true)))] []) .ret))))))
def V158:List RV:=[.t 4]
theorem m158:mtcF Tryz.prog 158 2 A158 V158=true:=by kernel_rfl
def A100L1:ACode:=(.seq (.seq (.reg [Zm 11 5,Zm 12 0,Zk 13 12,Zb 14 .lss 11 13] []) (.cond (Zt 14) .skip (.exit 0))) (.seq (.blk 1 (.seq (.drw [Zm 17 0,Zm 18 5,Zx 19 4 17 18,Zo 20 (.load 4 true (Zt 19)),Zm 21 1,Zm 22 5,Zx 23 4 21 22,Zo 24 (.load 4 true (Zt 23)),Zo 25 (.call 158 [(Zt 20),(Zt 24)]),Zo 26 (.un .not (Zt 25))] []) (.cond (Zt 26) (.seq (.reg [Zo 4 (.mv (.c (.b false)))] []) .ret) .skip))) (.reg [Zm 15 5,Zd 16 .add 15 1,Zm 5 16] [])))
def A100R2:ACode:=(.seq (.reg [Zo 4 (.mv (.c (.b true)))] []) .ret)
def A100:ACode:=(.seq (.reg [Zo 4 (.mv (.c (.b false)))] []) (.seq (.seq (.reg [Zm 6 0,Zk 7 6,Zm 8 1,Zk 9 8,Zb 10 .neq 7 9] []) (.cond (Zt 10) (.seq (.reg [Zo 4 (.mv (.c (.b false)))] []) .ret) .skip)) (.seqa (.reg [Zn 5 0] []) (.blk 0 (.loop A100L1)) [] [] A100R2)))
def V100:List RV:=[.t 4]
theorem m100:mtcF Tryz.prog 100 2 A100 V100=true:=by kernel_rfl
def A40:ACode:=(.seq (.reg [Zo 2 (.box 2 (Zt 0)),Zo 3 (.box 2 (Zt 1)),Zo 4 (.mv (.c (.b false)))] []) (.seq (.seq (.reg [Za 5 0 2,Zl 6 5,Za 7 0 3,Zl 8 7,Zo 9 (.call 99 [(Zt 6),(Zt 8)]),Zo 10 (.un .not (Zt 9))] []) (.cond (Zt 10) (.seq (.reg [Zo 4 (.mv (.c (.b false)))] []) .ret) .skip)) (.seq (.seq (.reg [Za 11 1 2,Zl 12 11,Za 13 1 3,Zl 14 13,Zo 15 (.call 100 [(Zt 12),(Zt 14)]),Zo 16 (.un .not (Zt 15))] []) (.cond (Zt 16) (.seq (.reg [Zo 4 (.mv (.c (.b false)))] []) .ret) .skip)) (.seq (.reg [Zo 4 (.mv (.c (.b true)))] []) .ret))))
def V40:List RV:=[.t 4]
theorem m40:mtcF Tryz.prog 40 2 A40 V40=true:=by kernel_rfl
def A20L1:ACode:=(.seq (.seq (.reg [Zm 11 5,Zm 12 0,Zk 13 12,Zb 14 .lss 11 13] []) (.cond (Zt 14) .skip (.exit 0))) (.seq (.blk 1 (.seq (.drw [Zm 17 0,Zm 18 5,Zx 19 1 17 18,Zl 20 19,Zm 21 1,Zm 22 5,Zx 23 1 21 22,Zl 24 23,Zb 25 .neq 20 24] []) (.cond (Zt 25) (.seq (.reg [Zo 4 (.mv (.c (.b false)))] []) .ret) .skip))) (.reg [Zm 15 5,Zd 16 .add 15 1,Zm 5 16] [])))
def A20R2:ACode:=(.seq (.reg [Zo 4 (.mv (.c (.b true)))] []) .ret)
def A20:ACode:=(.seq (.reg [Zo 4 (.mv (.c (.b false)))] []) (.seq (.seq (.reg [Zm 6 0,Zk 7 6,Zm 8 1,Zk 9 8,Zb 10 .neq 7 9] []) (.cond (Zt 10) (.seq (.reg [Zo 4 (.mv (.c (.b false)))] []) .ret) .skip)) (.seqa (.reg [Zn 5 0] []) (.blk 0 (.loop A20L1)) [] [] A20R2)))
def V20:List RV:=[.t 4]
theorem m20:mtcF Tryz.prog 20 2 A20 V20=true:=by kernel_rfl
def A159:ACode:=(.seq (.reg [Zo 2 (.box 2 (Zt 0)),Zo 3 (.box 2 (Zt 1)),Zo 4 (.mv (.c (.b false)))] []) (.seq (.seq (.reg [Za 5 0 2,Zl 6 5,Za 7 0 3,Zl 8 7,Zb 9 .neq 6 8] []) (.cond (Zt 9) (.seq (.reg [Zo 4 (.mv (.c (.b false)))] []) .ret) .skip)) (.seq (.seq (.reg [Za 10 1 2,Zl 11 10,Za 12 1 3,Zl 13 12,Zo 14 (.call 20 [(Zt 11),(Zt 13)]),Zo 15 (.un .not (Zt 14))] []) (.cond (Zt 15) (.seq (.reg [Zo 4 (.mv (.c (.b false)))] []) .ret) .skip)) (.seq (.reg [Zo 4 (.mv (.c (.b true)))] []) .ret))))
def V159:List RV:=[.t 4]
theorem m159:mtcF Tryz.prog 159 2 A159 V159=true:=by kernel_rfl
def A160:ACode:=(.seq (.reg [Zo 2 (.box 2 (Zt 0)),Zo 3 (.box 2 (Zt 1)),Zo 4 (.mv (.c (.b false)))] []) (.seq (.seq (.reg [Za 5 0 2,Zl 6 5,Za 7 0 3,Zl 8 7,Zb 9 .neq 6 8] []) (.cond (Zt 9) (.seq (.reg [Zo 4 (.mv (.c (.b false)))] []) .ret) .skip)) (.seq (.seq (.reg [Za 10 1 2,Zl 11 10,Za 12 1 3,Zl 13 12,Zb 14 .neq 11 13] []) (.cond (Zt 14) (.seq (.reg [Zo 4 (.mv (.c (.b false)))] []) .ret) .skip)) (.seq (.reg [Zo 4 (.mv (.c (.b true)))] []) .ret))))
def V160:List RV:=[.t 4]
theorem m160:mtcF Tryz.prog 160 2 A160 V160=true:=by kernel_rfl
def A136:ACode:=(.seq (.reg [Zo 2 (.box 5 (Zt 0)),Zo 3 (.box 5 (Zt 1)),Zo 4 (.mv (.c (.b false)))] []) (.seq (.seq (.reg [Za 5 0 2,Zl 6 5,Za 7 0 3,Zl 8 7,Zb 9 .neq 6 8] []) (.cond (Zt 9) (.seq (.reg [Zo 4 (.mv (.c (.b false)))] []) .ret) .skip)) (.seq (.seq (.reg [Za 10 1 2,Zo 11 (.load 2 true (Zt 10)),Za 12 1 3,Zo 13 (.load 2 true (Zt 12)),Zo 14 (.call 159 [(Zt 11),(Zt 13)]),Zo 15 (.un .not (Zt 14))] []) (.cond (Zt 15) (.seq (.reg [Zo 4 (.mv (.c (.b false)))] []) .ret) .skip)) (.seq (.seq (.reg [Za 16 3 2,Zo 17 (.load 2 true (Zt 16)),Za 18 3 3,Zo 19 (.load 2 true (Zt 18)),Zo 20 (.call 160 [(Zt 17),(Zt 19)]),Zo 21 (.un .not (Zt 20))] []) (.cond (Zt 21) (.seq (.reg [Zo 4 (.mv (.c (.b false)))] []) .ret) .skip)) (.seq (.reg [Zo 4 (.mv (.c (.b true)))] []) .ret)))))
def V136:List RV:=[.t 4]
theorem m136:mtcF Tryz.prog 136 2 A136 V136=true:=by kernel_rfl
def A70L1:ACode:=(.seq (.seq (.reg [Zm 11 5,Zm 12 0,Zk 13 12,Zb 14 .lss 11 13] []) (.cond (Zt 14) .skip (.exit 0))) (.seq (.blk 1 (.seq (.drw [Zm 17 0,Zm 18 5,Zx 19 5 17 18,Zo 20 (.load 5 true (Zt 19)),Zm 21 1,Zm 22 5,Zx 23 5 21 22,Zo 24 (.load 5 true (Zt 23)),Zo 25 (.call 136 [(Zt 20),(Zt 24)]),Zo 26 (.un .not (Zt 25))] []) (.cond (Zt 26) (.seq (.reg [Zo 4 (.mv (.c (.b false)))] []) .ret) .skip))) (.reg [Zm 15 5,Zd 16 .add 15 1,Zm 5 16] [])))
def A70R2:ACode:=(.seq (.reg [Zo 4 (.mv (.c (.b true)))] []) .ret)
def A70:ACode:=(.seq (.reg [Zo 4 (.mv (.c (.b false)))] []) (.seq (.seq (.reg [Zm 6 0,Zk 7 6,Zm 8 1,Zk 9 8,Zb 10 .neq 7 9] []) (.cond (Zt 10) (.seq (.reg [Zo 4 (.mv (.c (.b false)))] []) .ret) .skip)) (.seqa (.reg [Zn 5 0] []) (.blk 0 (.loop A70L1)) [] [] A70R2)))
def V70:List RV:=[.t 4]
theorem m70:mtcF Tryz.prog 70 2 A70 V70=true:=by kernel_rfl
def A28:ACode:=(.seq (.reg [Zo 2 (.box 3 (Zt 0)),Zo 3 (.box 3 (Zt 1)),Zo 4 (.mv (.c (.b false)))] []) (.seq (.seq (.reg [Za 5 0 2,Zo 6 (.load 2 true (Zt 5)),Za 7 0 3,Zo 8 (.load 2 true (Zt 7)),Zo 9 (.call 40 [(Zt 6),(Zt 8)]),Zo 10 (.un .not (Zt 9))] []) (.cond (Zt 10) (.seq (.reg [Zo 4 (.mv (.c (.b false)))] []) .ret) .skip)) (.seq (.seq (.reg [Za 11 2 2,Zl 12 11,Za 13 2 3,Zl 14 13,Zo 15 (.call 70 [(Zt 12),(Zt 14)]),Zo 16 (.un .not (Zt 15))] []) (.cond (Zt 16) (.seq (.reg [Zo 4 (.mv (.c (.b false)))] []) .ret) .skip)) (.seq (.reg [Zo 4 (.mv (.c (.b true)))] []) .ret))))
def V28:List RV:=[.t 4]
theorem m28:mtcF Tryz.prog 28 2 A28 V28=true:=by kernel_rfl
def A17:ACode:=(.seq (.reg [Zo 2 (.box 5 (Zt 0)),Zo 3 (.box 5 (Zt 1)),Zo 4 (.mv (.c (.b false)))] []) (.seq (.seq (.reg [Za 5 0 2,Zo 6 (.load 3 true (Zt 5)),Za 7 0 3,Zo 8 (.load 3 true (Zt 7)),Zo 9 (.call 28 [(Zt 6),(Zt 8)]),Zo 10 (.un .not (Zt 9))] []) (.cond (Zt 10) (.seq (.reg [Zo 4 (.mv (.c (.b false)))] []) .ret) .skip)) (.seq (.seq (.reg [Za 11 3 2,Zl 12 11,Za 13 3 3,Zl 14 13,Zo 15 (.call 70 [(Zt 12),(Zt 14)]),Zo 16 (.un .not (Zt 15))] []) (.cond (Zt 16) (.seq (.reg [Zo 4 (.mv (.c (.b false)))] []) .ret) .skip)) (.seq (.seq (.reg [Za 17 4 2,Zl 18 17,Za 19 4 3,Zl 20 19,Zo 21 (.call 20 [(Zt 18),(Zt 20)]),Zo 22 (.un .not (Zt 21))] []) (.cond (Zt 22) (.seq (.reg [Zo 4 (.mv (.c (.b false)))] []) .ret) .skip)) (.seq (.reg [Zo 4 (.mv (.c (.b true)))] []) .ret)))))
def V17:List RV:=[.t 4]
theorem m17:mtcF Tryz.prog 17 2 A17 V17=true:=by kernel_rfl
def A161L1:ACode:=(.seq (.seq (.reg [Zm 6 0,Zd 7 .gtr 6 0] []) (.cond (Zt 7) .skip (.exit 0))) (.blk 1 (.seq (.reg [Zm 8 0,Zd 9 .rem 8 10,Zo 10 (.bin .add (.c (.i 48)) (Zt 9)),Zo 11 (.conv .u8 (Zt 10)),Zo 12 (.bsl 1 false [(Zt 11)]),Zo 13 (.b2s (Zt 12)),Zm 14 3,Zb 15 .add 13 14,Zm 3 15] []) (.reg [Zm 16 0,Zd 17 .quo 16 10,Zm 0 17] []))))
def A161R2:ACode:=(.seq (.reg [Zm 18 3,Zo 19 (.bin .add (.c (.z ⟨#[109]⟩)) (Zt 18)),Zm 2 19] []) .ret)
def A161:ACode:=(.seq (.reg [Zo 2 (.mv (.c (.z ⟨#[]⟩)))] []) (.seq (.seq (.reg [Zm 4 0,Zd 5 .leq 4 0] []) (.cond (Zt 5) (.seq (.reg [Zo 2 (.mv (.c (.z ⟨#[109,48]⟩)))] []) .ret) .skip)) (.seq (.reg [Zo 3 (.mv (.c (.z ⟨#[]⟩)))] []) (.seqr (.blk 0 (.loop A161L1)) [3] [] A161R2))))
def V161:List RV:=[.t 2]
theorem m161:mtcF Tryz.prog 161 1 A161 V161=true:=by kernel_rfl
def A102M1L1:ACode:=(.seq (.seq (.reg [Zm 6 5,Zm 7 0,Zk 8 7,Zb 9 .lss 6 8] []) (.cond (Zt 9) .skip (.exit 0))) (.seq (.blk 1 (.seq (.reg [Zm 12 0,Zm 13 5,Zm 14 1,Zo 15 (.call 161 [(Zt 14)]),Zx 16 1 12 13,⟨none,.store 1 (Zt 16) (Zt 15),none⟩] []) (.reg [Zm 17 1,Zd 18 .add 17 1,Zm 1 18] []))) (.reg [Zm 10 5,Zd 11 .add 10 1,Zm 5 11] [])))
def A102M1R2:ACode:=(.seq (.reg [Zm 19 1,Zm 4 19] []) .ret)
def A102M1:ACode:=(.seq (.reg [Zn 4 0] []) (.seqa (.reg [Zn 5 0] []) (.blk 0 (.loop A102M1L1)) [1] [1000000000] A102M1R2))
def V102M1:List RV:=[.t 4]
theorem m102M1:mtcF Tryz.prog 102 2 A102M1 V102M1=true:=by kernel_rfl
def A103M1L1:ACode:=(.seq (.seq (.reg [Zm 6 5,Zm 7 0,Zk 8 7,Zb 9 .lss 6 8] []) (.cond (Zt 9) .skip (.exit 0))) (.seq (.blk 1 (.seq (.reg [Zm 12 0,Zm 13 5,Zm 14 1,Zx 15 4 12 13,Za 16 0 15,⟨none,.store 1 (Zt 16) (Zt 14),none⟩] []) (.seq (.reg [Zm 17 1,Zd 18 .add 17 1,Zm 1 18] []) (.seq (.reg [Zm 19 0,Zm 20 5,Zm 21 1,Zx 22 4 19 20,Za 23 1 22,⟨none,.store 1 (Zt 23) (Zt 21),none⟩] []) (.seq (.reg [Zm 24 1,Zd 25 .add 24 1,Zm 1 25] []) (.seq (.reg [Zm 26 0,Zm 27 5,Zm 28 1,Zx 29 4 26 27,Za 30 2 29,⟨none,.store 1 (Zt 30) (Zt 28),none⟩] []) (.seq (.reg [Zm 31 1,Zd 32 .add 31 1,Zm 1 32] []) (.seq (.reg [Zm 33 0,Zm 34 5,Zm 35 1,Zx 36 4 33 34,Za 37 3 36,⟨none,.store 1 (Zt 37) (Zt 35),none⟩] []) (.reg [Zm 38 1,Zd 39 .add 38 1,Zm 1 39] []))))))))) (.reg [Zm 10 5,Zd 11 .add 10 1,Zm 5 11] [])))
def A103M1R2:ACode:=(.seq (.reg [Zm 40 1,Zm 4 40] []) .ret)
def A103M1:ACode:=(.seq (.reg [Zn 4 0] []) (.seqa (.reg [Zn 5 0] []) (.blk 0 (.loop A103M1L1)) [1] [1000000000] A103M1R2))
def V103M1:List RV:=[.t 4]
theorem m103M1:mtcF Tryz.prog 103 2 A103M1 V103M1=true:=by kernel_rfl
def A42M1:ACode:=(.seq (.reg [Zo 2 (.box 2 (Zt 0)),Zn 4 0] []) (.seq (.reg [Za 5 0 2,Zl 6 5,Zm 7 1,Zo 8 (.callM 102 [(Zt 6),(Zt 7)] [1000000000]),Zm 1 8] []) (.seq (.reg [Za 9 1 2,Zl 10 9,Zm 11 1,Zo 12 (.callM 103 [(Zt 10),(Zt 11)] [1000000001]),Zm 1 12] []) (.seq (.reg [Zm 13 1,Zm 4 13] []) .ret))))
def V42M1:List RV:=[.t 4]
theorem m42M1:mtcF Tryz.prog 42 2 A42M1 V42M1=true:=by kernel_rfl
def A22M1L1:ACode:=(.seq (.seq (.reg [Zm 6 5,Zm 7 0,Zk 8 7,Zb 9 .lss 6 8] []) (.cond (Zt 9) .skip (.exit 0))) (.seq (.blk 1 (.seq (.reg [Zm 12 0,Zm 13 5,Zm 14 1,Zx 15 1 12 13,⟨none,.store 1 (Zt 15) (Zt 14),none⟩] []) (.reg [Zm 16 1,Zd 17 .add 16 1,Zm 1 17] []))) (.reg [Zm 10 5,Zd 11 .add 10 1,Zm 5 11] [])))
def A22M1R2:ACode:=(.seq (.reg [Zm 18 1,Zm 4 18] []) .ret)
def A22M1:ACode:=(.seq (.reg [Zn 4 0] []) (.seqa (.reg [Zn 5 0] []) (.blk 0 (.loop A22M1L1)) [1] [1000000000] A22M1R2))
def V22M1:List RV:=[.t 4]
theorem m22M1:mtcF Tryz.prog 22 2 A22M1 V22M1=true:=by kernel_rfl
def A73M1L1:ACode:=(.seq (.seq (.reg [Zm 6 5,Zm 7 0,Zk 8 7,Zb 9 .lss 6 8] []) (.cond (Zt 9) .skip (.exit 0))) (.seq (.blk 1 (.seq (.reg [Zm 12 0,Zm 13 5,Zm 14 1,Zx 15 5 12 13,Za 16 0 15,⟨none,.store 1 (Zt 16) (Zt 14),none⟩] []) (.seq (.reg [Zm 17 1,Zd 18 .add 17 1,Zm 1 18] []) (.seq (.reg [Zm 19 0,Zm 20 5,Zm 21 1,Zx 22 5 19 20,Za 23 1 22,Za 24 0 23,⟨none,.store 1 (Zt 24) (Zt 21),none⟩] []) (.seq (.reg [Zm 25 1,Zd 26 .add 25 1,Zm 1 26] []) (.seq (.regh [Zm 27 0,Zm 28 5,Zx 29 5 27 28,Za 30 1 29,Za 31 1 30] (.inn 32 5 1 (Zt 31) [(33,(Zt 1))] 34 22 [(Zt 32),(Zt 33)]) [Zm 1 34] []) (.seq (.reg [Zm 35 0,Zm 36 5,Zm 37 1,Zx 38 5 35 36,Za 39 3 38,Za 40 0 39,⟨none,.store 1 (Zt 40) (Zt 37),none⟩] []) (.seq (.reg [Zm 41 1,Zd 42 .add 41 1,Zm 1 42] []) (.seq (.reg [Zm 43 0,Zm 44 5,Zm 45 1,Zx 46 5 43 44,Za 47 3 46,Za 48 1 47,⟨none,.store 1 (Zt 48) (Zt 45),none⟩] []) (.reg [Zm 49 1,Zd 50 .add 49 1,Zm 1 50] [])))))))))) (.reg [Zm 10 5,Zd 11 .add 10 1,Zm 5 11] [])))
def A73M1R2:ACode:=(.seq (.reg [Zm 51 1,Zm 4 51] []) .ret)
def A73M1:ACode:=(.seq (.reg [Zn 4 0] []) (.seqa (.reg [Zn 5 0] []) (.blk 0 (.loop A73M1L1)) [1] [1000000000] A73M1R2))
def V73M1:List RV:=[.t 4]
theorem m73M1:mtcF Tryz.prog 73 2 A73M1 V73M1=true:=by kernel_rfl
def A29M1:ACode:=(.seq (.reg [Zo 2 (.box 3 (Zt 0)),Zn 4 0] []) (.seq (.reg [Za 5 0 2,Zo 6 (.load 2 true (Zt 5)),Zm 7 1,Zo 8 (.callM 42 [(Zt 6),(Zt 7)] [1000000000,1000000001]),Zm 1 8] []) (.seq (.regh [Za 9 2 2,Zl 10 9,Zm 11 1] (.har 12 73 [(Zt 10),(Zt 11)] [1000000002]) [Zm 1 12] []) (.seq (.reg [Zm 13 1,Zm 4 13] []) .ret))))
def V29M1:List RV:=[.t 4]
theorem m29M1:mtcF Tryz.prog 29 2 A29M1 V29M1=true:=by kernel_rfl
def A21M1:ACode:=(.seq (.reg [Zo 2 (.box 5 (Zt 0)),Zn 4 0] []) (.seq (.regh [Za 5 0 2,Zo 6 (.load 3 true (Zt 5)),Zm 7 1] (.har 8 29 [(Zt 6),(Zt 7)] [1000000000,1000000001,1000000002]) [Zm 1 8] []) (.seq (.regh [Za 9 3 2,Zl 10 9,Zm 11 1] (.har 12 73 [(Zt 10),(Zt 11)] [1000000003]) [Zm 1 12] []) (.seq (.reg [Za 13 4 2,Zl 14 13,Zm 15 1,Zo 16 (.callM 22 [(Zt 14),(Zt 15)] [1000000004]),Zm 1 16] []) (.seq (.reg [Zm 17 1,Zm 4 17] []) .ret)))))
def V21M1:List RV:=[.t 4]
theorem m21M1:mtcF Tryz.prog 21 2 A21M1 V21M1=true:=by kernel_rfl
def A162L1:ACode:=(.seq (.seq (.reg [Zm 6 5,Zm 7 0,Zk 8 7,Zb 9 .lss 6 8] []) (.cond (Zt 9) .skip (.exit 0))) (.seq (.blk 1 (.seq (.seq (.drw [Zm 12 0,Zm 13 5,Zx 14 1 12 13,Zl 15 14,Zm 16 1,Zo 17 (.call 161 [(Zt 16)]),Zb 18 .neq 15 17] []) (.cond (Zt 18) (.seq (.reg [Zn 4 (-1)] []) .ret) .skip)) (.reg [Zm 19 1,Zd 20 .add 19 1,Zm 1 20] []))) (.reg [Zm 10 5,Zd 11 .add 10 1,Zm 5 11] [])))
def A162R2:ACode:=(.seq (.reg [Zm 21 1,Zm 4 21] []) .ret)
def A162:ACode:=(.seq (.reg [Zn 4 0] []) (.seqa (.reg [Zn 5 0] []) (.blk 0 (.loop A162L1)) [1] [] A162R2))
def V162:List RV:=[.t 4]
theorem m162:mtcF Tryz.prog 162 2 A162 V162=true:=by kernel_rfl
def A163L1:ACode:=(.seq (.seq (.reg [Zm 6 5,Zm 7 0,Zk 8 7,Zb 9 .lss 6 8] []) (.cond (Zt 9) .skip (.exit 0))) (.seq (.blk 1 (.seq (.seq (.reg [Zm 12 0,Zm 13 5,Zx 14 4 12 13,Za 15 0 14,Zl 16 15,Zm 17 1,Zb 18 .neq 16 17] []) (.cond (Zt 18) (.seq (.reg [Zn 4 (-1)] []) .ret) .skip)) (.seq (.reg [Zm 19 1,Zd 20 .add 19 1,Zm 1 20] []) (.seq (.seq (.reg [Zm 21 0,Zm 22 5,Zx 23 4 21 22,Za 24 1 23,Zl 25 24,Zm 26 1,Zb 27 .neq 25 26] []) (.cond (Zt 27) (.seq (.reg [Zn 4 (-1)] []) .ret) .skip)) (.seq (.reg [Zm 28 1,Zd 29 .add 28 1,Zm 1 29] []) (.seq (.seq (.reg [Zm 30 0,Zm 31 5,Zx 32 4 30 31,Za 33 2 32,Zl 34 33,Zm 35 1,Zb 36 .neq 34 35] []) (.cond (Zt 36) (.seq (.reg [Zn 4 (-1)] []) .ret) .skip)) (.seq (.reg [Zm 37 1,Zd 38 .add 37 1,Zm 1 38] []) (.seq (.seq (.reg [Zm 39 0,Zm 40 5,Zx 41 4 39 40,Za 42 3 41,Zl 43 42,Zm 44 1,Zb 45 .neq 43 44] []) (.cond (Zt 45) (.seq (.reg [Zn 4 (-1)] []) .ret) .skip)) (.reg [Zm 46 1,Zd 47 .add 46 1,Zm 1 47] []))))))))) (.reg [Zm 10 5,Zd 11 .add 10 1,Zm 5 11] [])))
def A163R2:ACode:=(.seq (.reg [Zm 48 1,Zm 4 48] []) .ret)
def A163:ACode:=(.seq (.reg [Zn 4 0] []) (.seqa (.reg [Zn 5 0] []) (.blk 0 (.loop A163L1)) [1] [] A163R2))
def V163:List RV:=[.t 4]
theorem m163:mtcF Tryz.prog 163 2 A163 V163=true:=by kernel_rfl
def A104:ACode:=(.seq (.reg [Zo 2 (.box 2 (Zt 0)),Zn 4 0] []) (.seq (.reg [Za 5 0 2,Zl 6 5,Zm 7 1,Zo 8 (.call 162 [(Zt 6),(Zt 7)]),Zm 1 8] []) (.seq (.seq (.reg [Zm 9 1,Zd 10 .lss 9 0] []) (.cond (Zt 10) (.seq (.reg [Zn 4 (-1)] []) .ret) .skip)) (.seq (.reg [Za 11 1 2,Zl 12 11,Zm 13 1,Zo 14 (.call 163 [(Zt 12),(Zt 13)]),Zm 1 14] []) (.seq (.seq (.reg [Zm 15 1,Zd 16 .lss 15 0] []) (.cond (Zt 16) (.seq (.reg [Zn 4 (-1)] []) .ret) .skip)) (.seq (.reg [Zm 17 1,Zm 4 17] []) .ret))))))
def V104:List RV:=[.t 4]
theorem m104:mtcF Tryz.prog 104 2 A104 V104=true:=by kernel_rfl
def A23L1:ACode:=(.seq (.seq (.reg [Zm 6 5,Zm 7 0,Zk 8 7,Zb 9 .lss 6 8] []) (.cond (Zt 9) .skip (.exit 0))) (.seq (.blk 1 (.seq (.seq (.reg [Zm 12 0,Zm 13 5,Zx 14 1 12 13,Zl 15 14,Zm 16 1,Zb 17 .neq 15 16] []) (.cond (Zt 17) (.seq (.reg [Zn 4 (-1)] []) .ret) .skip)) (.reg [Zm 18 1,Zd 19 .add 18 1,Zm 1 19] []))) (.reg [Zm 10 5,Zd 11 .add 10 1,Zm 5 11] [])))
def A23R2:ACode:=(.seq (.reg [Zm 20 1,Zm 4 20] []) .ret)
def A23:ACode:=(.seq (.reg [Zn 4 0] []) (.seqa (.reg [Zn 5 0] []) (.blk 0 (.loop A23L1)) [1] [] A23R2))
def V23:List RV:=[.t 4]
theorem m23:mtcF Tryz.prog 23 2 A23 V23=true:=by kernel_rfl
def A78L1:ACode:=(.seq (.seq (.reg [Zm 6 5,Zm 7 0,Zk 8 7,Zb 9 .lss 6 8] []) (.cond (Zt 9) .skip (.exit 0))) (.seq (.blk 1 (.seq (.seq (.reg [Zm 12 0,Zm 13 5,Zx 14 5 12 13,Za 15 0 14,Zl 16 15,Zm 17 1,Zb 18 .neq 16 17] []) (.cond (Zt 18) (.seq (.reg [Zn 4 (-1)] []) .ret) .skip)) (.seq (.reg [Zm 19 1,Zd 20 .add 19 1,Zm 1 20] []) (.seq (.seq (.reg [Zm 21 0,Zm 22 5,Zx 23 5 21 22,Za 24 1 23,Za 25 0 24,Zl 26 25,Zm 27 1,Zb 28 .neq 26 27] []) (.cond (Zt 28) (.seq (.reg [Zn 4 (-1)] []) .ret) .skip)) (.seq (.reg [Zm 29 1,Zd 30 .add 29 1,Zm 1 30] []) (.seq (.reg [Zm 31 0,Zm 32 5,Zx 33 5 31 32,Za 34 1 33,Za 35 1 34,Zl 36 35,Zm 37 1,Zo 38 (.call 23 [(Zt 36),(Zt 37)]),Zm 1 38] []) (.seq (.seq (.reg [Zm 39 1,Zd 40 .lss 39 0] []) (.cond (Zt 40) (.seq (.reg [Zn 4 (-1)] []) .ret) .skip)) (.seq (.seq (.reg [Zm 41 0,Zm 42 5,Zx 43 5 41 42,Za 44 3 43,Za 45 0 44,Zl 46 45,Zm 47 1,Zb 48 .neq 46 47] []) (.cond (Zt 48) (.seq (.reg [Zn 4 (-1)] []) .ret) .skip)) (.seq (.reg [Zm 49 1,Zd 50 .add 49 1,Zm 1 50] []) (.seq (.seq (.reg [Zm 51 0,Zm 52 5,Zx 53 5 51 52,Za 54 3 53,Za 55 1 54,Zl 56 55,Zm 57 1,Zb 58 .neq 56 57] []) (.cond (Zt 58) (.seq (.reg [Zn 4 (-1)] []) .ret) .skip)) (.reg [Zm 59 1,Zd 60 .add 59 1,Zm 1 60] []))))))))))) (.reg [Zm 10 5,Zd 11 .add 10 1,Zm 5 11] [])))
def A78R2:ACode:=(.seq (.reg [Zm 61 1,Zm 4 61] []) .ret)
def A78:ACode:=(.seq (.reg [Zn 4 0] []) (.seqa (.reg [Zn 5 0] []) (.blk 0 (.loop A78L1)) [1] [] A78R2))
def V78:List RV:=[.t 4]
theorem m78:mtcF Tryz.prog 78 2 A78 V78=true:=by kernel_rfl
def A44:ACode:=(.seq (.reg [Zo 2 (.box 3 (Zt 0)),Zn 4 0] []) (.seq (.reg [Za 5 0 2,Zo 6 (.load 2 true (Zt 5)),Zm 7 1,Zo 8 (.call 104 [(Zt 6),(Zt 7)]),Zm 1 8] []) (.seq (.seq (.reg [Zm 9 1,Zd 10 .lss 9 0] []) (.cond (Zt 10) (.seq (.reg [Zn 4 (-1)] []) .ret) .skip)) (.seq (.reg [Za 11 2 2,Zl 12 11,Zm 13 1,Zo 14 (.call 78 [(Zt 12),(Zt 13)]),Zm 1 14] []) (.seq (.seq (.reg [Zm 15 1,Zd 16 .lss 15 0] []) (.cond (Zt 16) (.seq (.reg [Zn 4 (-1)] []) .ret) .skip)) (.seq (.reg [Zm 17 1,Zm 4 17] []) .ret))))))
def V44:List RV:=[.t 4]
theorem m44:mtcF Tryz.prog 44 2 A44 V44=true:=by kernel_rfl
def A30:ACode:=(.seq (.reg [Zo 2 (.box 5 (Zt 0)),Zn 4 0] []) (.seq (.reg [Za 5 0 2,Zo 6 (.load 3 true (Zt 5)),Zm 7 1,Zo 8 (.call 44 [(Zt 6),(Zt 7)]),Zm 1 8] []) (.seq (.seq (.reg [Zm 9 1,Zd 10 .lss 9 0] []) (.cond (Zt 10) (.seq (.reg [Zn 4 (-1)] []) .ret) .skip)) (.seq (.reg [Za 11 3 2,Zl 12 11,Zm 13 1,Zo 14 (.call 78 [(Zt 12),(Zt 13)]),Zm 1 14] []) (.seq (.seq (.reg [Zm 15 1,Zd 16 .lss 15 0] []) (.cond (Zt 16) (.seq (.reg [Zn 4 (-1)] []) .ret) .skip)) (.seq (.reg [Za 17 4 2,Zl 18 17,Zm 19 1,Zo 20 (.call 23 [(Zt 18),(Zt 19)]),Zm 1 20] []) (.seq (.seq (.reg [Zm 21 1,Zd 22 .lss 21 0] []) (.cond (Zt 22) (.seq (.reg [Zn 4 (-1)] []) .ret) .skip)) (.seq (.reg [Zm 23 1,Zm 4 23] []) .ret))))))))
def V30:List RV:=[.t 4]
theorem m30:mtcF Tryz.prog 30 2 A30 V30=true:=by kernel_rfl
def A9R1:ACode:=(.cond (Zt 62) (.seq (.reg [Zo 4 (.mv (.c (.b false)))] []) .ret) .skip)
def A9R2:ACode:=(.cond (Zt 97) (.seq (.reg [Zo 4 (.mv (.c (.b false)))] []) .ret) .skip)
def A9R3:ACode:=(.cond (Zt 140) (.seq (.reg [Zo 4 (.mv (.c (.b false)))] []) .ret) .skip)
def A9:ACode:=(.seq (.reg [Zo 2 (.box 5 (Zt 0)),Zo 4 (.mv (.c (.b false)))] []) (.seq (.seq (.reg [Zm 20 1,Zk 21 20,Zd 22 .gtr 21 1048576] []) (.cond (Zt 22) (.seq (.reg [Zo 4 (.mv (.c (.b true)))] []) .ret) .skip)) (.seq (.reg [Zn 5 1048576] []) (.seq (.reg [Zo 23 (.load 5 true (Zt 2)),Zm 24 5,Zo 25 (.call 13 [(Zt 23),(Zt 24)]),Zm 5 25] []) (.seq (.seq (.reg [Zm 26 5,Zd 27 .lss 26 0] []) (.cond (Zt 27) (.seq (.reg [Zo 4 (.mv (.c (.b true)))] []) .ret) .skip)) (.seqb (.reg [Zo 29 (.load 5 true (Zt 2)),Zo 30 (.call 15 [(Zt 29)]),Zm 31 1,Zo 32 (.call 32 [(Zt 31)]),Zo 33 (.callM 47 [(Zt 30),(Zt 32)] [30,1030,2030,3030,4030,32]),Zm 28 33,Ze 34 28 0,Ze 35 28 1,Ze 36 28 2,Zo 6 (.alloc (.agg [.lst .u 1 [],.lst .u 4 [],.lst .u 5 [],.lst .u 5 [],.lst .u 1 []])),⟨none,.store 5 (Zt 6) (Zt 34),none⟩,Zm 7 35,Zm 8 36] [.s 7]) [1,2,6,7,8] (.seq (.reg [Zo 37 (.load 5 true (Zt 2)),Zo 38 (.call 15 [(Zt 37)]),Zo 9 (.alloc (.agg [.lst .u 1 [],.lst .u 4 [],.lst .u 5 [],.lst .u 5 [],.lst .u 1 []])),⟨none,.store 5 (Zt 9) (Zt 38),none⟩] []) (.seq (.reg [Zm 39 1,Zo 40 (.call 32 [(Zt 39)]),Zm 10 40] [.s 10]) (.seq (.reg [Zo 42 (.load 5 true (Zt 9)),Zm 43 10,Zo 44 (.call 48 [(Zt 42),(Zt 43)]),Zm 41 44,Ze 45 41 0,Ze 46 41 1,Ze 47 41 2,Zo 11 (.alloc (.agg [.lst .u 1 [],.lst .u 4 [],.lst .u 5 [],.lst .u 5 [],.lst .u 1 []])),⟨none,.store 5 (Zt 11) (Zt 45),none⟩,Zm 12 46,Zm 13 47] [.s 12]) (.seq (.seqr (.reg [Zo 48 (.load 5 true (Zt 11)),Zo 49 (.load 5 true (Zt 6)),Zo 50 (.call 17 [(Zt 48),(Zt 49)]),Zo 51 (.un .not (Zt 50)),Zm 52 51,⟨(some 53),.mv (Zt 12),(some (52,false))⟩,⟨(some 54),.mv (Zt 7),(some (52,false))⟩,⟨(some 55),.call 20 [(Zt 53),(Zt 54)],(some (52,false))⟩,⟨(some 56),.un .not (Zt 55),(some (52,false))⟩,Zo 57 (.pick (Zt 52) (.c (.b true)) (Zt 56)),Zm 58 57,⟨(some 59),.mv (Zt 13),(some (58,false))⟩,⟨(some 60),.mv (Zt 8),(some (58,false))⟩,⟨(some 61),.beq true (Zt 59) (Zt 60),(some (58,false))⟩,Zo 62 (.pick (Zt 58) (.c (.b true)) (Zt 61))] []) [1,2,6,7,8,9,10,11,12,13,62] [9,10,11,12,38,44,1038,1044,2038,2044,3038,3044,4038,4044] A9R1) (.seq (.seq (.drw [Zo 63 (.load 5 true (Zt 9)),Zo 64 (.load 5 true (Zt 2)),Zo 65 (.call 15 [(Zt 64)]),Zo 66 (.call 17 [(Zt 63),(Zt 65)]),Zo 67 (.un .not (Zt 66))] []) (.cond (Zt 67) (.seq (.reg [Zo 4 (.mv (.c (.b false)))] []) .ret) .skip)) (.seq (.seq (.reg [Zm 68 10,Zm 69 1,Zo 70 (.call 32 [(Zt 69)]),Zo 71 (.call 20 [(Zt 68),(Zt 70)]),Zo 72 (.un .not (Zt 71))] []) (.cond (Zt 72) (.seq (.reg [Zo 4 (.mv (.c (.b false)))] []) .ret) .skip)) (.seq (.reg [Zn 14 1] []) (.seq (.regh [Zo 73 (.load 5 true (Zt 9)),Zm 74 14] (.har 75 21 [(Zt 73),(Zt 74)] [38,1038,2038,3038,4038]) [Zm 14 75] []) (.seq (.reg [Zm 76 10,Zm 77 14,Zo 78 (.callM 22 [(Zt 76),(Zt 77)] [10]),Zm 14 78] []) (.seq (.seqr (.reg [Zm 79 14,Zd 80 .lss 79 0,Zm 81 80,⟨(some 82),.load 5 true (Zt 11),(some (81,false))⟩,⟨(some 83),.load 5 true (Zt 6),(some (81,false))⟩,⟨(some 84),.call 17 [(Zt 82),(Zt 83)],(some (81,false))⟩,⟨(some 85),.un .not (Zt 84),(some (81,false))⟩,Zo 86 (.pick (Zt 81) (.c (.b true)) (Zt 85)),Zm 87 86,⟨(some 88),.mv (Zt 12),(some (87,false))⟩,⟨(some 89),.mv (Zt 7),(some (87,false))⟩,⟨(some 90),.call 20 [(Zt 88),(Zt 89)],(some (87,false))⟩,⟨(some 91),.un .not (Zt 90),(some (87,false))⟩,Zo 92 (.pick (Zt 87) (.c (.b true)) (Zt 91)),Zm 93 92,⟨(some 94),.mv (Zt 13),(some (93,false))⟩,⟨(some 95),.mv (Zt 8),(some (93,false))⟩,⟨(some 96),.beq true (Zt 94) (Zt 95),(some (93,false))⟩,Zo 97 (.pick (Zt 93) (.c (.b true)) (Zt 96))] []) [1,2,6,7,8,11,12,97] [11,12,44,1044,2044,3044,4044] A9R2) (.seq (.reg [Zn 15 1] []) (.seq (.regh [Zo 98 (.load 5 true (Zt 11)),Zm 99 15] (.har 100 21 [(Zt 98),(Zt 99)] [44,1044,2044,3044,4044]) [Zm 15 100] []) (.seq (.reg [Zm 101 12,Zm 102 15,Zo 103 (.callM 22 [(Zt 101),(Zt 102)] [12]),Zm 15 103] []) (.seq (.reg [Zn 16 1] []) (.seq (.reg [Zo 104 (.load 5 true (Zt 11)),Zm 105 16,Zo 106 (.call 30 [(Zt 104),(Zt 105)]),Zm 16 106] []) (.seq (.seq (.reg [Zm 107 16,Zd 108 .lss 107 0] []) (.cond (Zt 108) (.seq (.reg [Zo 4 (.mv (.c (.b false)))] []) .ret) .skip)) (.seq (.reg [Zm 109 12,Zm 110 16,Zo 111 (.call 23 [(Zt 109),(Zt 110)]),Zm 16 111] []) (.seq (.seq (.reg [Zm 112 16,Zd 113 .lss 112 0] []) (.cond (Zt 113) (.seq (.reg [Zo 4 (.mv (.c (.b false)))] []) .ret) .skip)) (.seq (.seq (.reg [Zm 114 16,Zm 115 15,Zb 116 .neq 114 115] []) (.cond (Zt 116) (.seq (.reg [Zo 4 (.mv (.c (.b false)))] []) .ret) .skip)) (.seq (.reg [Zo 118 (.load 5 true (Zt 2)),Zo 119 (.call 15 [(Zt 118)]),Zm 120 1,Zo 121 (.call 32 [(Zt 120)]),Zo 122 (.call 48 [(Zt 119),(Zt 121)]),Zm 117 122,Ze 123 117 0,Ze 124 117 1,Ze 125 117 2,Zo 17 (.alloc (.agg [.lst .u 1 [],.lst .u 4 [],.lst .u 5 [],.lst .u 5 [],.lst .u 1 []])),⟨none,.store 5 (Zt 17) (Zt 123),none⟩,Zm 18 124,Zm 19 125] [.s 18]) (.seq (.seqr (.reg [Zo 126 (.load 5 true (Zt 17)),Zo 127 (.load 5 true (Zt 6)),Zo 128 (.call 17 [(Zt 126),(Zt 127)]),Zo 129 (.un .not (Zt 128)),Zm 130 129,⟨(some 131),.mv (Zt 18),(some (130,false))⟩,⟨(some 132),.mv (Zt 7),(some (130,false))⟩,⟨(some 133),.call 20 [(Zt 131),(Zt 132)],(some (130,false))⟩,⟨(some 134),.un .not (Zt 133),(some (130,false))⟩,Zo 135 (.pick (Zt 130) (.c (.b true)) (Zt 134)),Zm 136 135,⟨(some 137),.mv (Zt 19),(some (136,false))⟩,⟨(some 138),.mv (Zt 8),(some (136,false))⟩,⟨(some 139),.beq true (Zt 137) (Zt 138),(some (136,false))⟩,Zo 140 (.pick (Zt 136) (.c (.b true)) (Zt 139))] []) [11,12,15,140] [11,12,44,1044,2044,3044,4044] A9R3) (.seq (.reg [Zn 16 1] []) (.seq (.reg [Zo 141 (.load 5 true (Zt 11)),Zm 142 16,Zo 143 (.call 30 [(Zt 141),(Zt 142)]),Zm 16 143] []) (.seq (.seq (.reg [Zm 144 16,Zd 145 .lss 144 0] []) (.cond (Zt 145) (.seq (.reg [Zo 4 (.mv (.c (.b false)))] []) .ret) .skip)) (.seq (.reg [Zm 146 12,Zm 147 16,Zo 148 (.call 23 [(Zt 146),(Zt 147)]),Zm 16 148] []) (.seq (.seq (.reg [Zm 149 16,Zd 150 .lss 149 0] []) (.cond (Zt 150) (.seq (.reg [Zo 4 (.mv (.c (.b false)))] []) .ret) .skip)) (.seq (.seq (.reg [Zm 151 16,Zm 152 15,Zb 153 .neq 151 152] []) (.cond (Zt 153) (.seq (.reg [Zo 4 (.mv (.c (.b false)))] []) .ret) .skip)) (.seq (.reg [Zo 4 (.mv (.c (.b true)))] []) .ret))))))))))))))))))))))))))))))))))
def V9:List RV:=[.t 4]
theorem m9:mtcF Tryz.prog 9 2 A9 V9=true:=by kernel_rfl
end Vs

