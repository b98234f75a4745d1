/-
  Part of the proof that the law FnExactDropService returns true at every input; no condition beside the row's own.
-/
import Derived.Test.YtkgenchldigkgaaGreatXe
import Derived.Test.YtkgenchldigkgaaGreatChecked
import Derived.KernelRfl
set_option linter.defProp false
set_option linter.unusedSimpArgs false
set_option linter.unusedVariables false
namespace Vs
open Go
structure TFiber where
 A:Int
 B:Int
 Length:Int
 Risk:Int
 deriving DecidableEq
def e_TFiber (f:Fl) (x:TFiber):AV:=.agg [.i x.A,.i x.B,.i x.Length,.i x.Risk]
theorem e_TFiber_nrm (f:Fl) (x:TFiber):(e_TFiber f x).nrm=e_TFiber .o x:=by simp [e_TFiber,nrm_sc,nrm_lst,nrm_agg,nrm_sc]
theorem e_TFiber_nrmm (f:Fl) (xs:List TFiber):(xs.map (e_TFiber f)).map AV.nrm=xs.map (e_TFiber .o):=by simp [e_TFiber_nrm]
theorem e_TFiber_als (f:Fl) (x:TFiber):(e_TFiber f x).als=e_TFiber f.als x:=by simp [e_TFiber,als_sc,als_lst,als_agg,nrm_sc]
theorem e_TFiber_alsm (f:Fl) (xs:List TFiber):(xs.map (e_TFiber f)).map AV.als=xs.map (e_TFiber f.als):=by simp [e_TFiber_als]
theorem e_TFiber_alsc (f:Fl):AV.als ∘ e_TFiber f=e_TFiber f.als:=by funext x; simp [e_TFiber_als]
theorem e_TFiber_fix (f:Fl) (x:TFiber):(e_TFiber f x).fix=e_TFiber f.fix x:=by simp [e_TFiber,fix_sc,fix_lst,fix_agg,nrm_sc]
theorem e_TFiber_fixm (f:Fl) (xs:List TFiber):(xs.map (e_TFiber f)).map AV.fix=xs.map (e_TFiber f.fix):=by simp [e_TFiber_fix]
theorem e_TFiber_fz (x:TFiber):(e_TFiber .o x).fz=true:=by simp [e_TFiber,AV.i,AV.b,AV.z,fz_sc,fz_lsto,fz_agg,fzL_nil,fzL_cons,fzL_mi,fzL_mb,fzL_mz,fzL_m8,fzL_m64,ouL_m8,ouL_m64,ou_sc,ou_lstu,ou_agg,ouL_nil,ouL_cons,ouL_mi,ouL_mb,ouL_mz]
theorem e_TFiber_fzm (xs:List TFiber):fzL (xs.map (e_TFiber .o))=true:=fzL_of e_TFiber_fz xs
theorem e_TFiber_ou (x:TFiber):(e_TFiber .u x).ouB=true:=by simp [e_TFiber,AV.i,AV.b,AV.z,fz_sc,fz_lsto,fz_agg,fzL_nil,fzL_cons,fzL_mi,fzL_mb,fzL_mz,fzL_m8,fzL_m64,ouL_m8,ouL_m64,ou_sc,ou_lstu,ou_agg,ouL_nil,ouL_cons,ouL_mi,ouL_mb,ouL_mz]
theorem e_TFiber_oum (xs:List TFiber):ouBL (xs.map (e_TFiber .u))=true:=ouL_of e_TFiber_ou xs
structure TNetwork where
 Nodes:List ByteArray
 Fibers:List TFiber
def e_TNetwork (f:Fl) (x:TNetwork):AV:=.agg [.lst f 1 (x.Nodes.map AV.z),.lst f 4 (x.Fibers.map (e_TFiber f))]
theorem e_TNetwork_nrm (f:Fl) (x:TNetwork):(e_TNetwork f x).nrm=e_TNetwork .o x:=by simp [e_TNetwork,nrm_sc,nrm_lst,nrm_agg,e_TFiber_nrm,map_nrm_i,map_nrm_z]
theorem e_TNetwork_nrmm (f:Fl) (xs:List TNetwork):(xs.map (e_TNetwork f)).map AV.nrm=xs.map (e_TNetwork .o):=by simp [e_TNetwork_nrm]
theorem e_TNetwork_als (f:Fl) (x:TNetwork):(e_TNetwork f x).als=e_TNetwork f.als x:=by simp [e_TNetwork,als_sc,als_lst,als_agg,e_TFiber_als,map_als_i,map_als_z]
theorem e_TNetwork_alsm (f:Fl) (xs:List TNetwork):(xs.map (e_TNetwork f)).map AV.als=xs.map (e_TNetwork f.als):=by simp [e_TNetwork_als]
theorem e_TNetwork_alsc (f:Fl):AV.als ∘ e_TNetwork f=e_TNetwork f.als:=by funext x; simp [e_TNetwork_als]
theorem e_TNetwork_fix (f:Fl) (x:TNetwork):(e_TNetwork f x).fix=e_TNetwork f.fix x:=by simp [e_TNetwork,fix_sc,fix_lst,fix_agg,e_TFiber_fix,map_fix_i,map_fix_z]
theorem e_TNetwork_fixm (f:Fl) (xs:List TNetwork):(xs.map (e_TNetwork f)).map AV.fix=xs.map (e_TNetwork f.fix):=by simp [e_TNetwork_fix]
theorem e_TNetwork_fz (x:TNetwork):(e_TNetwork .o x).fz=true:=by simp [e_TNetwork,AV.i,AV.b,AV.z,fz_sc,fz_lsto,fz_agg,fzL_nil,fzL_cons,fzL_mi,fzL_mb,fzL_mz,fzL_m8,fzL_m64,ouL_m8,ouL_m64,ou_sc,ou_lstu,ou_agg,ouL_nil,ouL_cons,ouL_mi,ouL_mb,ouL_mz,e_TFiber_fzm,e_TFiber_oum]
theorem e_TNetwork_fzm (xs:List TNetwork):fzL (xs.map (e_TNetwork .o))=true:=fzL_of e_TNetwork_fz xs
theorem e_TNetwork_ou (x:TNetwork):(e_TNetwork .u x).ouB=true:=by simp [e_TNetwork,AV.i,AV.b,AV.z,fz_sc,fz_lsto,fz_agg,fzL_nil,fzL_cons,fzL_mi,fzL_mb,fzL_mz,fzL_m8,fzL_m64,ouL_m8,ouL_m64,ou_sc,ou_lstu,ou_agg,ouL_nil,ouL_cons,ouL_mi,ouL_mb,ouL_mz,e_TFiber_fzm,e_TFiber_oum]
theorem e_TNetwork_oum (xs:List TNetwork):ouBL (xs.map (e_TNetwork .u))=true:=ouL_of e_TNetwork_ou xs
structure TRoute where
 Start:Int
 Fibers:List Int
 deriving DecidableEq
def e_TRoute (f:Fl) (x:TRoute):AV:=.agg [.i x.Start,.lst f 1 (x.Fibers.map AV.i)]
theorem e_TRoute_nrm (f:Fl) (x:TRoute):(e_TRoute f x).nrm=e_TRoute .o x:=by simp [e_TRoute,nrm_sc,nrm_lst,nrm_agg,map_nrm_i]
theorem e_TRoute_nrmm (f:Fl) (xs:List TRoute):(xs.map (e_TRoute f)).map AV.nrm=xs.map (e_TRoute .o):=by simp [e_TRoute_nrm]
theorem e_TRoute_als (f:Fl) (x:TRoute):(e_TRoute f x).als=e_TRoute f.als x:=by simp [e_TRoute,als_sc,als_lst,als_agg,map_als_i]
theorem e_TRoute_alsm (f:Fl) (xs:List TRoute):(xs.map (e_TRoute f)).map AV.als=xs.map (e_TRoute f.als):=by simp [e_TRoute_als]
theorem e_TRoute_alsc (f:Fl):AV.als ∘ e_TRoute f=e_TRoute f.als:=by funext x; simp [e_TRoute_als]
theorem e_TRoute_fix (f:Fl) (x:TRoute):(e_TRoute f x).fix=e_TRoute f.fix x:=by simp [e_TRoute,fix_sc,fix_lst,fix_agg,map_fix_i]
theorem e_TRoute_fixm (f:Fl) (xs:List TRoute):(xs.map (e_TRoute f)).map AV.fix=xs.map (e_TRoute f.fix):=by simp [e_TRoute_fix]
theorem e_TRoute_fz (x:TRoute):(e_TRoute .o x).fz=true:=by simp [e_TRoute,AV.i,AV.b,AV.z,fz_sc,fz_lsto,fz_agg,fzL_nil,fzL_cons,fzL_mi,fzL_mb,fzL_mz,fzL_m8,fzL_m64,ouL_m8,ouL_m64,ou_sc,ou_lstu,ou_agg,ouL_nil,ouL_cons,ouL_mi,ouL_mb,ouL_mz]
theorem e_TRoute_fzm (xs:List TRoute):fzL (xs.map (e_TRoute .o))=true:=fzL_of e_TRoute_fz xs
theorem e_TRoute_ou (x:TRoute):(e_TRoute .u x).ouB=true:=by simp [e_TRoute,AV.i,AV.b,AV.z,fz_sc,fz_lsto,fz_agg,fzL_nil,fzL_cons,fzL_mi,fzL_mb,fzL_mz,fzL_m8,fzL_m64,ouL_m8,ouL_m64,ou_sc,ou_lstu,ou_agg,ouL_nil,ouL_cons,ouL_mi,ouL_mb,ouL_mz]
theorem e_TRoute_oum (xs:List TRoute):ouBL (xs.map (e_TRoute .u))=true:=ouL_of e_TRoute_ou xs
structure TBlock where
 First:Int
 Count:Int
 deriving DecidableEq
def e_TBlock (f:Fl) (x:TBlock):AV:=.agg [.i x.First,.i x.Count]
theorem e_TBlock_nrm (f:Fl) (x:TBlock):(e_TBlock f x).nrm=e_TBlock .o x:=by simp [e_TBlock,nrm_sc,nrm_lst,nrm_agg,nrm_sc]
theorem e_TBlock_nrmm (f:Fl) (xs:List TBlock):(xs.map (e_TBlock f)).map AV.nrm=xs.map (e_TBlock .o):=by simp [e_TBlock_nrm]
theorem e_TBlock_als (f:Fl) (x:TBlock):(e_TBlock f x).als=e_TBlock f.als x:=by simp [e_TBlock,als_sc,als_lst,als_agg,nrm_sc]
theorem e_TBlock_alsm (f:Fl) (xs:List TBlock):(xs.map (e_TBlock f)).map AV.als=xs.map (e_TBlock f.als):=by simp [e_TBlock_als]
theorem e_TBlock_alsc (f:Fl):AV.als ∘ e_TBlock f=e_TBlock f.als:=by funext x; simp [e_TBlock_als]
theorem e_TBlock_fix (f:Fl) (x:TBlock):(e_TBlock f x).fix=e_TBlock f.fix x:=by simp [e_TBlock,fix_sc,fix_lst,fix_agg,nrm_sc]
theorem e_TBlock_fixm (f:Fl) (xs:List TBlock):(xs.map (e_TBlock f)).map AV.fix=xs.map (e_TBlock f.fix):=by simp [e_TBlock_fix]
theorem e_TBlock_fz (x:TBlock):(e_TBlock .o x).fz=true:=by simp [e_TBlock,AV.i,AV.b,AV.z,fz_sc,fz_lsto,fz_agg,fzL_nil,fzL_cons,fzL_mi,fzL_mb,fzL_mz,fzL_m8,fzL_m64,ouL_m8,ouL_m64,ou_sc,ou_lstu,ou_agg,ouL_nil,ouL_cons,ouL_mi,ouL_mb,ouL_mz]
theorem e_TBlock_fzm (xs:List TBlock):fzL (xs.map (e_TBlock .o))=true:=fzL_of e_TBlock_fz xs
theorem e_TBlock_ou (x:TBlock):(e_TBlock .u x).ouB=true:=by simp [e_TBlock,AV.i,AV.b,AV.z,fz_sc,fz_lsto,fz_agg,fzL_nil,fzL_cons,fzL_mi,fzL_mb,fzL_mz,fzL_m8,fzL_m64,ouL_m8,ouL_m64,ou_sc,ou_lstu,ou_agg,ouL_nil,ouL_cons,ouL_mi,ouL_mb,ouL_mz]
theorem e_TBlock_oum (xs:List TBlock):ouBL (xs.map (e_TBlock .u))=true:=ouL_of e_TBlock_ou xs
structure TService where
 Id:Int
 Class:Int
 Work:TRoute
 WorkBlock:TBlock
 Spare:TRoute
 SpareBlock:TBlock
 deriving DecidableEq
def e_TService (f:Fl) (x:TService):AV:=.agg [.i x.Id,.i x.Class,.i x.Work.Start,.lst f 1 (x.Work.Fibers.map AV.i),.i x.WorkBlock.First,.i x.WorkBlock.Count,.i x.Spare.Start,.lst f 1 (x.Spare.Fibers.map AV.i),.i x.SpareBlock.First,.i x.SpareBlock.Count]
theorem e_TService_nrm (f:Fl) (x:TService):(e_TService f x).nrm=e_TService .o x:=by simp [e_TService,nrm_sc,nrm_lst,nrm_agg,map_nrm_i]
theorem e_TService_nrmm (f:Fl) (xs:List TService):(xs.map (e_TService f)).map AV.nrm=xs.map (e_TService .o):=by simp [e_TService_nrm]
theorem e_TService_als (f:Fl) (x:TService):(e_TService f x).als=e_TService f.als x:=by simp [e_TService,als_sc,als_lst,als_agg,map_als_i]
theorem e_TService_alsm (f:Fl) (xs:List TService):(xs.map (e_TService f)).map AV.als=xs.map (e_TService f.als):=by simp [e_TService_als]
theorem e_TService_alsc (f:Fl):AV.als ∘ e_TService f=e_TService f.als:=by funext x; simp [e_TService_als]
theorem e_TService_fix (f:Fl) (x:TService):(e_TService f x).fix=e_TService f.fix x:=by simp [e_TService,fix_sc,fix_lst,fix_agg,map_fix_i]
theorem e_TService_fixm (f:Fl) (xs:List TService):(xs.map (e_TService f)).map AV.fix=xs.map (e_TService f.fix):=by simp [e_TService_fix]
theorem e_TService_fz (x:TService):(e_TService .o x).fz=true:=by simp [e_TService,AV.i,AV.b,AV.z,fz_sc,fz_lsto,fz_agg,fzL_nil,fzL_cons,fzL_mi,fzL_mb,fzL_mz,fzL_m8,fzL_m64,ouL_m8,ouL_m64,ou_sc,ou_lstu,ou_agg,ouL_nil,ouL_cons,ouL_mi,ouL_mb,ouL_mz]
theorem e_TService_fzm (xs:List TService):fzL (xs.map (e_TService .o))=true:=fzL_of e_TService_fz xs
theorem e_TService_ou (x:TService):(e_TService .u x).ouB=true:=by simp [e_TService,AV.i,AV.b,AV.z,fz_sc,fz_lsto,fz_agg,fzL_nil,fzL_cons,fzL_mi,fzL_mb,fzL_mz,fzL_m8,fzL_m64,ouL_m8,ouL_m64,ou_sc,ou_lstu,ou_agg,ouL_nil,ouL_cons,ouL_mi,ouL_mb,ouL_mz]
theorem e_TService_oum (xs:List TService):ouBL (xs.map (e_TService .u))=true:=ouL_of e_TService_ou xs
def e_Li (f:Fl) (xs:List Int):AV:=.lst f 1 (xs.map AV.i)
theorem e_Li_nrm (f:Fl) (x:List Int):(e_Li f x).nrm=e_Li .o x:=by simp [e_Li,nrm_sc,nrm_lst,nrm_agg,map_nrm_i]
theorem e_Li_nrmm (f:Fl) (xs:List (List Int)):(xs.map (e_Li f)).map AV.nrm=xs.map (e_Li .o):=by simp [e_Li_nrm]
theorem e_Li_als (f:Fl) (x:List Int):(e_Li f x).als=e_Li f.als x:=by simp [e_Li,als_sc,als_lst,als_agg,map_als_i]
theorem e_Li_alsm (f:Fl) (xs:List (List Int)):(xs.map (e_Li f)).map AV.als=xs.map (e_Li f.als):=by simp [e_Li_als]
theorem e_Li_alsc (f:Fl):AV.als ∘ e_Li f=e_Li f.als:=by funext x; simp [e_Li_als]
theorem e_Li_fix (f:Fl) (x:List Int):(e_Li f x).fix=e_Li f.fix x:=by simp [e_Li,fix_sc,fix_lst,fix_agg,map_fix_i]
theorem e_Li_fixm (f:Fl) (xs:List (List Int)):(xs.map (e_Li f)).map AV.fix=xs.map (e_Li f.fix):=by simp [e_Li_fix]
theorem e_Li_fz (x:List Int):(e_Li .o x).fz=true:=by simp [e_Li,AV.i,AV.b,AV.z,fz_sc,fz_lsto,fz_agg,fzL_nil,fzL_cons,fzL_mi,fzL_mb,fzL_mz,fzL_m8,fzL_m64,ouL_m8,ouL_m64,ou_sc,ou_lstu,ou_agg,ouL_nil,ouL_cons,ouL_mi,ouL_mb,ouL_mz]
theorem e_Li_fzm (xs:List (List Int)):fzL (xs.map (e_Li .o))=true:=fzL_of e_Li_fz xs
theorem e_Li_ou (x:List Int):(e_Li .u x).ouB=true:=by simp [e_Li,AV.i,AV.b,AV.z,fz_sc,fz_lsto,fz_agg,fzL_nil,fzL_cons,fzL_mi,fzL_mb,fzL_mz,fzL_m8,fzL_m64,ouL_m8,ouL_m64,ou_sc,ou_lstu,ou_agg,ouL_nil,ouL_cons,ouL_mi,ouL_mb,ouL_mz]
theorem e_Li_oum (xs:List (List Int)):ouBL (xs.map (e_Li .u))=true:=ouL_of e_Li_ou xs
structure TLight where
 Id:Int
 Route:TRoute
 Block:TBlock
 deriving DecidableEq
def e_TLight (f:Fl) (x:TLight):AV:=.agg [.i x.Id,.i x.Route.Start,.lst f 1 (x.Route.Fibers.map AV.i),.i x.Block.First,.i x.Block.Count]
theorem e_TLight_nrm (f:Fl) (x:TLight):(e_TLight f x).nrm=e_TLight .o x:=by simp [e_TLight,nrm_sc,nrm_lst,nrm_agg,map_nrm_i]
theorem e_TLight_nrmm (f:Fl) (xs:List TLight):(xs.map (e_TLight f)).map AV.nrm=xs.map (e_TLight .o):=by simp [e_TLight_nrm]
theorem e_TLight_als (f:Fl) (x:TLight):(e_TLight f x).als=e_TLight f.als x:=by simp [e_TLight,als_sc,als_lst,als_agg,map_als_i]
theorem e_TLight_alsm (f:Fl) (xs:List TLight):(xs.map (e_TLight f)).map AV.als=xs.map (e_TLight f.als):=by simp [e_TLight_als]
theorem e_TLight_alsc (f:Fl):AV.als ∘ e_TLight f=e_TLight f.als:=by funext x; simp [e_TLight_als]
theorem e_TLight_fix (f:Fl) (x:TLight):(e_TLight f x).fix=e_TLight f.fix x:=by simp [e_TLight,fix_sc,fix_lst,fix_agg,map_fix_i]
theorem e_TLight_fixm (f:Fl) (xs:List TLight):(xs.map (e_TLight f)).map AV.fix=xs.map (e_TLight f.fix):=by simp [e_TLight_fix]
theorem e_TLight_fz (x:TLight):(e_TLight .o x).fz=true:=by simp [e_TLight,AV.i,AV.b,AV.z,fz_sc,fz_lsto,fz_agg,fzL_nil,fzL_cons,fzL_mi,fzL_mb,fzL_mz,fzL_m8,fzL_m64,ouL_m8,ouL_m64,ou_sc,ou_lstu,ou_agg,ouL_nil,ouL_cons,ouL_mi,ouL_mb,ouL_mz]
theorem e_TLight_fzm (xs:List TLight):fzL (xs.map (e_TLight .o))=true:=fzL_of e_TLight_fz xs
theorem e_TLight_ou (x:TLight):(e_TLight .u x).ouB=true:=by simp [e_TLight,AV.i,AV.b,AV.z,fz_sc,fz_lsto,fz_agg,fzL_nil,fzL_cons,fzL_mi,fzL_mb,fzL_mz,fzL_m8,fzL_m64,ouL_m8,ouL_m64,ou_sc,ou_lstu,ou_agg,ouL_nil,ouL_cons,ouL_mi,ouL_mb,ouL_mz]
theorem e_TLight_oum (xs:List TLight):ouBL (xs.map (e_TLight .u))=true:=ouL_of e_TLight_ou xs
def tz_TService {H:World→Prop}:Tok H e_TService 10:=⟨(⟨0,0,(⟨0,[]⟩:TRoute),(⟨0,0⟩:TBlock),(⟨0,[]⟩:TRoute),(⟨0,0⟩:TBlock)⟩:TService),#[.int .i64 0,.int .i64 0,.int .i64 0,.slice none 0 0,.int .i64 0,.int .i64 0,.int .i64 0,.slice none 0 0,.int .i64 0,.int .i64 0],rfl,by simp [Value.oneCell'],fun W S B _=>(constOk_rep (v:=.agg #[.int .i64 0,.int .i64 0,.int .i64 0,.slice none 0 0,.int .i64 0,.int .i64 0,.int .i64 0,.slice none 0 0,.int .i64 0,.int .i64 0]) (a:=e_TService .s (⟨0,0,(⟨0,[]⟩:TRoute),(⟨0,0⟩:TBlock),(⟨0,[]⟩:TRoute),(⟨0,0⟩:TBlock)⟩:TService)) rfl W S B).1⟩
theorem tz_TService_E {H:World→Prop}:tokE (tz_TService (H:=H))=.agg [.i 0,.i 0,.i 0,.sc (.slice none 0 0),.i 0,.i 0,.i 0,.sc (.slice none 0 0),.i 0,.i 0]:=rfl
theorem tz_TService_F {H:World→Prop}:(tz_TService (H:=H)).Free:=fun W S B=>(constOk_rep (v:=.agg #[.int .i64 0,.int .i64 0,.int .i64 0,.slice none 0 0,.int .i64 0,.int .i64 0,.int .i64 0,.slice none 0 0,.int .i64 0,.int .i64 0]) (a:=e_TService .u (⟨0,0,(⟨0,[]⟩:TRoute),(⟨0,0⟩:TBlock),(⟨0,[]⟩:TRoute),(⟨0,0⟩:TBlock)⟩:TService)) rfl W S B).1
theorem sh_TService (x:TService):(e_TService .u x).shs=e_TService .s x:=by simp [e_TService,AV.shs,shsL,shsL_map AV.i AV.i fun _=>rfl]
def M_af (aZ0:List ByteArray) (sZ2:Int×Int):Option ((Int×Int) ⊕ (Int ⊕ Int)) :=
 cond (decide (sZ2.2 < (aZ0.length:Int))) ((geti aZ0 sZ2.2).bind fun yZ4=>cond (decide ((IntKind.wrap .i64 (sZ2.1 - (yZ4.size:Int))) < 0)) (some (.inr (.inr (-1)))) (some (.inl (IntKind.wrap .i64 (sZ2.1 - (yZ4.size:Int)),IntKind.wrap .i64 (sZ2.2+1))))) (some (.inr (.inl sZ2.1)))
def M_dp (aZ0:List ByteArray) (leftZ0:Int):Option Int :=
 cond (decide ((IntKind.wrap .i64 (leftZ0 - (aZ0.length:Int))) < 0)) (some (-1)) ((iter (M_af aZ0) N0 (IntKind.wrap .i64 (leftZ0 - (aZ0.length:Int)),0)).bind fun oZ6=>(match oZ6 with | .inl vZ7=>some vZ7 | .inr xZ8=>some xZ8))
def M_ds (aZ0:List TFiber) (leftZ0:Int):Option Int :=
 cond (decide ((IntKind.wrap .i64 (leftZ0 - (aZ0.length:Int))) < 0)) (some (-1)) (some (IntKind.wrap .i64 (leftZ0 - (aZ0.length:Int))))
def M_dv (aZ0:TNetwork) (leftZ0:Int):Option Int :=
 (M_dp aZ0.Nodes leftZ0).bind fun rZ1=>cond (decide (rZ1 < 0)) (some (-1)) ((M_ds aZ0.Fibers rZ1).bind fun rZ3=>cond (decide (rZ3 < 0)) (some (-1)) (some rZ3))
def M_dx (aZ0:List Int) (leftZ0:Int):Option Int :=
 cond (decide ((IntKind.wrap .i64 (leftZ0 - (aZ0.length:Int))) < 0)) (some (-1)) (some (IntKind.wrap .i64 (leftZ0 - (aZ0.length:Int))))
def M_cj (aZ0:TRoute) (leftZ0:Int):Option Int :=
 (M_dx aZ0.Fibers leftZ0).bind fun rZ1=>cond (decide (rZ1 < 0)) (some (-1)) (some rZ1)
def M_ea (aZ0:TService) (leftZ0:Int):Option Int :=
 (M_cj aZ0.Work leftZ0).bind fun rZ1=>cond (decide (rZ1 < 0)) (some (-1)) ((M_cj aZ0.Spare rZ1).bind fun rZ3=>cond (decide (rZ3 < 0)) (some (-1)) (some rZ3))
def M_am (aZ0:List TService) (sZ2:Int×Int):Option ((Int×Int) ⊕ (Int ⊕ Int)) :=
 cond (decide (sZ2.2 < (aZ0.length:Int))) ((geti aZ0 sZ2.2).bind fun yZ4=>(M_ea yZ4 sZ2.1).bind fun rZ5=>cond (decide (rZ5 < 0)) (some (.inr (.inr (-1)))) (some (.inl (rZ5,IntKind.wrap .i64 (sZ2.2+1))))) (some (.inr (.inl sZ2.1)))
def M_eb (aZ0:List TService) (leftZ0:Int):Option Int :=
 cond (decide ((IntKind.wrap .i64 (leftZ0 - (aZ0.length:Int))) < 0)) (some (-1)) ((iter (M_am aZ0) N0 (IntKind.wrap .i64 (leftZ0 - (aZ0.length:Int)),0)).bind fun oZ7=>(match oZ7 with | .inl vZ8=>some vZ8 | .inr xZ9=>some xZ9))
def M_ag (aZ0:List ByteArray) (sZ4:Int×List ByteArray):Option ((Int×List ByteArray) ⊕ (List ByteArray)) :=
 cond (decide (sZ4.1 < (aZ0.length:Int))) ((geti aZ0 sZ4.1).bind fun yZ6=>(grd (0≤sZ4.1∧sZ4.1 < (sZ4.2.length:Int))).bind fun kZ7=>(sZ4.2[(Int.toNat sZ4.1)]?).bind fun yZ8=>bnd (sZ4.2.set (Int.toNat sZ4.1) yZ6) fun lZ9=>some (.inl (IntKind.wrap .i64 (sZ4.1+1),lZ9))) (some (.inr sZ4.2))
def M_dq (aZ0:List ByteArray):Option (List ByteArray) :=
 (grd (0≤(aZ0.length:Int)∧(aZ0.length:Int)≤(aZ0.length:Int)∧(aZ0.length:Int) * ((16:Nat):Int)≤140737488355328∧(aZ0.length:Int)≤9223372036854775807)).bind fun uZ1=>bnd (List.replicate (Int.toNat (aZ0.length:Int)) (⟨#[]⟩:ByteArray)) fun lZ2=>(iter (M_ag aZ0) N0 (0,lZ2)).bind fun oZ11=>some oZ11
def M_cs (aZ0:TFiber):Option TFiber :=
 some (⟨aZ0.A,aZ0.B,aZ0.Length,aZ0.Risk⟩:TFiber)
def M_ai (aZ0:List TFiber) (sZ4:Int×List TFiber):Option ((Int×List TFiber) ⊕ (List TFiber)) :=
 cond (decide (sZ4.1 < (aZ0.length:Int))) ((geti aZ0 sZ4.1).bind fun yZ6=>(M_cs yZ6).bind fun rZ7=>(grd (0≤sZ4.1∧sZ4.1 < (sZ4.2.length:Int))).bind fun kZ8=>(sZ4.2[(Int.toNat sZ4.1)]?).bind fun yZ9=>bnd (sZ4.2.set (Int.toNat sZ4.1) rZ7) fun lZ10=>some (.inl (IntKind.wrap .i64 (sZ4.1+1),lZ10))) (some (.inr sZ4.2))
def M_dt (aZ0:List TFiber):Option (List TFiber) :=
 (grd (0≤(aZ0.length:Int)∧(aZ0.length:Int)≤(aZ0.length:Int)∧(aZ0.length:Int) * ((32:Nat):Int)≤140737488355328∧(aZ0.length:Int)≤9223372036854775807)).bind fun uZ1=>bnd (List.replicate (Int.toNat (aZ0.length:Int)) (⟨0,0,0,0⟩:TFiber)) fun lZ2=>(iter (M_ai aZ0) N0 (0,lZ2)).bind fun oZ12=>some oZ12
def M_bg (aZ0:TNetwork):Option TNetwork :=
 (M_dq aZ0.Nodes).bind fun rZ1=>(M_dt aZ0.Fibers).bind fun rZ2=>some (⟨rZ1,rZ2⟩:TNetwork)
def M_ak (aZ0:List Int) (sZ4:Int×List Int):Option ((Int×List Int) ⊕ (List Int)) :=
 cond (decide (sZ4.1 < (aZ0.length:Int))) ((geti aZ0 sZ4.1).bind fun yZ6=>(grd (0≤sZ4.1∧sZ4.1 < (sZ4.2.length:Int))).bind fun kZ7=>(sZ4.2[(Int.toNat sZ4.1)]?).bind fun yZ8=>bnd (sZ4.2.set (Int.toNat sZ4.1) yZ6) fun lZ9=>some (.inl (IntKind.wrap .i64 (sZ4.1+1),lZ9))) (some (.inr sZ4.2))
def M_dy (aZ0:List Int):Option (List Int) :=
 (grd (0≤(aZ0.length:Int)∧(aZ0.length:Int)≤(aZ0.length:Int)∧(aZ0.length:Int) * ((8:Nat):Int)≤140737488355328∧(aZ0.length:Int)≤9223372036854775807)).bind fun uZ1=>bnd (List.replicate (Int.toNat (aZ0.length:Int)) 0) fun lZ2=>(iter (M_ak aZ0) N0 (0,lZ2)).bind fun oZ11=>some oZ11
def M_ck (aZ0:TRoute):Option TRoute :=
 (M_dy aZ0.Fibers).bind fun rZ1=>some (⟨aZ0.Start,rZ1⟩:TRoute)
def M_cm (aZ0:TBlock):Option TBlock :=
 some (⟨aZ0.First,aZ0.Count⟩:TBlock)
def M_cu (aZ0:TService):Option TService :=
 (M_ck aZ0.Work).bind fun rZ1=>(M_cm aZ0.WorkBlock).bind fun rZ2=>(M_ck aZ0.Spare).bind fun rZ3=>(M_cm aZ0.SpareBlock).bind fun rZ4=>some (⟨aZ0.Id,aZ0.Class,(⟨rZ1.Start,rZ1.Fibers⟩:TRoute),(⟨rZ2.First,rZ2.Count⟩:TBlock),(⟨rZ3.Start,rZ3.Fibers⟩:TRoute),(⟨rZ4.First,rZ4.Count⟩:TBlock)⟩:TService)
def M_an (aZ0:List TService) (sZ4:Int×List TService):Option ((Int×List TService) ⊕ (List TService)) :=
 cond (decide (sZ4.1 < (aZ0.length:Int))) ((geti aZ0 sZ4.1).bind fun yZ6=>(M_cu yZ6).bind fun rZ7=>(grd (0≤sZ4.1∧sZ4.1 < (sZ4.2.length:Int))).bind fun kZ8=>(sZ4.2[(Int.toNat sZ4.1)]?).bind fun yZ9=>bnd (sZ4.2.set (Int.toNat sZ4.1) (⟨rZ7.Id,rZ7.Class,(⟨rZ7.Work.Start,rZ7.Work.Fibers⟩:TRoute),(⟨rZ7.WorkBlock.First,rZ7.WorkBlock.Count⟩:TBlock),(⟨rZ7.Spare.Start,rZ7.Spare.Fibers⟩:TRoute),(⟨rZ7.SpareBlock.First,rZ7.SpareBlock.Count⟩:TBlock)⟩:TService)) fun lZ10=>some (.inl (IntKind.wrap .i64 (sZ4.1+1),lZ10))) (some (.inr sZ4.2))
def M_bh (aZ0:List TService):Option (List TService) :=
 (grd (0≤(aZ0.length:Int)∧(aZ0.length:Int)≤(aZ0.length:Int)∧(aZ0.length:Int) * ((112:Nat):Int)≤140737488355328∧(aZ0.length:Int)≤9223372036854775807)).bind fun uZ1=>bnd (List.replicate (Int.toNat (aZ0.length:Int)) (⟨0,0,(⟨0,[]⟩:TRoute),(⟨0,0⟩:TBlock),(⟨0,[]⟩:TRoute),(⟨0,0⟩:TBlock)⟩:TService)) fun lZ2=>(iter (M_an aZ0) N0 (0,lZ2)).bind fun oZ12=>some oZ12
def M_a (xZ0:Int) (aZ0:Int) (bZ0:Int):Option Bool :=
 cond (decide (aZ0≤xZ0)) (some (decide (xZ0≤bZ0))) (some false)
def M_ek (bZ0:Int):Option Bool :=
 cond (decide (97≤bZ0)) (cond (decide (bZ0≤122)) (some true) (cond (decide (48≤bZ0)) (some (decide (bZ0≤57))) (some false))) (cond (decide (48≤bZ0)) (some (decide (bZ0≤57))) (some false))
def M_aw (sZ0:ByteArray) (sZ7:Int):Option (Int ⊕ (Unit ⊕ Bool)) :=
 cond (decide (sZ7 < (sZ0.size:Int))) ((getz sZ0 sZ7).bind fun yZ9=>(M_ek (yZ9.toNat:Int)).bind fun rZ10=>cond (!rZ10) (some (.inr (.inr false))) (some (.inl (IntKind.wrap .i64 (sZ7+1))))) (some (.inr (.inl ())))
def M_el (sZ0:ByteArray):Option Bool :=
 ((M_a (sZ0.size:Int) 1 8).bind fun rZ1=>cond (!rZ1) (some true) ((getz sZ0 0).bind fun yZ3=>cond (decide ((yZ3.toNat:Int) < 97)) (some true) (some (decide (122 < (yZ3.toNat:Int))))):Option Bool).bind fun oZ5=>cond (oZ5) (some false) ((iter (M_aw sZ0) N0 0).bind fun oZ12=>(match oZ12 with | .inl vZ13=>some true | .inr xZ14=>some xZ14))
def M_ax (listZ0:List ByteArray) (nameZ0:ByteArray) (sZ1:Int):Option (Int ⊕ (Unit ⊕ Int)) :=
 cond (decide (sZ1 < (listZ0.length:Int))) ((geti listZ0 sZ1).bind fun yZ3=>cond (yZ3.toList==nameZ0.toList) (some (.inr (.inr sZ1))) (some (.inl (IntKind.wrap .i64 (sZ1+1))))) (some (.inr (.inl ())))
def M_em (listZ0:List ByteArray) (nameZ0:ByteArray):Option Int :=
 (iter (M_ax listZ0 nameZ0) N0 0).bind fun oZ5=>(match oZ5 with | .inl vZ6=>some (-1) | .inr xZ7=>some xZ7)
def M_dm (fZ0:TFiber) (nodesZ0:Int):Option Bool :=
 (M_a fZ0.A 0 (IntKind.wrap .i64 (nodesZ0 - 1))).bind fun rZ1=>cond (rZ1) ((M_a fZ0.B (IntKind.wrap .i64 (fZ0.A+1)) (IntKind.wrap .i64 (nodesZ0 - 1))).bind fun rZ3=>cond (rZ3) ((M_a fZ0.Length 1 5000).bind fun rZ5=>cond (rZ5) ((M_a fZ0.Risk 0 9).bind fun rZ7=>some rZ7) (some false)) (some false)) (some false)
def M_dn (fZ0:TFiber) (gZ0:TFiber):Option Int :=
 cond (fZ0.A != gZ0.A) (some (IntKind.wrap .i64 (fZ0.A - gZ0.A))) (cond (fZ0.B != gZ0.B) (some (IntKind.wrap .i64 (fZ0.B - gZ0.B))) (cond (fZ0.Length != gZ0.Length) (some (IntKind.wrap .i64 (fZ0.Length - gZ0.Length))) (some (IntKind.wrap .i64 (fZ0.Risk - gZ0.Risk)))))
def M_aa (nZ0:TNetwork) (sZ5:Int):Option (Int ⊕ (Unit ⊕ Bool)) :=
 cond (decide (sZ5 < (nZ0.Nodes.length:Int))) (((geti nZ0.Nodes sZ5).bind fun yZ7=>(M_el yZ7).bind fun rZ8=>cond (!rZ8) (some true) ((M_em nZ0.Nodes yZ7).bind fun rZ10=>some (rZ10 != sZ5)):Option Bool).bind fun oZ11=>cond (oZ11) (some (.inr (.inr false))) (some (.inl (IntKind.wrap .i64 (sZ5+1))))) (some (.inr (.inl ())))
def M_ab (nZ0:TNetwork) (sZ16:Int):Option (Int ⊕ (Unit ⊕ Bool)) :=
 cond (decide (sZ16 < (nZ0.Fibers.length:Int))) (((geti nZ0.Fibers sZ16).bind fun yZ18=>(M_dm yZ18 (nZ0.Nodes.length:Int)).bind fun rZ19=>cond (!rZ19) (some true) (cond (decide (0 < sZ16)) ((geti nZ0.Fibers (IntKind.wrap .i64 (sZ16 - 1))).bind fun yZ22=>(M_dn yZ22 yZ18).bind fun rZ23=>some (decide (0 < rZ23))) (some false)):Option Bool).bind fun oZ24=>cond (oZ24) (some (.inr (.inr false))) (some (.inl (IntKind.wrap .i64 (sZ16+1))))) (some (.inr (.inl ())))
def M_cf (nZ0:TNetwork):Option Bool :=
 ((M_a (nZ0.Nodes.length:Int) 2 8).bind fun rZ1=>cond (!rZ1) (some true) (some (decide (14 < (nZ0.Fibers.length:Int)))):Option Bool).bind fun oZ3=>cond (oZ3) (some false) ((iter (M_aa nZ0) N0 0).bind fun oZ13=>(match oZ13 with | .inl vZ14=>(iter (M_ab nZ0) N0 0).bind fun oZ26=>(match oZ26 with | .inl vZ27=>some true | .inr xZ28=>some xZ28) | .inr xZ15=>some xZ15))
def M_dd (nZ0:TNetwork) (fiberZ0:Int) (nodeZ0:Int):Option Int :=
 (geti nZ0.Fibers fiberZ0).bind fun yZ1=>cond (nodeZ0==yZ1.A) (some yZ1.B) (cond (nodeZ0==yZ1.B) (some yZ1.A) (some (-1)))
def M_t (lZ0:List Int) (nZ0:Int) (sZ1:Int):Option (Int ⊕ (Unit ⊕ Bool)) :=
 cond (decide (sZ1 < (lZ0.length:Int))) ((geti lZ0 sZ1).bind fun yZ3=>cond (yZ3==nZ0) (some (.inr (.inr true))) (some (.inl (IntKind.wrap .i64 (sZ1+1))))) (some (.inr (.inl ())))
def M_bl (lZ0:List Int) (nZ0:Int):Option Bool :=
 (iter (M_t lZ0 nZ0) N0 0).bind fun oZ5=>(match oZ5 with | .inl vZ6=>some false | .inr xZ7=>some xZ7)
def M_ad (nZ0:TNetwork) (rZ0:TRoute) (sZ8:Int×List Int):Option ((Int×List Int) ⊕ ((List Int) ⊕ (List Int×Bool))) :=
 cond (decide (sZ8.1 < (rZ0.Fibers.length:Int))) ((geti rZ0.Fibers sZ8.1).bind fun yZ10=>(M_a yZ10 0 (IntKind.wrap .i64 ((nZ0.Fibers.length:Int) - 1))).bind fun rZ11=>cond (!rZ11) (some (.inr (.inr (sZ8.2,false)))) ((grd (0≤(IntKind.wrap .i64 ((sZ8.2.length:Int) - 1))∧(IntKind.wrap .i64 ((sZ8.2.length:Int) - 1)) < (sZ8.2.length:Int))).bind fun kZ13=>(sZ8.2[(Int.toNat (IntKind.wrap .i64 ((sZ8.2.length:Int) - 1)))]?).bind fun yZ14=>(M_dd nZ0 yZ10 yZ14).bind fun rZ15=>(cond (decide (rZ15 < 0)) (some true) ((M_bl sZ8.2 rZ15).bind fun rZ17=>some rZ17):Option Bool).bind fun oZ18=>cond (oZ18) (some (.inr (.inr (sZ8.2,false)))) (bnd ([rZ15]) fun lZ20=>(grd ((sZ8.2.length+1) * 8≤140737488355328)).bind fun uZ23=>bnd (sZ8.2++lZ20) fun lZ24=>some (.inl (IntKind.wrap .i64 (sZ8.1+1),lZ24))))) (some (.inr (.inl sZ8.2)))
def M_ch (nZ0:TNetwork) (rZ0:TRoute):Option (List Int×Bool) :=
 bnd ([rZ0.Start]) fun lZ1=>((M_a rZ0.Start 0 (IntKind.wrap .i64 ((nZ0.Nodes.length:Int) - 1))).bind fun rZ4=>cond (!rZ4) (some true) (some ((rZ0.Fibers.length:Int)==0)):Option Bool).bind fun oZ6=>cond (oZ6) (some (lZ1,false)) ((iter (M_ad nZ0 rZ0) N0 (0,lZ1)).bind fun oZ27=>(match oZ27 with | .inl vZ28=>some (vZ28,true) | .inr xZ29=>some xZ29))
def M_bp (nZ0:TNetwork) (rZ0:TRoute):Option Bool :=
 (M_cf nZ0).bind fun rZ1=>cond (!rZ1) (some false) ((M_ch nZ0 rZ0).bind fun rZ3=>some rZ3.2)
def M_bw (bZ0:TBlock):Option Bool :=
 (M_a bZ0.First 0 23).bind fun rZ1=>cond (rZ1) ((M_a bZ0.Count 1 (IntKind.wrap .i64 (24 - bZ0.First))).bind fun rZ3=>some rZ3) (some false)
def M_eq (nZ0:TNetwork) (rZ0:TRoute):Option (List Int) :=
 (M_ch nZ0 rZ0).bind fun rZ1=>some rZ1.1
def M_bt (nZ0:TNetwork) (rZ0:TRoute):Option Int :=
 (M_eq nZ0 rZ0).bind fun rZ1=>(grd (0≤(IntKind.wrap .i64 ((rZ1.length:Int) - 1))∧(IntKind.wrap .i64 ((rZ1.length:Int) - 1)) < (rZ1.length:Int))).bind fun kZ2=>(rZ1[(Int.toNat (IntKind.wrap .i64 ((rZ1.length:Int) - 1)))]?).bind fun yZ3=>some yZ3
def M_m (nZ0:TNetwork) (fiberZ0:Int) (sZ7:Int×List Int):Option ((Int×List Int) ⊕ (List Int)) :=
 cond (decide (sZ7.1 < (nZ0.Fibers.length:Int))) ((geti nZ0.Fibers sZ7.1).bind fun yZ9=>(geti nZ0.Fibers fiberZ0).bind fun yZ10=>cond (yZ9.Risk==yZ10.Risk) (bnd ([sZ7.1]) fun lZ12=>(grd ((sZ7.2.length+1) * 8≤140737488355328)).bind fun uZ15=>bnd (sZ7.2++lZ12) fun lZ16=>some (.inl (IntKind.wrap .i64 (sZ7.1+1),lZ16))) (some (.inl (IntKind.wrap .i64 (sZ7.1+1),sZ7.2)))) (some (.inr sZ7.2))
def M_cc (nZ0:TNetwork) (fiberZ0:Int):Option (List Int) :=
 (geti nZ0.Fibers fiberZ0).bind fun yZ1=>cond (yZ1.Risk==0) (bnd ([fiberZ0]) fun lZ3=>some lZ3) ((iter (M_m nZ0 fiberZ0) N0 (0,[])).bind fun oZ19=>some oZ19)
def M_p (bZ0:TRoute) (rZ4:List Int) (sZ5:Int):Option (Int ⊕ (Unit ⊕ Bool)) :=
 cond (decide (sZ5 < (bZ0.Fibers.length:Int))) ((geti bZ0.Fibers sZ5).bind fun yZ7=>(M_bl rZ4 yZ7).bind fun rZ8=>cond (rZ8) (some (.inr (.inr false))) (some (.inl (IntKind.wrap .i64 (sZ5+1))))) (some (.inr (.inl ())))
def M_x (nZ0:TNetwork) (aZ0:TRoute) (bZ0:TRoute) (sZ1:Int):Option (Int ⊕ (Unit ⊕ Bool)) :=
 cond (decide (sZ1 < (aZ0.Fibers.length:Int))) (((geti aZ0.Fibers sZ1).bind fun yZ3=>(M_cc nZ0 yZ3).bind fun rZ4=>(iter (M_p bZ0 rZ4) N0 0).bind fun oZ10=>(match oZ10 with | .inl vZ11=>some (.inl ()) | .inr xZ12=>some (.inr xZ12)):Option (Unit ⊕ Bool)).bind fun oZ15=>(match oZ15 with | .inl vZ16=>some (.inl (IntKind.wrap .i64 (sZ1+1))) | .inr xZ17=>some (.inr (.inr xZ17)))) (some (.inr (.inl ())))
def M_cd (nZ0:TNetwork) (aZ0:TRoute) (bZ0:TRoute):Option Bool :=
 (iter (M_x nZ0 aZ0 bZ0) N0 0).bind fun oZ19=>(match oZ19 with | .inl vZ20=>some true | .inr xZ21=>some xZ21)
def M_cw (nZ0:TNetwork) (sZ0:TService):Option Bool :=
 ((M_a sZ0.Id 1 999).bind fun rZ1=>cond (!rZ1) (some true) ((M_a sZ0.Class 0 2).bind fun rZ3=>cond (!rZ3) (some true) ((M_bp nZ0 sZ0.Work).bind fun rZ5=>cond (!rZ5) (some true) ((M_bw sZ0.WorkBlock).bind fun rZ7=>some (!rZ7)))):Option Bool).bind fun oZ8=>cond (oZ8) (some false) (cond (sZ0.Class==0) ((cond (sZ0.Spare.Start==0) (cond ((sZ0.Spare.Fibers.length:Int)==0) (some (sZ0.SpareBlock.First==0&&sZ0.SpareBlock.Count==0)) (some false)) (some false):Option Bool).bind fun oZ13=>some oZ13) ((M_bp nZ0 sZ0.Spare).bind fun rZ14=>cond (rZ14) ((M_bw sZ0.SpareBlock).bind fun rZ16=>cond (rZ16) (cond (sZ0.Spare.Start==sZ0.Work.Start) ((M_bt nZ0 sZ0.Spare).bind fun rZ19=>(M_bt nZ0 sZ0.Work).bind fun rZ20=>cond (rZ19==rZ20) ((M_cd nZ0 sZ0.Work sZ0.Spare).bind fun rZ22=>some rZ22) (some false)) (some false)) (some false)) (some false)))
def M_u (rZ0:TRoute) (groupZ0:List Int) (sZ1:Int):Option (Int ⊕ (Unit ⊕ Bool)) :=
 cond (decide (sZ1 < (rZ0.Fibers.length:Int))) ((geti rZ0.Fibers sZ1).bind fun yZ3=>(M_bl groupZ0 yZ3).bind fun rZ4=>cond (rZ4) (some (.inr (.inr true))) (some (.inl (IntKind.wrap .i64 (sZ1+1))))) (some (.inr (.inl ())))
def M_de (rZ0:TRoute) (groupZ0:List Int):Option Bool :=
 (iter (M_u rZ0 groupZ0) N0 0).bind fun oZ6=>(match oZ6 with | .inl vZ7=>some false | .inr xZ8=>some xZ8)
def M_bz (bZ0:TBlock):Option Int :=
 (grd (0≤(IntKind.wrap .u64 bZ0.Count))).bind fun uZ1=>(grd (0≤(IntKind.wrap .u64 bZ0.First))).bind fun uZ2=>some (IntKind.wrap .i64 ((IntKind.wrap .i64 ((IntKind.wrap .i64 (1 * 2 ^ (min (Int.toNat (IntKind.wrap .u64 bZ0.Count)) (IntKind.bits .i64)))) - 1)) * 2 ^ (min (Int.toNat (IntKind.wrap .u64 bZ0.First)) (IntKind.bits .i64))))
def M_bf (aZ0:TRoute) (xZ0:TBlock) (bZ0:TRoute) (yZ0:TBlock):Option Bool :=
 (M_de aZ0 bZ0.Fibers).bind fun rZ1=>cond (rZ1) (cond (decide (0 < xZ0.Count)) (cond (decide (0 < yZ0.Count)) ((M_bz xZ0).bind fun rZ5=>(M_bz yZ0).bind fun rZ6=>some ((bits .and .i64 rZ5 rZ6) != 0)) (some false)) (some false)) (some false)
def M_cz (nZ0:TNetwork) (aZ0:TService) (bZ0:TService):Option Bool :=
 ((M_bf aZ0.Work aZ0.WorkBlock bZ0.Work bZ0.WorkBlock).bind fun rZ1=>cond (rZ1) (some true) ((M_bf aZ0.Work aZ0.WorkBlock bZ0.Spare bZ0.SpareBlock).bind fun rZ3=>cond (rZ3) (some true) ((M_bf aZ0.Spare aZ0.SpareBlock bZ0.Work bZ0.WorkBlock).bind fun rZ5=>some rZ5)):Option Bool).bind fun oZ6=>cond (oZ6) (some false) ((cond (aZ0.Class==2) (cond (bZ0.Class==2) ((M_cd nZ0 aZ0.Work bZ0.Work).bind fun rZ10=>some rZ10) (some false)) (some false):Option Bool).bind fun oZ11=>cond (oZ11) (some true) ((M_bf aZ0.Spare aZ0.SpareBlock bZ0.Spare bZ0.SpareBlock).bind fun rZ13=>some (!rZ13)))
def M_g (nZ0:TNetwork) (listZ0:List TService) (sZ5:Int) (sZ14:Int):Option (Int ⊕ (Unit ⊕ Bool)) :=
 cond (decide (sZ14 < sZ5)) ((geti listZ0 sZ14).bind fun yZ16=>(geti listZ0 sZ5).bind fun yZ17=>(M_cz nZ0 yZ16 yZ17).bind fun rZ18=>cond (!rZ18) (some (.inr (.inr false))) (some (.inl (IntKind.wrap .i64 (sZ14+1))))) (some (.inr (.inl ())))
def M_r (nZ0:TNetwork) (listZ0:List TService) (sZ5:Int):Option (Int ⊕ (Unit ⊕ Bool)) :=
 cond (decide (sZ5 < (listZ0.length:Int))) ((((geti listZ0 sZ5).bind fun yZ7=>(M_cw nZ0 yZ7).bind fun rZ8=>cond (!rZ8) (some true) (cond (decide (0 < sZ5)) ((geti listZ0 (IntKind.wrap .i64 (sZ5 - 1))).bind fun yZ11=>some (decide (yZ7.Id≤yZ11.Id))) (some false)):Option Bool).bind fun oZ12=>cond (oZ12) (some (.inr false)) ((iter (M_g nZ0 listZ0 sZ5) N0 0).bind fun oZ20=>(match oZ20 with | .inl vZ21=>some (.inl ()) | .inr xZ22=>some (.inr xZ22))):Option (Unit ⊕ Bool)).bind fun oZ25=>(match oZ25 with | .inl vZ26=>some (.inl (IntKind.wrap .i64 (sZ5+1))) | .inr xZ27=>some (.inr (.inr xZ27)))) (some (.inr (.inl ())))
def M_db (nZ0:TNetwork) (listZ0:List TService):Option Bool :=
 ((M_cf nZ0).bind fun rZ1=>cond (!rZ1) (some true) (some (decide (8 < (listZ0.length:Int)))):Option Bool).bind fun oZ3=>cond (oZ3) (some false) ((iter (M_r nZ0 listZ0) N0 0).bind fun oZ29=>(match oZ29 with | .inl vZ30=>some true | .inr xZ31=>some xZ31))
def M_et (lZ0:List Int):Option (List Int) :=
 (grd (lZ0.length * 8≤140737488355328)).bind fun uZ1=>some lZ0
def M_cr (rZ0:TRoute):Option TRoute :=
 (M_et rZ0.Fibers).bind fun rZ1=>some (⟨rZ0.Start,rZ1⟩:TRoute)
def M_dj (sZ0:TService):Option TService :=
 (M_cr sZ0.Work).bind fun rZ1=>(M_cr (⟨sZ0.Spare.Start,sZ0.Spare.Fibers⟩:TRoute)).bind fun rZ2=>some (⟨sZ0.Id,sZ0.Class,(⟨rZ1.Start,rZ1.Fibers⟩:TRoute),(⟨sZ0.WorkBlock.First,sZ0.WorkBlock.Count⟩:TBlock),(⟨rZ2.Start,rZ2.Fibers⟩:TRoute),(⟨sZ0.SpareBlock.First,sZ0.SpareBlock.Count⟩:TBlock)⟩:TService)
def M_h (listZ0:List TService) (idZ0:Int) (sZ3:Int×List TService):Option ((Int×List TService) ⊕ (List TService)) :=
 cond (decide (sZ3.1 < (listZ0.length:Int))) ((geti listZ0 sZ3.1).bind fun yZ5=>cond (yZ5.Id != idZ0) ((M_dj yZ5).bind fun rZ7=>bnd ([(⟨rZ7.Id,rZ7.Class,(⟨rZ7.Work.Start,rZ7.Work.Fibers⟩:TRoute),(⟨rZ7.WorkBlock.First,rZ7.WorkBlock.Count⟩:TBlock),(⟨rZ7.Spare.Start,rZ7.Spare.Fibers⟩:TRoute),(⟨rZ7.SpareBlock.First,rZ7.SpareBlock.Count⟩:TBlock)⟩:TService)]) fun lZ8=>(grd ((sZ3.2.length+1) * 112≤140737488355328)).bind fun uZ11=>bnd (sZ3.2++lZ8) fun lZ12=>some (.inl (IntKind.wrap .i64 (sZ3.1+1),lZ12))) (some (.inl (IntKind.wrap .i64 (sZ3.1+1),sZ3.2)))) (some (.inr sZ3.2))
def M_dk (nZ0:TNetwork) (listZ0:List TService) (idZ0:Int):Option (List TService×Bool) :=
 (M_db nZ0 listZ0).bind fun rZ1=>cond (!rZ1) (some (([]),false)) ((iter (M_h listZ0 idZ0) N0 (0,[])).bind fun oZ15=>cond ((oZ15.length:Int)==(listZ0.length:Int)) (some (([]),false)) (some (oZ15,true)))
def M_eu (sZ0:TService) (p1Z0:Int):Option Bool :=
 some (sZ0.Id==p1Z0)
def M_b (sZ0:List TService) (fZ0:TService→Option Bool) (sZ1:Int):Option (Int ⊕ (Unit ⊕ Int)) :=
 cond (decide (sZ1 < (sZ0.length:Int))) ((geti sZ0 sZ1).bind fun yZ3=>(fZ0 yZ3).bind fun rZ4=>cond (rZ4) (some (.inr (.inr sZ1))) (some (.inl (IntKind.wrap .i64 (sZ1+1))))) (some (.inr (.inl ())))
def M_br (sZ0:List TService) (fZ0:TService→Option Bool):Option Int :=
 (iter (M_b sZ0 fZ0) N0 0).bind fun oZ6=>(match oZ6 with | .inl vZ7=>some (-1) | .inr xZ8=>some xZ8)
def M_n (nZ0:Int) (lowZ0:Int) (highZ0:Int):Option Bool :=
 cond (decide (lowZ0≤nZ0)) (some (decide (nZ0≤highZ0))) (some false)
def M_o (sZ0:ByteArray) (sZ1:Int):Option (Int ⊕ (Unit ⊕ Bool)) :=
 cond (decide (sZ1 < (sZ0.size:Int))) (((getz sZ0 sZ1).bind fun yZ3=>cond (decide (97≤(yZ3.toNat:Int))) (cond (decide (48≤(yZ3.toNat:Int))) (some (decide ((yZ3.toNat:Int)≤122),decide ((yZ3.toNat:Int)≤57))) (some (decide ((yZ3.toNat:Int)≤122),false))) (cond (decide (48≤(yZ3.toNat:Int))) (some (false,decide ((yZ3.toNat:Int)≤57))) (some (false,false))):Option (Bool×Bool)).bind fun oZ7=>cond (!oZ7.1) (cond (!oZ7.2) (some (.inr (.inr false))) (cond (sZ1==0) (some (.inr (.inr false))) (some (.inl (IntKind.wrap .i64 (sZ1+1)))))) (some (.inl (IntKind.wrap .i64 (sZ1+1))))) (some (.inr (.inl ())))
def M_en (sZ0:ByteArray):Option Bool :=
 (iter (M_o sZ0) N0 0).bind fun oZ11=>(match oZ11 with | .inl vZ12=>(M_n (sZ0.size:Int) 1 8).bind fun rZ14=>some rZ14 | .inr xZ13=>some xZ13)
def M_ay (sZ0:List ByteArray) (vZ0:ByteArray) (sZ1:Int):Option (Int ⊕ (Unit ⊕ Int)) :=
 cond (decide (sZ1 < (sZ0.length:Int))) ((geti sZ0 sZ1).bind fun yZ3=>cond (vZ0.toList==yZ3.toList) (some (.inr (.inr sZ1))) (some (.inl (IntKind.wrap .i64 (sZ1+1))))) (some (.inr (.inl ())))
def M_ey (sZ0:List ByteArray) (vZ0:ByteArray):Option Int :=
 (iter (M_ay sZ0 vZ0) N0 0).bind fun oZ5=>(match oZ5 with | .inl vZ6=>some (-1) | .inr xZ7=>some xZ7)
def M_eo (sZ0:List ByteArray) (vZ0:ByteArray):Option Bool :=
 (M_ey sZ0 vZ0).bind fun rZ1=>some (decide (0≤rZ1))
def M_bj (xZ0:Int):Option Bool :=
 some (xZ0 != xZ0)
def M_bk (xZ0:Int) (yZ0:Int):Option Int :=
 (M_bj xZ0).bind fun rZ1=>(M_bj yZ0).bind fun rZ2=>cond (rZ1) (cond (rZ2) (some 0) (some (-1))) (cond (rZ2) (some 1) (cond (decide (xZ0 < yZ0)) (some (-1)) (cond (decide (yZ0 < xZ0)) (some 1) (some 0))))
def M_az (valsZ0:List Int) (sZ1:Int):Option (Int ⊕ (Unit ⊕ Int)) :=
 cond (decide (sZ1 < (valsZ0.length:Int))) ((geti valsZ0 sZ1).bind fun yZ3=>cond (yZ3 != 0) (some (.inr (.inr yZ3))) (some (.inl (IntKind.wrap .i64 (sZ1+1))))) (some (.inr (.inl ())))
def M_ez (valsZ0:List Int):Option Int :=
 (iter (M_az valsZ0) N0 0).bind fun oZ5=>(match oZ5 with | .inl vZ6=>some 0 | .inr xZ7=>some xZ7)
def M_ep (aZ0:TFiber) (bZ0:TFiber):Option Int :=
 (M_bk aZ0.A bZ0.A).bind fun rZ1=>(M_bk aZ0.B bZ0.B).bind fun rZ2=>(M_bk aZ0.Length bZ0.Length).bind fun rZ3=>(M_bk aZ0.Risk bZ0.Risk).bind fun rZ4=>bnd ([rZ1,rZ2,rZ3,rZ4]) fun lZ5=>(M_ez lZ5).bind fun rZ9=>some rZ9
def M_z (nZ0:TNetwork) (sZ1:Int):Option (Int ⊕ (Unit ⊕ Bool)) :=
 cond (decide (sZ1 < (nZ0.Nodes.length:Int))) ((geti nZ0.Nodes sZ1).bind fun yZ3=>(M_en yZ3).bind fun rZ4=>cond (!rZ4) (some (.inr (.inr false))) ((slT nZ0.Nodes sZ1).bind fun lZ6=>(M_eo lZ6 yZ3).bind fun rZ7=>cond (rZ7) (some (.inr (.inr false))) (some (.inl (IntKind.wrap .i64 (sZ1+1)))))) (some (.inr (.inl ())))
def M_i (nZ0:TNetwork) (sZ12:Int):Option (Int ⊕ (Unit ⊕ Bool)) :=
 cond (decide (sZ12 < (nZ0.Fibers.length:Int))) ((geti nZ0.Fibers sZ12).bind fun yZ14=>cond (decide (yZ14.A < 0)) (some (.inr (.inr false))) (cond (decide (yZ14.B≤yZ14.A)) (some (.inr (.inr false))) (cond (decide ((nZ0.Nodes.length:Int)≤yZ14.B)) (some (.inr (.inr false))) ((M_n yZ14.Length 1 5000).bind fun rZ18=>cond (!rZ18) (some (.inr (.inr false))) ((M_n yZ14.Risk 0 9).bind fun rZ20=>cond (!rZ20) (some (.inr (.inr false))) (cond (decide (0 < sZ12)) ((geti nZ0.Fibers (IntKind.wrap .i64 (sZ12 - 1))).bind fun yZ23=>(M_ep yZ23 yZ14).bind fun rZ24=>cond (decide (0 < rZ24)) (some (.inr (.inr false))) (some (.inl (IntKind.wrap .i64 (sZ12+1))))) (some (.inl (IntKind.wrap .i64 (sZ12+1)))))))))) (some (.inr (.inl ())))
def M_dl (nZ0:TNetwork):Option Bool :=
 (iter (M_z nZ0) N0 0).bind fun oZ9=>(match oZ9 with | .inl vZ10=>(iter (M_i nZ0) N0 0).bind fun oZ26=>(match oZ26 with | .inl vZ27=>(M_n (nZ0.Nodes.length:Int) 2 8).bind fun rZ29=>cond (rZ29) (some (decide ((nZ0.Fibers.length:Int)≤14))) (some false) | .inr xZ28=>some xZ28) | .inr xZ11=>some xZ11)
def M_ef (fZ0:TFiber) (nodeZ0:Int):Option Int :=
 cond (nodeZ0==fZ0.A) (some fZ0.B) (cond (nodeZ0==fZ0.B) (some fZ0.A) (some (-1)))
def M_av (sZ0:List Int) (vZ0:Int) (sZ1:Int):Option (Int ⊕ (Unit ⊕ Int)) :=
 cond (decide (sZ1 < (sZ0.length:Int))) ((geti sZ0 sZ1).bind fun yZ3=>cond (vZ0==yZ3) (some (.inr (.inr sZ1))) (some (.inl (IntKind.wrap .i64 (sZ1+1))))) (some (.inr (.inl ())))
def M_ew (sZ0:List Int) (vZ0:Int):Option Int :=
 (iter (M_av sZ0 vZ0) N0 0).bind fun oZ5=>(match oZ5 with | .inl vZ6=>some (-1) | .inr xZ7=>some xZ7)
def M_bo (sZ0:List Int) (vZ0:Int):Option Bool :=
 (M_ew sZ0 vZ0).bind fun rZ1=>some (decide (0≤rZ1))
def M_ac (nZ0:TNetwork) (rZ0:TRoute) (sZ8:Int×Int×List Int):Option ((Int×Int×List Int) ⊕ ((List Int) ⊕ (List Int×Bool))) :=
 cond (decide (sZ8.2.1 < (rZ0.Fibers.length:Int))) ((geti rZ0.Fibers sZ8.2.1).bind fun yZ10=>(M_n yZ10 0 (IntKind.wrap .i64 ((nZ0.Fibers.length:Int) - 1))).bind fun rZ11=>cond (!rZ11) (some (.inr (.inr (([]),false)))) ((geti nZ0.Fibers yZ10).bind fun yZ13=>(M_ef yZ13 sZ8.1).bind fun rZ14=>(cond (decide (rZ14 < 0)) (some true) ((M_bo sZ8.2.2 rZ14).bind fun rZ16=>some rZ16):Option Bool).bind fun oZ17=>cond (oZ17) (some (.inr (.inr (([]),false)))) (bnd ([rZ14]) fun lZ19=>(grd ((sZ8.2.2.length+1) * 8≤140737488355328)).bind fun uZ22=>bnd (sZ8.2.2++lZ19) fun lZ23=>some (.inl (rZ14,IntKind.wrap .i64 (sZ8.2.1+1),lZ23))))) (some (.inr (.inl sZ8.2.2)))
def M_cg (nZ0:TNetwork) (rZ0:TRoute):Option (List Int×Bool) :=
 ((M_n rZ0.Start 0 (IntKind.wrap .i64 ((nZ0.Nodes.length:Int) - 1))).bind fun rZ1=>cond (!rZ1) (some true) (some ((rZ0.Fibers.length:Int)==0)):Option Bool).bind fun oZ3=>cond (oZ3) (some (([]),false)) (bnd ([rZ0.Start]) fun lZ5=>(iter (M_ac nZ0 rZ0) N0 (rZ0.Start,0,lZ5)).bind fun oZ26=>(match oZ26 with | .inl vZ27=>some (vZ27,true) | .inr xZ28=>some xZ28))
def M_bx (bZ0:TBlock):Option Bool :=
 cond (decide (0≤bZ0.First)) ((M_n bZ0.Count 1 24).bind fun rZ2=>cond (rZ2) (some (decide (bZ0.First≤(IntKind.wrap .i64 (24 - bZ0.Count))))) (some false)) (some false)
def M_k (nZ0:TNetwork) (sZ1:Int×List (List Int)) (sZ3:Int×List Int):Option ((Int×List Int) ⊕ (List Int)) :=
 cond (decide (sZ3.1 < (nZ0.Fibers.length:Int))) ((geti nZ0.Fibers sZ3.1).bind fun yZ5=>cond (yZ5.Risk==sZ1.1) (bnd ([sZ3.1]) fun lZ7=>(grd ((sZ3.2.length+1) * 8≤140737488355328)).bind fun uZ10=>bnd (sZ3.2++lZ7) fun lZ11=>some (.inl (IntKind.wrap .i64 (sZ3.1+1),lZ11))) (some (.inl (IntKind.wrap .i64 (sZ3.1+1),sZ3.2)))) (some (.inr sZ3.2))
def M_j (nZ0:TNetwork) (sZ1:Int×List (List Int)):Option ((Int×List (List Int)) ⊕ (List (List Int))) :=
 cond (decide (sZ1.1≤9)) ((iter (M_k nZ0 sZ1) N0 (0,[])).bind fun oZ14=>cond (decide (0 < (oZ14.length:Int))) (bnd ([oZ14]) fun lZ16=>(grd ((sZ1.2.length+1) * 24≤140737488355328)).bind fun uZ19=>bnd (sZ1.2++lZ16) fun lZ20=>some (.inl (IntKind.wrap .i64 (sZ1.1+1),lZ20))) (some (.inl (IntKind.wrap .i64 (sZ1.1+1),sZ1.2)))) (some (.inr sZ1.2))
def M_l (nZ0:TNetwork) (sZ24:Int×List (List Int)):Option ((Int×List (List Int)) ⊕ (List (List Int))) :=
 cond (decide (sZ24.1 < (nZ0.Fibers.length:Int))) ((geti nZ0.Fibers sZ24.1).bind fun yZ26=>cond (yZ26.Risk==0) (bnd ([sZ24.1]) fun lZ28=>bnd ([lZ28]) fun lZ32=>(grd ((sZ24.2.length+1) * 24≤140737488355328)).bind fun uZ35=>bnd (sZ24.2++lZ32) fun lZ36=>some (.inl (IntKind.wrap .i64 (sZ24.1+1),lZ36))) (some (.inl (IntKind.wrap .i64 (sZ24.1+1),sZ24.2)))) (some (.inr sZ24.2))
def M_do (nZ0:TNetwork):Option (List (List Int)) :=
 (iter (M_j nZ0) N0 (1,[])).bind fun oZ23=>(iter (M_l nZ0) N0 (0,oZ23)).bind fun oZ39=>some oZ39
def M_dh (listZ0:List Int) (p1Z0:Int):Option Bool :=
 (M_bo listZ0 p1Z0).bind fun rZ1=>some rZ1
def M_v (sZ0:List (List Int)) (fZ0:(List Int)→Option Bool) (sZ1:Int):Option (Int ⊕ (Unit ⊕ Int)) :=
 cond (decide (sZ1 < (sZ0.length:Int))) ((geti sZ0 sZ1).bind fun yZ3=>(fZ0 yZ3).bind fun rZ4=>cond (rZ4) (some (.inr (.inr sZ1))) (some (.inl (IntKind.wrap .i64 (sZ1+1))))) (some (.inr (.inl ())))
def M_df (sZ0:List (List Int)) (fZ0:(List Int)→Option Bool):Option Int :=
 (iter (M_v sZ0 fZ0) N0 0).bind fun oZ6=>(match oZ6 with | .inl vZ7=>some (-1) | .inr xZ8=>some xZ8)
def M_dg (nZ0:TNetwork) (fiberZ0:Int):Option Int :=
 (M_do nZ0).bind fun rZ1=>(M_df rZ1 (fun x0=>M_dh x0 fiberZ0)).bind fun rZ2=>some rZ2
def M_w (nZ0:TNetwork) (fibersZ0:List Int) (sZ1:Int×List Int):Option ((Int×List Int) ⊕ (List Int)) :=
 cond (decide (sZ1.1 < (fibersZ0.length:Int))) ((geti fibersZ0 sZ1.1).bind fun yZ3=>(M_dg nZ0 yZ3).bind fun rZ4=>bnd ([rZ4]) fun lZ5=>(grd ((sZ1.2.length+1) * 8≤140737488355328)).bind fun uZ8=>bnd (sZ1.2++lZ5) fun lZ9=>some (.inl (IntKind.wrap .i64 (sZ1.1+1),lZ9))) (some (.inr sZ1.2))
def M_ca (nZ0:TNetwork) (fibersZ0:List Int):Option (List Int) :=
 (iter (M_w nZ0 fibersZ0) N0 (0,[])).bind fun oZ12=>some oZ12
def M_fa (xZ0:Int):Option Int :=
 (cond (decide (4294967296≤xZ0)) (some (Int.fdiv xZ0 (2 ^ (min (Int.toNat 32) (IntKind.bits .u64))),32)) (some (xZ0,0)):Option (Int×Int)).bind fun oZ2=>(cond (decide (65536≤oZ2.1)) (some (Int.fdiv oZ2.1 (2 ^ (min (Int.toNat 16) (IntKind.bits .u64))),IntKind.wrap .i64 (oZ2.2+16))) (some (oZ2.1,oZ2.2)):Option (Int×Int)).bind fun oZ4=>(cond (decide (256≤oZ4.1)) (some (Int.fdiv oZ4.1 (2 ^ (min (Int.toNat 8) (IntKind.bits .u64))),IntKind.wrap .i64 (oZ4.2+8))) (some (oZ4.1,oZ4.2)):Option (Int×Int)).bind fun oZ6=>(getz (⟨#[0,1,2,2,3,3,3,3,4,4,4,4,4,4,4,4,5,5,5,5,5,5,5,5,5,5,5,5,5,5,5,5,6,6,6,6,6,6,6,6,6,6,6,6,6,6,6,6,6,6,6,6,6,6,6,6,6,6,6,6,6,6,6,6,7,7,7,7,7,7,7,7,7,7,7,7,7,7,7,7,7,7,7,7,7,7,7,7,7,7,7,7,7,7,7,7,7,7,7,7,7,7,7,7,7,7,7,7,7,7,7,7,7,7,7,7,7,7,7,7,7,7,7,7,7,7,7,7,8,8,8,8,8,8,8,8,8,8,8,8,8,8,8,8,8,8,8,8,8,8,8,8,8,8,8,8,8,8,8,8,8,8,8,8,8,8,8,8,8,8,8,8,8,8,8,8,8,8,8,8,8,8,8,8,8,8,8,8,8,8,8,8,8,8,8,8,8,8,8,8,8,8,8,8,8,8,8,8,8,8,8,8,8,8,8,8,8,8,8,8,8,8,8,8,8,8,8,8,8,8,8,8,8,8,8,8,8,8,8,8,8,8,8,8,8,8,8,8,8,8,8,8,8,8,8,8]⟩:ByteArray) (IntKind.wrap .u8 oZ6.1)).bind fun yZ7=>some (IntKind.wrap .i64 (oZ6.2+(IntKind.wrap .i64 (yZ7.toNat:Int))))
def M_ei (xZ0:Int):Option Int :=
 (M_fa xZ0).bind fun rZ1=>some rZ1
def M_eg (xZ0:Int) (yZ0:Int):Option Bool :=
 (M_bj xZ0).bind fun rZ1=>cond (rZ1) ((M_bj yZ0).bind fun rZ3=>cond (!rZ3) (some true) (some (decide (xZ0 < yZ0)))) (some (decide (xZ0 < yZ0)))
def M_e (aaZ0:Int) (sZ3:Int×List Int):Option ((Int×List Int) ⊕ (List Int)) :=
 (cond (decide (aaZ0 < sZ3.1)) ((grd (0≤sZ3.1∧sZ3.1 < (sZ3.2.length:Int))).bind fun kZ5=>(sZ3.2[(Int.toNat sZ3.1)]?).bind fun yZ6=>(grd (0≤(IntKind.wrap .i64 (sZ3.1 - 1))∧(IntKind.wrap .i64 (sZ3.1 - 1)) < (sZ3.2.length:Int))).bind fun kZ7=>(sZ3.2[(Int.toNat (IntKind.wrap .i64 (sZ3.1 - 1)))]?).bind fun yZ8=>(M_eg yZ6 yZ8).bind fun rZ9=>some rZ9) (some false):Option Bool).bind fun oZ10=>cond (oZ10) ((grd (0≤(IntKind.wrap .i64 (sZ3.1 - 1))∧(IntKind.wrap .i64 (sZ3.1 - 1)) < (sZ3.2.length:Int))).bind fun kZ12=>(sZ3.2[(Int.toNat (IntKind.wrap .i64 (sZ3.1 - 1)))]?).bind fun yZ13=>(grd (0≤sZ3.1∧sZ3.1 < (sZ3.2.length:Int))).bind fun kZ14=>(sZ3.2[(Int.toNat sZ3.1)]?).bind fun yZ15=>bnd (sZ3.2.set (Int.toNat sZ3.1) yZ13) fun lZ16=>(lZ16[(Int.toNat (IntKind.wrap .i64 (sZ3.1 - 1)))]?).bind fun yZ18=>bnd (lZ16.set (Int.toNat (IntKind.wrap .i64 (sZ3.1 - 1))) yZ15) fun lZ19=>some (.inl (IntKind.wrap .i64 (sZ3.1 - 1),lZ19))) (some (.inr sZ3.2))
def M_q (aaZ0:Int) (abZ0:Int) (sZ1:Int×List Int):Option ((Int×List Int) ⊕ (List Int)) :=
 cond (decide (sZ1.1 < abZ0)) (((iter (M_e aaZ0) N0 (sZ1.1,sZ1.2)).bind fun oZ21=>some oZ21:Option (List Int)).bind fun oZ23=>some (.inl (IntKind.wrap .i64 (sZ1.1+1),oZ23))) (some (.inr sZ1.2))
def M_eh (aaZ0:Int) (abZ0:Int) (acZ0:List Int):Option (List Int) :=
 (iter (M_q aaZ0 abZ0) N0 (IntKind.wrap .i64 (aaZ0+1),acZ0)).bind fun oZ24=>some oZ24
def M_bb (aaZ0:Int) (abZ0:Int) (acZ0:Int) (adZ0:List Int) (sZ1:Unit):Option (Unit ⊕ (Empty ⊕ (List Int))) :=
 cond (decide ((IntKind.wrap .i64 (abZ0 - aaZ0))≤12)) ((M_eh aaZ0 abZ0 adZ0).bind fun rZ3=>some (.inr (.inr rZ3))) (cond (acZ0==0) (none) (none))
def M_ex (aaZ0:Int) (abZ0:Int) (acZ0:Int) (adZ0:List Int):Option (List Int) :=
 (iter (M_bb aaZ0 abZ0 acZ0 adZ0) N0 ()).bind fun oZ5=>(match oZ5 with | .inl vZ6=>(vZ6.elim) | .inr xZ7=>some xZ7)
def M_ej (aaZ0:List Int):Option (List Int) :=
 (M_ei (IntKind.wrap .u64 (aaZ0.length:Int))).bind fun rZ1=>(M_ex 0 (aaZ0.length:Int) rZ1 aaZ0).bind fun rZ2=>some rZ2
def M_d (aaZ0:Nat) (abZ0:Nat) (sZ2:Int) (sZ10:Int×Int×List Int):Option ((Int×Int×List Int) ⊕ (Int×List Int)) :=
 cond (decide (sZ10.2.1 < (((abZ0 - (Int.toNat sZ2)):Nat):Int))) ((grd (0≤sZ10.2.1∧sZ10.2.1 < (((abZ0 - (Int.toNat sZ2)):Nat):Int))).bind fun kZ12=>(sZ10.2.2[((aaZ0+(Int.toNat sZ2))+(Int.toNat sZ10.2.1))]?).bind fun yZ13=>(grd (0≤(IntKind.wrap .i64 (sZ10.2.1 - 1))∧(IntKind.wrap .i64 (sZ10.2.1 - 1)) < (((abZ0 - (Int.toNat sZ2)):Nat):Int))).bind fun kZ14=>(sZ10.2.2[((aaZ0+(Int.toNat sZ2))+(Int.toNat (IntKind.wrap .i64 (sZ10.2.1 - 1))))]?).bind fun yZ15=>cond (yZ13 != yZ15) ((grd (0≤sZ10.1∧sZ10.1 < (abZ0:Int))).bind fun kZ17=>(sZ10.2.2[(aaZ0+(Int.toNat sZ10.1))]?).bind fun yZ18=>bnd (sZ10.2.2.set (aaZ0+(Int.toNat sZ10.1)) yZ13) fun lZ19=>some (.inl (IntKind.wrap .i64 (sZ10.1+1),IntKind.wrap .i64 (sZ10.2.1+1),lZ19))) (some (.inl (sZ10.1,IntKind.wrap .i64 (sZ10.2.1+1),sZ10.2.2)))) (some (.inr (sZ10.1,sZ10.2.2)))
def M_s (aaZ0:Nat) (abZ0:Nat) (acZ0:List Int) (sZ2:Int):Option (Int ⊕ (Unit ⊕ (Nat×Nat×List Int))) :=
 cond (decide (sZ2 < (abZ0:Int))) ((grd (0≤sZ2∧sZ2 < (abZ0:Int))).bind fun kZ4=>(acZ0[(aaZ0+(Int.toNat sZ2))]?).bind fun yZ5=>(grd (0≤(IntKind.wrap .i64 (sZ2 - 1))∧(IntKind.wrap .i64 (sZ2 - 1)) < (abZ0:Int))).bind fun kZ6=>(acZ0[(aaZ0+(Int.toNat (IntKind.wrap .i64 (sZ2 - 1))))]?).bind fun yZ7=>cond (yZ5==yZ7) ((grd (0≤sZ2∧True∧Int.toNat sZ2≤abZ0∧True)).bind fun uZ9=>(iter (M_d aaZ0 abZ0 sZ2) N0 (sZ2,1,acZ0)).bind fun oZ21=>(grd (0≤oZ21.1∧True∧Int.toNat oZ21.1≤abZ0∧True)).bind fun uZ22=>bnd (over oZ21.2 (aaZ0+(Int.toNat oZ21.1)) (List.replicate (abZ0 - (Int.toNat oZ21.1)) 0)) fun lZ23=>(grd (True∧0≤oZ21.1∧True∧Int.toNat oZ21.1≤abZ0)).bind fun uZ26=>some (.inr (.inr (aaZ0,(Int.toNat oZ21.1),lZ23)))) (some (.inl (IntKind.wrap .i64 (sZ2+1))))) (some (.inr (.inl ())))
def M_dc (aaZ0:Nat) (abZ0:Nat) (acZ0:List Int):Option (Nat×Nat×List Int) :=
 cond (decide ((abZ0:Int) < 2)) (some (aaZ0,abZ0,acZ0)) ((iter (M_s aaZ0 abZ0 acZ0) N0 1).bind fun oZ27=>(match oZ27 with | .inl vZ28=>some (aaZ0,abZ0,acZ0) | .inr xZ29=>some xZ29))
def M_c (aZ0:List Int) (bZ0:List Int) (sZ1:Int×List Int):Option ((Int×List Int) ⊕ (List Int)) :=
 cond (decide (sZ1.1 < (aZ0.length:Int))) ((geti aZ0 sZ1.1).bind fun yZ3=>(M_bo bZ0 yZ3).bind fun rZ4=>cond (rZ4) (bnd ([yZ3]) fun lZ6=>(grd ((sZ1.2.length+1) * 8≤140737488355328)).bind fun uZ9=>bnd (sZ1.2++lZ6) fun lZ10=>some (.inl (IntKind.wrap .i64 (sZ1.1+1),lZ10))) (some (.inl (IntKind.wrap .i64 (sZ1.1+1),sZ1.2)))) (some (.inr sZ1.2))
def M_bv (aZ0:List Int) (bZ0:List Int):Option (List Int) :=
 (iter (M_c aZ0 bZ0) N0 (0,[])).bind fun oZ13=>(M_ej oZ13).bind fun rZ14=>(M_dc 0 oZ13.length rZ14).bind fun rZ15=>bnd (subT rZ15.2.2 rZ15.1 rZ15.2.1) fun lZ16=>some lZ16
def M_cb (nZ0:TNetwork) (aZ0:List Int) (bZ0:List Int):Option Bool :=
 (M_ca nZ0 aZ0).bind fun rZ1=>(M_ca nZ0 bZ0).bind fun rZ2=>(M_bv rZ1 rZ2).bind fun rZ3=>some ((rZ3.length:Int)==0)
def M_cx (nZ0:TNetwork) (sZ0:TService):Option Bool :=
 (M_cg nZ0 sZ0.Work).bind fun rZ1=>((M_n sZ0.Id 1 999).bind fun rZ2=>cond (!rZ2) (some true) ((M_n sZ0.Class 0 2).bind fun rZ4=>cond (!rZ4) (some true) (cond (!rZ1.2) (some true) ((M_bx sZ0.WorkBlock).bind fun rZ7=>some (!rZ7)))):Option Bool).bind fun oZ8=>cond (oZ8) (some false) (cond (sZ0.Class==0) ((cond (sZ0.Spare.Start==0) (cond ((sZ0.Spare.Fibers.length:Int)==0) (some (sZ0.SpareBlock.First==0&&sZ0.SpareBlock.Count==0)) (some false)) (some false):Option Bool).bind fun oZ13=>some oZ13) ((M_cg nZ0 sZ0.Spare).bind fun rZ14=>cond (rZ14.2) ((M_bx sZ0.SpareBlock).bind fun rZ16=>cond (rZ16) ((grd (0≤0∧0 < (rZ14.1.length:Int))).bind fun kZ18=>(rZ14.1[(Int.toNat 0)]?).bind fun yZ19=>(grd (0≤0∧0 < (rZ1.1.length:Int))).bind fun kZ20=>(rZ1.1[(Int.toNat 0)]?).bind fun yZ21=>cond (yZ19==yZ21) ((grd (0≤(IntKind.wrap .i64 ((rZ14.1.length:Int) - 1))∧(IntKind.wrap .i64 ((rZ14.1.length:Int) - 1)) < (rZ14.1.length:Int))).bind fun kZ23=>(rZ14.1[(Int.toNat (IntKind.wrap .i64 ((rZ14.1.length:Int) - 1)))]?).bind fun yZ24=>(grd (0≤(IntKind.wrap .i64 ((rZ1.1.length:Int) - 1))∧(IntKind.wrap .i64 ((rZ1.1.length:Int) - 1)) < (rZ1.1.length:Int))).bind fun kZ25=>(rZ1.1[(Int.toNat (IntKind.wrap .i64 ((rZ1.1.length:Int) - 1)))]?).bind fun yZ26=>cond (yZ24==yZ26) ((M_cb nZ0 sZ0.Work.Fibers sZ0.Spare.Fibers).bind fun rZ28=>some rZ28) (some false)) (some false)) (some false)) (some false)))
def M_by (bZ0:TBlock):Option Int :=
 (grd (0≤bZ0.Count)).bind fun uZ1=>(grd (0≤bZ0.First)).bind fun uZ2=>some (IntKind.wrap .i64 ((IntKind.wrap .i64 ((IntKind.wrap .i64 (1 * 2 ^ (min (Int.toNat bZ0.Count) (IntKind.bits .i64)))) - 1)) * 2 ^ (min (Int.toNat bZ0.First) (IntKind.bits .i64))))
def M_es (aZ0:TLight) (bZ0:TLight):Option Bool :=
 (M_by aZ0.Block).bind fun rZ1=>(M_by bZ0.Block).bind fun rZ2=>cond ((bits .and .i64 rZ1 rZ2) != 0) ((M_bv aZ0.Route.Fibers bZ0.Route.Fibers).bind fun rZ4=>some (decide (0 < (rZ4.length:Int)))) (some false)
def M_be (aZ0:TRoute) (xZ0:TBlock) (bZ0:TRoute) (yZ0:TBlock):Option Bool :=
 (M_es (⟨0,(⟨aZ0.Start,aZ0.Fibers⟩:TRoute),(⟨xZ0.First,xZ0.Count⟩:TBlock)⟩:TLight) (⟨0,(⟨bZ0.Start,bZ0.Fibers⟩:TRoute),(⟨yZ0.First,yZ0.Count⟩:TBlock)⟩:TLight)).bind fun rZ1=>some rZ1
def M_cy (nZ0:TNetwork) (aZ0:TService) (bZ0:TService):Option Bool :=
 ((M_be aZ0.Work aZ0.WorkBlock bZ0.Work bZ0.WorkBlock).bind fun rZ1=>cond (rZ1) (some true) ((M_be aZ0.Work aZ0.WorkBlock bZ0.Spare bZ0.SpareBlock).bind fun rZ3=>cond (rZ3) (some true) ((M_be aZ0.Spare aZ0.SpareBlock bZ0.Work bZ0.WorkBlock).bind fun rZ5=>some rZ5)):Option Bool).bind fun oZ6=>cond (oZ6) (some false) ((cond (aZ0.Class==2) (cond (bZ0.Class==2) ((M_cb nZ0 aZ0.Work.Fibers bZ0.Work.Fibers).bind fun rZ10=>some rZ10) (some false)) (some false):Option Bool).bind fun oZ11=>cond (oZ11) (some true) ((M_be aZ0.Spare aZ0.SpareBlock bZ0.Spare bZ0.SpareBlock).bind fun rZ13=>some (!rZ13)))
def M_bu (ownZ0:TService) (p1Z0:TNetwork) (p2Z0:TService):Option Bool :=
 (M_cy p1Z0 ownZ0 p2Z0).bind fun rZ1=>some (!rZ1)
def M_bq (sZ0:List TService) (fZ0:TService→Option Bool):Option Bool :=
 (M_br sZ0 fZ0).bind fun rZ1=>some (decide (0≤rZ1))
def M_f (nZ0:TNetwork) (listZ0:List TService) (sZ5:Int):Option (Int ⊕ (Unit ⊕ Bool)) :=
 cond (decide (sZ5 < (listZ0.length:Int))) ((geti listZ0 sZ5).bind fun yZ7=>(M_cx nZ0 yZ7).bind fun rZ8=>cond (!rZ8) (some (.inr (.inr false))) (cond (decide (0 < sZ5)) ((geti listZ0 (IntKind.wrap .i64 (sZ5 - 1))).bind fun yZ11=>cond (decide (yZ7.Id≤yZ11.Id)) (some (.inr (.inr false))) ((slT listZ0 sZ5).bind fun lZ13=>(M_bq lZ13 (fun x0=>M_bu x0 nZ0 yZ7)).bind fun rZ14=>cond (rZ14) (some (.inr (.inr false))) (some (.inl (IntKind.wrap .i64 (sZ5+1)))))) ((slT listZ0 sZ5).bind fun lZ16=>(M_bq lZ16 (fun x0=>M_bu x0 nZ0 yZ7)).bind fun rZ17=>cond (rZ17) (some (.inr (.inr false))) (some (.inl (IntKind.wrap .i64 (sZ5+1))))))) (some (.inr (.inl ())))
def M_da (nZ0:TNetwork) (listZ0:List TService):Option Bool :=
 ((M_dl nZ0).bind fun rZ1=>cond (!rZ1) (some true) (some (decide (8 < (listZ0.length:Int)))):Option Bool).bind fun oZ3=>cond (oZ3) (some false) ((iter (M_f nZ0 listZ0) N0 0).bind fun oZ19=>(match oZ19 with | .inl vZ20=>some true | .inr xZ21=>some xZ21))
def M_cq (rZ0:TRoute):Option TRoute :=
 (grd (rZ0.Fibers.length * 8≤140737488355328)).bind fun uZ1=>some (⟨rZ0.Start,rZ0.Fibers⟩:TRoute)
def M_y (lZ0:List TService) (sZ1:Int×List TService):Option ((Int×List TService) ⊕ (List TService)) :=
 cond (decide (sZ1.1 < (lZ0.length:Int))) ((geti lZ0 sZ1.1).bind fun yZ3=>(M_cq yZ3.Work).bind fun rZ4=>(M_cq yZ3.Spare).bind fun rZ5=>bnd ([(⟨yZ3.Id,yZ3.Class,(⟨rZ4.Start,rZ4.Fibers⟩:TRoute),(⟨yZ3.WorkBlock.First,yZ3.WorkBlock.Count⟩:TBlock),(⟨rZ5.Start,rZ5.Fibers⟩:TRoute),(⟨yZ3.SpareBlock.First,yZ3.SpareBlock.Count⟩:TBlock)⟩:TService)]) fun lZ6=>(grd ((sZ1.2.length+1) * 112≤140737488355328)).bind fun uZ9=>bnd (sZ1.2++lZ6) fun lZ10=>some (.inl (IntKind.wrap .i64 (sZ1.1+1),lZ10))) (some (.inr sZ1.2))
def M_di (lZ0:List TService):Option (List TService) :=
 (iter (M_y lZ0) N0 (0,[])).bind fun oZ13=>some oZ13
def M_bs {τq:Type} (vwZ0:τq→TService) (tzZ0:τq) (aaZ0:Int) (abZ0:Int) (acZ0:List τq):Option (Nat×Nat×List τq) :=
 (grd (0≤aaZ0∧aaZ0≤abZ0∧abZ0≤(acZ0.length:Int)∧(acZ0.length:Int)≤(acZ0.length:Int))).bind fun uZ1=>cond (aaZ0==abZ0) (some (0,acZ0.length,acZ0)) ((grd (True∧0≤aaZ0∧True∧0+Int.toNat aaZ0≤acZ0.length)).bind fun uZ3=>(grd (0≤abZ0∧True∧Int.toNat abZ0≤acZ0.length∧0+acZ0.length≤acZ0.length)).bind fun uZ4=>bnd (subT acZ0 (Int.toNat abZ0) (acZ0.length - (Int.toNat abZ0))) fun lZ5=>(grd (0+(Int.toNat aaZ0)+lZ5.length≤acZ0.length)).bind fun uZ7=>bnd (over acZ0 (Int.toNat aaZ0) lZ5) fun lZ8=>(grd (0≤((((Int.toNat aaZ0)+lZ5.length):Nat):Int)∧0≤(acZ0.length:Int)∧Int.toNat ((((Int.toNat aaZ0)+lZ5.length):Nat):Int)≤Int.toNat (acZ0.length:Int)∧0+Int.toNat (acZ0.length:Int)≤lZ8.length)).bind fun uZ11=>bnd (over lZ8 (Int.toNat ((((Int.toNat aaZ0)+lZ5.length):Nat):Int)) (List.replicate ((Int.toNat (acZ0.length:Int)) - (Int.toNat ((((Int.toNat aaZ0)+lZ5.length):Nat):Int))) tzZ0)) fun lZ12=>some (0,((Int.toNat aaZ0)+lZ5.length),lZ12))
def M_ce (nZ0:TNetwork) (listZ0:List TService) (idZ0:Int):Option (List TService×Bool) :=
 (M_br listZ0 (fun x0=>M_eu x0 idZ0)).bind fun rZ1=>((M_da nZ0 listZ0).bind fun rZ2=>cond (!rZ2) (some true) (some (decide (rZ1 < 0))):Option Bool).bind fun oZ4=>cond (oZ4) (some (([]),false)) ((M_di listZ0).bind fun rZ6=>(M_bs id (⟨0,0,(⟨0,[]⟩:TRoute),(⟨0,0⟩:TBlock),(⟨0,[]⟩:TRoute),(⟨0,0⟩:TBlock)⟩:TService) rZ1 (IntKind.wrap .i64 (rZ1+1)) rZ6).bind fun rZ7=>bnd (subT rZ7.2.2 rZ7.1 rZ7.2.1) fun lZ8=>some (lZ8,true))
def M_al (aZ0:List Int) (bZ0:List Int) (sZ2:Int):Option (Int ⊕ (Unit ⊕ Bool)) :=
 cond (decide (sZ2 < (aZ0.length:Int))) ((geti aZ0 sZ2).bind fun yZ4=>(geti bZ0 sZ2).bind fun yZ5=>cond (yZ4 != yZ5) (some (.inr (.inr false))) (some (.inl (IntKind.wrap .i64 (sZ2+1))))) (some (.inr (.inl ())))
def M_dz (aZ0:List Int) (bZ0:List Int):Option Bool :=
 cond ((aZ0.length:Int) != (bZ0.length:Int)) (some false) ((iter (M_al aZ0 bZ0) N0 0).bind fun oZ7=>(match oZ7 with | .inl vZ8=>some true | .inr xZ9=>some xZ9))
def M_cl (aZ0:TRoute) (bZ0:TRoute):Option Bool :=
 cond (aZ0.Start != bZ0.Start) (some false) ((M_dz aZ0.Fibers bZ0.Fibers).bind fun rZ2=>cond (!rZ2) (some false) (some true))
def M_cn (aZ0:TBlock) (bZ0:TBlock):Option Bool :=
 cond (aZ0.First != bZ0.First) (some false) (cond (aZ0.Count != bZ0.Count) (some false) (some true))
def M_cv (aZ0:TService) (bZ0:TService):Option Bool :=
 cond (aZ0.Id != bZ0.Id) (some false) (cond (aZ0.Class != bZ0.Class) (some false) ((M_cl aZ0.Work bZ0.Work).bind fun rZ3=>cond (!rZ3) (some false) ((M_cn aZ0.WorkBlock bZ0.WorkBlock).bind fun rZ5=>cond (!rZ5) (some false) ((M_cl aZ0.Spare bZ0.Spare).bind fun rZ7=>cond (!rZ7) (some false) ((M_cn aZ0.SpareBlock bZ0.SpareBlock).bind fun rZ9=>cond (!rZ9) (some false) (some true))))))
def M_ao (aZ0:List TService) (bZ0:List TService) (sZ2:Int):Option (Int ⊕ (Unit ⊕ Bool)) :=
 cond (decide (sZ2 < (aZ0.length:Int))) ((geti aZ0 sZ2).bind fun yZ4=>(geti bZ0 sZ2).bind fun yZ5=>(M_cv yZ4 yZ5).bind fun rZ6=>cond (!rZ6) (some (.inr (.inr false))) (some (.inl (IntKind.wrap .i64 (sZ2+1))))) (some (.inr (.inl ())))
def M_bi (aZ0:List TService) (bZ0:List TService):Option Bool :=
 cond ((aZ0.length:Int) != (bZ0.length:Int)) (some false) ((iter (M_ao aZ0 bZ0) N0 0).bind fun oZ8=>(match oZ8 with | .inl vZ9=>some true | .inr xZ10=>some xZ10))
def M_ah (aZ0:List ByteArray) (bZ0:List ByteArray) (sZ2:Int):Option (Int ⊕ (Unit ⊕ Bool)) :=
 cond (decide (sZ2 < (aZ0.length:Int))) ((geti aZ0 sZ2).bind fun yZ4=>(geti bZ0 sZ2).bind fun yZ5=>cond (!(yZ4.toList==yZ5.toList)) (some (.inr (.inr false))) (some (.inl (IntKind.wrap .i64 (sZ2+1))))) (some (.inr (.inl ())))
def M_dr (aZ0:List ByteArray) (bZ0:List ByteArray):Option Bool :=
 cond ((aZ0.length:Int) != (bZ0.length:Int)) (some false) ((iter (M_ah aZ0 bZ0) N0 0).bind fun oZ7=>(match oZ7 with | .inl vZ8=>some true | .inr xZ9=>some xZ9))
def M_ct (aZ0:TFiber) (bZ0:TFiber):Option Bool :=
 cond (aZ0.A != bZ0.A) (some false) (cond (aZ0.B != bZ0.B) (some false) (cond (aZ0.Length != bZ0.Length) (some false) (cond (aZ0.Risk != bZ0.Risk) (some false) (some true))))
def M_aj (aZ0:List TFiber) (bZ0:List TFiber) (sZ2:Int):Option (Int ⊕ (Unit ⊕ Bool)) :=
 cond (decide (sZ2 < (aZ0.length:Int))) ((geti aZ0 sZ2).bind fun yZ4=>(geti bZ0 sZ2).bind fun yZ5=>(M_ct yZ4 yZ5).bind fun rZ6=>cond (!rZ6) (some (.inr (.inr false))) (some (.inl (IntKind.wrap .i64 (sZ2+1))))) (some (.inr (.inl ())))
def M_du (aZ0:List TFiber) (bZ0:List TFiber):Option Bool :=
 cond ((aZ0.length:Int) != (bZ0.length:Int)) (some false) ((iter (M_aj aZ0 bZ0) N0 0).bind fun oZ8=>(match oZ8 with | .inl vZ9=>some true | .inr xZ10=>some xZ10))
def M_dw (aZ0:TNetwork) (bZ0:TNetwork):Option Bool :=
 (M_dr aZ0.Nodes bZ0.Nodes).bind fun rZ1=>cond (!rZ1) (some false) ((M_du aZ0.Fibers bZ0.Fibers).bind fun rZ3=>cond (!rZ3) (some false) (some true))
def M_ae (sZ2:Int×ByteArray):Option ((Int×ByteArray) ⊕ ByteArray) :=
 cond (decide (0 < sZ2.1)) ((grd (10 ≠ 0)).bind fun uZ4=>bnd ([IntKind.wrap .u8 (IntKind.wrap .i64 (48+(Int.tmod sZ2.1 10)))]) fun lZ5=>(grd ((b2s lZ5).size+sZ2.2.size≤9223372036854775807)).bind fun uZ9=>(grd (10 ≠ 0)).bind fun uZ10=>some (.inl (IntKind.wrap .i64 (Int.tdiv sZ2.1 10),(b2s lZ5)++sZ2.2))) (some (.inr sZ2.2))
def M_ci (kZ0:Int):Option ByteArray :=
 cond (decide (kZ0≤0)) (some (⟨#[109,48]⟩:ByteArray)) ((iter (M_ae) N0 (kZ0,(⟨#[]⟩:ByteArray))).bind fun oZ11=>(grd ((⟨#[109]⟩:ByteArray).size+oZ11.size≤9223372036854775807)).bind fun uZ12=>some ((⟨#[109]⟩:ByteArray)++oZ11))
def M_ap (sZ1:Int×Int×List ByteArray):Option ((Int×Int×List ByteArray) ⊕ (Int×List ByteArray)) :=
 cond (decide (sZ1.2.1 < (sZ1.2.2.length:Int))) ((M_ci sZ1.1).bind fun rZ3=>(grd (0≤sZ1.2.1∧sZ1.2.1 < (sZ1.2.2.length:Int))).bind fun kZ4=>(sZ1.2.2[(Int.toNat sZ1.2.1)]?).bind fun yZ5=>bnd (sZ1.2.2.set (Int.toNat sZ1.2.1) rZ3) fun lZ6=>some (.inl (IntKind.wrap .i64 (sZ1.1+1),IntKind.wrap .i64 (sZ1.2.1+1),lZ6))) (some (.inr (sZ1.1,sZ1.2.2)))
def M_ec (aaZ0:Int) (abZ0:List ByteArray):Option (Int×List ByteArray) :=
 (iter (M_ap) N0 (aaZ0,0,abZ0)).bind fun oZ8=>some (oZ8.1,oZ8.2)
def M_aq (sZ1:Int×Int×List TFiber):Option ((Int×Int×List TFiber) ⊕ (Int×List TFiber)) :=
 cond (decide (sZ1.2.1 < (sZ1.2.2.length:Int))) ((grd (0≤sZ1.2.1∧sZ1.2.1 < (sZ1.2.2.length:Int))).bind fun kZ3=>(sZ1.2.2[(Int.toNat sZ1.2.1)]?).bind fun yZ4=>bnd (sZ1.2.2.set (Int.toNat sZ1.2.1) (⟨sZ1.1,yZ4.B,yZ4.Length,yZ4.Risk⟩:TFiber)) fun lZ5=>(lZ5[(Int.toNat sZ1.2.1)]?).bind fun yZ7=>bnd (lZ5.set (Int.toNat sZ1.2.1) (⟨yZ7.A,IntKind.wrap .i64 (sZ1.1+1),yZ7.Length,yZ7.Risk⟩:TFiber)) fun lZ8=>(lZ8[(Int.toNat sZ1.2.1)]?).bind fun yZ10=>bnd (lZ8.set (Int.toNat sZ1.2.1) (⟨yZ10.A,yZ10.B,IntKind.wrap .i64 ((IntKind.wrap .i64 (sZ1.1+1))+1),yZ10.Risk⟩:TFiber)) fun lZ11=>(lZ11[(Int.toNat sZ1.2.1)]?).bind fun yZ13=>bnd (lZ11.set (Int.toNat sZ1.2.1) (⟨yZ13.A,yZ13.B,yZ13.Length,IntKind.wrap .i64 ((IntKind.wrap .i64 ((IntKind.wrap .i64 (sZ1.1+1))+1))+1)⟩:TFiber)) fun lZ14=>some (.inl (IntKind.wrap .i64 ((IntKind.wrap .i64 ((IntKind.wrap .i64 ((IntKind.wrap .i64 (sZ1.1+1))+1))+1))+1),IntKind.wrap .i64 (sZ1.2.1+1),lZ14))) (some (.inr (sZ1.1,sZ1.2.2)))
def M_ed (aaZ0:Int) (abZ0:List TFiber):Option (Int×List TFiber) :=
 (iter (M_aq) N0 (aaZ0,0,abZ0)).bind fun oZ16=>some (oZ16.1,oZ16.2)
def M_ee (aaZ0:Int) (abZ0:List ByteArray) (acZ0:List TFiber):Option (Int×List ByteArray×List TFiber) :=
 (M_ec aaZ0 abZ0).bind fun rZ1=>(M_ed rZ1.1 acZ0).bind fun rZ2=>some (rZ2.1,rZ1.2,rZ2.2)
def M_ar (sZ1:Int×Int×List Int):Option ((Int×Int×List Int) ⊕ (Int×List Int)) :=
 cond (decide (sZ1.2.1 < (sZ1.2.2.length:Int))) ((grd (0≤sZ1.2.1∧sZ1.2.1 < (sZ1.2.2.length:Int))).bind fun kZ3=>(sZ1.2.2[(Int.toNat sZ1.2.1)]?).bind fun yZ4=>bnd (sZ1.2.2.set (Int.toNat sZ1.2.1) sZ1.1) fun lZ5=>some (.inl (IntKind.wrap .i64 (sZ1.1+1),IntKind.wrap .i64 (sZ1.2.1+1),lZ5))) (some (.inr (sZ1.1,sZ1.2.2)))
def M_co (aaZ0:Int) (abZ0:List Int):Option (Int×List Int) :=
 (iter (M_ar) N0 (aaZ0,0,abZ0)).bind fun oZ7=>some (oZ7.1,oZ7.2)
def M_at (sZ1:Int×Int×List TService):Option ((Int×Int×List TService) ⊕ (Int×List TService)) :=
 cond (decide (sZ1.2.1 < (sZ1.2.2.length:Int))) ((grd (0≤sZ1.2.1∧sZ1.2.1 < (sZ1.2.2.length:Int))).bind fun kZ3=>(sZ1.2.2[(Int.toNat sZ1.2.1)]?).bind fun yZ4=>bnd (sZ1.2.2.set (Int.toNat sZ1.2.1) (⟨sZ1.1,yZ4.Class,(⟨yZ4.Work.Start,yZ4.Work.Fibers⟩:TRoute),(⟨yZ4.WorkBlock.First,yZ4.WorkBlock.Count⟩:TBlock),(⟨yZ4.Spare.Start,yZ4.Spare.Fibers⟩:TRoute),(⟨yZ4.SpareBlock.First,yZ4.SpareBlock.Count⟩:TBlock)⟩:TService)) fun lZ5=>(lZ5[(Int.toNat sZ1.2.1)]?).bind fun yZ7=>bnd (lZ5.set (Int.toNat sZ1.2.1) (⟨yZ7.Id,IntKind.wrap .i64 (sZ1.1+1),(⟨yZ7.Work.Start,yZ7.Work.Fibers⟩:TRoute),(⟨yZ7.WorkBlock.First,yZ7.WorkBlock.Count⟩:TBlock),(⟨yZ7.Spare.Start,yZ7.Spare.Fibers⟩:TRoute),(⟨yZ7.SpareBlock.First,yZ7.SpareBlock.Count⟩:TBlock)⟩:TService)) fun lZ8=>(lZ8[(Int.toNat sZ1.2.1)]?).bind fun yZ10=>bnd (lZ8.set (Int.toNat sZ1.2.1) (⟨yZ10.Id,yZ10.Class,(⟨IntKind.wrap .i64 ((IntKind.wrap .i64 (sZ1.1+1))+1),yZ10.Work.Fibers⟩:TRoute),(⟨yZ10.WorkBlock.First,yZ10.WorkBlock.Count⟩:TBlock),(⟨yZ10.Spare.Start,yZ10.Spare.Fibers⟩:TRoute),(⟨yZ10.SpareBlock.First,yZ10.SpareBlock.Count⟩:TBlock)⟩:TService)) fun lZ11=>(lZ11[(Int.toNat sZ1.2.1)]?).bind fun yZ13=>(M_co (IntKind.wrap .i64 ((IntKind.wrap .i64 ((IntKind.wrap .i64 (sZ1.1+1))+1))+1)) yZ13.Work.Fibers).bind fun rZ14=>bnd (lZ11.set (Int.toNat sZ1.2.1) (⟨yZ13.Id,yZ13.Class,(⟨yZ13.Work.Start,rZ14.2⟩:TRoute),(⟨yZ13.WorkBlock.First,yZ13.WorkBlock.Count⟩:TBlock),(⟨yZ13.Spare.Start,yZ13.Spare.Fibers⟩:TRoute),(⟨yZ13.SpareBlock.First,yZ13.SpareBlock.Count⟩:TBlock)⟩:TService)) fun lZ15=>(lZ15[(Int.toNat sZ1.2.1)]?).bind fun yZ17=>bnd (lZ15.set (Int.toNat sZ1.2.1) (⟨yZ17.Id,yZ17.Class,(⟨yZ17.Work.Start,yZ17.Work.Fibers⟩:TRoute),(⟨rZ14.1,yZ17.WorkBlock.Count⟩:TBlock),(⟨yZ17.Spare.Start,yZ17.Spare.Fibers⟩:TRoute),(⟨yZ17.SpareBlock.First,yZ17.SpareBlock.Count⟩:TBlock)⟩:TService)) fun lZ18=>(lZ18[(Int.toNat sZ1.2.1)]?).bind fun yZ20=>bnd (lZ18.set (Int.toNat sZ1.2.1) (⟨yZ20.Id,yZ20.Class,(⟨yZ20.Work.Start,yZ20.Work.Fibers⟩:TRoute),(⟨yZ20.WorkBlock.First,IntKind.wrap .i64 (rZ14.1+1)⟩:TBlock),(⟨yZ20.Spare.Start,yZ20.Spare.Fibers⟩:TRoute),(⟨yZ20.SpareBlock.First,yZ20.SpareBlock.Count⟩:TBlock)⟩:TService)) fun lZ21=>(lZ21[(Int.toNat sZ1.2.1)]?).bind fun yZ23=>bnd (lZ21.set (Int.toNat sZ1.2.1) (⟨yZ23.Id,yZ23.Class,(⟨yZ23.Work.Start,yZ23.Work.Fibers⟩:TRoute),(⟨yZ23.WorkBlock.First,yZ23.WorkBlock.Count⟩:TBlock),(⟨IntKind.wrap .i64 ((IntKind.wrap .i64 (rZ14.1+1))+1),yZ23.Spare.Fibers⟩:TRoute),(⟨yZ23.SpareBlock.First,yZ23.SpareBlock.Count⟩:TBlock)⟩:TService)) fun lZ24=>(lZ24[(Int.toNat sZ1.2.1)]?).bind fun yZ26=>(M_co (IntKind.wrap .i64 ((IntKind.wrap .i64 ((IntKind.wrap .i64 (rZ14.1+1))+1))+1)) yZ26.Spare.Fibers).bind fun rZ27=>bnd (lZ24.set (Int.toNat sZ1.2.1) (⟨yZ26.Id,yZ26.Class,(⟨yZ26.Work.Start,yZ26.Work.Fibers⟩:TRoute),(⟨yZ26.WorkBlock.First,yZ26.WorkBlock.Count⟩:TBlock),(⟨yZ26.Spare.Start,rZ27.2⟩:TRoute),(⟨yZ26.SpareBlock.First,yZ26.SpareBlock.Count⟩:TBlock)⟩:TService)) fun lZ28=>(lZ28[(Int.toNat sZ1.2.1)]?).bind fun yZ30=>bnd (lZ28.set (Int.toNat sZ1.2.1) (⟨yZ30.Id,yZ30.Class,(⟨yZ30.Work.Start,yZ30.Work.Fibers⟩:TRoute),(⟨yZ30.WorkBlock.First,yZ30.WorkBlock.Count⟩:TBlock),(⟨yZ30.Spare.Start,yZ30.Spare.Fibers⟩:TRoute),(⟨rZ27.1,yZ30.SpareBlock.Count⟩:TBlock)⟩:TService)) fun lZ31=>(lZ31[(Int.toNat sZ1.2.1)]?).bind fun yZ33=>bnd (lZ31.set (Int.toNat sZ1.2.1) (⟨yZ33.Id,yZ33.Class,(⟨yZ33.Work.Start,yZ33.Work.Fibers⟩:TRoute),(⟨yZ33.WorkBlock.First,yZ33.WorkBlock.Count⟩:TBlock),(⟨yZ33.Spare.Start,yZ33.Spare.Fibers⟩:TRoute),(⟨yZ33.SpareBlock.First,IntKind.wrap .i64 (rZ27.1+1)⟩:TBlock)⟩:TService)) fun lZ34=>some (.inl (IntKind.wrap .i64 ((IntKind.wrap .i64 (rZ27.1+1))+1),IntKind.wrap .i64 (sZ1.2.1+1),lZ34))) (some (.inr (sZ1.1,sZ1.2.2)))
def M_bn (aaZ0:Int) (abZ0:List TService):Option (Int×List TService) :=
 (iter (M_at) N0 (aaZ0,0,abZ0)).bind fun oZ36=>some (oZ36.1,oZ36.2)
def M_as (aZ0:List Int) (sZ1:Int×Int):Option ((Int×Int) ⊕ (Int ⊕ Int)) :=
 cond (decide (sZ1.2 < (aZ0.length:Int))) ((geti aZ0 sZ1.2).bind fun yZ3=>cond (yZ3 != sZ1.1) (some (.inr (.inr (-1)))) (some (.inl (IntKind.wrap .i64 (sZ1.1+1),IntKind.wrap .i64 (sZ1.2+1))))) (some (.inr (.inl sZ1.1)))
def M_bm (aZ0:List Int) (kZ0:Int):Option Int :=
 (iter (M_as aZ0) N0 (kZ0,0)).bind fun oZ5=>(match oZ5 with | .inl vZ6=>some vZ6 | .inr xZ7=>some xZ7)
def M_au (aZ0:List TService) (sZ1:Int×Int):Option ((Int×Int) ⊕ (Int ⊕ Int)) :=
 cond (decide (sZ1.2 < (aZ0.length:Int))) ((geti aZ0 sZ1.2).bind fun yZ3=>cond (yZ3.Id != sZ1.1) (some (.inr (.inr (-1)))) (cond (yZ3.Class != (IntKind.wrap .i64 (sZ1.1+1))) (some (.inr (.inr (-1)))) (cond (yZ3.Work.Start != (IntKind.wrap .i64 ((IntKind.wrap .i64 (sZ1.1+1))+1))) (some (.inr (.inr (-1)))) ((M_bm yZ3.Work.Fibers (IntKind.wrap .i64 ((IntKind.wrap .i64 ((IntKind.wrap .i64 (sZ1.1+1))+1))+1))).bind fun rZ7=>cond (decide (rZ7 < 0)) (some (.inr (.inr (-1)))) (cond (yZ3.WorkBlock.First != rZ7) (some (.inr (.inr (-1)))) (cond (yZ3.WorkBlock.Count != (IntKind.wrap .i64 (rZ7+1))) (some (.inr (.inr (-1)))) (cond (yZ3.Spare.Start != (IntKind.wrap .i64 ((IntKind.wrap .i64 (rZ7+1))+1))) (some (.inr (.inr (-1)))) ((M_bm yZ3.Spare.Fibers (IntKind.wrap .i64 ((IntKind.wrap .i64 ((IntKind.wrap .i64 (rZ7+1))+1))+1))).bind fun rZ12=>cond (decide (rZ12 < 0)) (some (.inr (.inr (-1)))) (cond (yZ3.SpareBlock.First != rZ12) (some (.inr (.inr (-1)))) (cond (yZ3.SpareBlock.Count != (IntKind.wrap .i64 (rZ12+1))) (some (.inr (.inr (-1)))) (some (.inl (IntKind.wrap .i64 ((IntKind.wrap .i64 (rZ12+1))+1),IntKind.wrap .i64 (sZ1.2+1)))))))))))))) (some (.inr (.inl sZ1.1)))
def M_cp (aZ0:List TService) (kZ0:Int):Option Int :=
 (iter (M_au aZ0) N0 (kZ0,0)).bind fun oZ16=>(match oZ16 with | .inl vZ17=>some vZ17 | .inr xZ18=>some xZ18)
def M_er (aNZ0:TNetwork) (aListZ0:List TService) (aIdZ0:Int):Option Bool :=
 (M_dv aNZ0 1048576).bind fun rZ1=>cond (decide (rZ1 < 0)) (some true) ((M_eb aListZ0 rZ1).bind fun rZ3=>cond (decide (rZ3 < 0)) (some true) ((M_bg aNZ0).bind fun rZ5=>(M_bh aListZ0).bind fun rZ6=>(M_dk (⟨rZ5.Nodes,rZ5.Fibers⟩:TNetwork) rZ6 aIdZ0).bind fun rZ7=>(M_bg aNZ0).bind fun rZ8=>(M_bh aListZ0).bind fun rZ9=>(M_ce (⟨rZ8.Nodes,rZ8.Fibers⟩:TNetwork) rZ9 aIdZ0).bind fun rZ10=>((M_bi rZ10.1 rZ7.1).bind fun rZ11=>cond (!rZ11) (some true) (some (!(rZ10.2==rZ7.2))):Option Bool).bind fun oZ13=>cond (oZ13) (some false) ((M_bg aNZ0).bind fun rZ15=>(M_dw (⟨rZ8.Nodes,rZ8.Fibers⟩:TNetwork) (⟨rZ15.Nodes,rZ15.Fibers⟩:TNetwork)).bind fun rZ16=>cond (!rZ16) (some false) ((M_bh aListZ0).bind fun rZ18=>(M_bi rZ9 rZ18).bind fun rZ19=>cond (!rZ19) (some false) ((M_ee 1 rZ8.Nodes rZ8.Fibers).bind fun rZ21=>(M_bn rZ21.1 rZ9).bind fun rZ22=>(cond (decide (rZ22.1 < 0)) (some true) ((M_bi rZ10.1 rZ7.1).bind fun rZ24=>cond (!rZ24) (some true) (some (!(rZ10.2==rZ7.2)))):Option Bool).bind fun oZ26=>cond (oZ26) (some false) ((M_bn 1 rZ10.1).bind fun rZ28=>bnd (subT rZ28.2 0 rZ10.1.length) fun lZ29=>(M_cp lZ29 1).bind fun rZ31=>cond (decide (rZ31 < 0)) (some false) (cond (rZ31 != rZ28.1) (some false) ((M_bg aNZ0).bind fun rZ34=>(M_bh aListZ0).bind fun rZ35=>(M_ce (⟨rZ34.Nodes,rZ34.Fibers⟩:TNetwork) rZ35 aIdZ0).bind fun rZ36=>((M_bi rZ36.1 rZ7.1).bind fun rZ37=>cond (!rZ37) (some true) (some (!(rZ36.2==rZ7.2))):Option Bool).bind fun oZ39=>cond (oZ39) (some false) ((M_cp lZ29 1).bind fun rZ41=>cond (decide (rZ41 < 0)) (some false) (cond (rZ41 != rZ28.1) (some false) (some true)))))))))))
end Vs

namespace Vs
open Go
theorem p_slices_Delete_ServiceM1 {H:World→Prop} (XZ0:List (Tok H e_TService 10)) (aaZ0:Int) (abZ0:Int) {r:Nat×Nat×List TService} (h:M_bs id (⟨0,0,(⟨0,[]⟩:TRoute),(⟨0,0⟩:TBlock),(⟨0,[]⟩:TRoute),(⟨0,0⟩:TBlock)⟩:TService) aaZ0 abZ0 (XZ0.map Tok.x)=some r) :
 ∃ YZ0:List (Tok H e_TService 10),M_bs Tok.x tz_TService aaZ0 abZ0 XZ0=some (r.1,r.2.1,YZ0)∧Sel XZ0 YZ0∧YZ0.map Tok.x=r.2.2:=by
 have d:∀ {τ:Type} (v:τ→TService) (z:τ) (X:List τ),M_bs v z aaZ0 abZ0 X=remF z aaZ0 abZ0 X:=fun _ _ _=>rfl
 rw [d] at h ⊢
 exact rem_par rfl tz_TService_F h
end Vs

namespace Vs
open Go Go.Proofs
theorem hmix:Tryz.prog.follows .mixedOrders=true:=Tryz.checked.mixed
def A43L1:ACode:=(.seq (.seq (.reg [Zm 12 5,Zm 13 0,Zk 14 13,Zb 15 .lss 12 14] []) (.cond (Zt 15) .skip (.exit 0))) (.seq (.blk 1 (.seq (.reg [Zm 18 1,Zm 19 0,Zm 20 5,Zx 21 1 19 20,Zl 22 21,Zo 23 (.lenz (Zt 22)),Zb 24 .sub 18 23,Zm 1 24] []) (.seq (.reg [Zm 25 1,Zd 26 .lss 25 0] []) (.cond (Zt 26) (.seq (.reg [Zn 4 (-1)] []) .ret) .skip)))) (.reg [Zm 16 5,Zd 17 .add 16 1,Zm 5 17] [])))
def A43R2:ACode:=(.seq (.reg [Zm 27 1,Zm 4 27] []) .ret)
def A43:ACode:=(.seq (.reg [Zn 4 0] []) (.seq (.reg [Zm 6 1,Zm 7 0,Zk 8 7,Zb 9 .sub 6 8,Zm 1 9] []) (.seq (.seq (.reg [Zm 10 1,Zd 11 .lss 10 0] []) (.cond (Zt 11) (.seq (.reg [Zn 4 (-1)] []) .ret) .skip)) (.seqa (.reg [Zn 5 0] []) (.blk 0 (.loop A43L1)) [1] [] A43R2))))
def V43:List RV:=[.t 4]
theorem m43:mtcF Tryz.prog 43 2 A43 V43=true:=by kernel_rfl
def A44:ACode:=(.seq (.reg [Zn 4 0] []) (.seq (.reg [Zm 5 1,Zm 6 0,Zk 7 6,Zb 8 .sub 5 7,Zm 1 8] []) (.seq (.seq (.reg [Zm 9 1,Zd 10 .lss 9 0] []) (.cond (Zt 10) (.seq (.reg [Zn 4 (-1)] []) .ret) .skip)) (.seq (.reg [Zm 11 1,Zm 4 11] []) .ret))))
def V44:List RV:=[.t 4]
theorem m44:mtcF Tryz.prog 44 2 A44 V44=true:=by kernel_rfl
def A12:ACode:=(.seq (.reg [Zo 2 (.box 2 (Zt 0)),Zn 4 0] []) (.seq (.reg [Za 5 0 2,Zl 6 5,Zm 7 1,Zo 8 (.call 43 [(Zt 6),(Zt 7)]),Zm 1 8] []) (.seq (.seq (.reg [Zm 9 1,Zd 10 .lss 9 0] []) (.cond (Zt 10) (.seq (.reg [Zn 4 (-1)] []) .ret) .skip)) (.seq (.reg [Za 11 1 2,Zl 12 11,Zm 13 1,Zo 14 (.call 44 [(Zt 12),(Zt 13)]),Zm 1 14] []) (.seq (.seq (.reg [Zm 15 1,Zd 16 .lss 15 0] []) (.cond (Zt 16) (.seq (.reg [Zn 4 (-1)] []) .ret) .skip)) (.seq (.reg [Zm 17 1,Zm 4 17] []) .ret))))))
def V12:List RV:=[.t 4]
theorem m12:mtcF Tryz.prog 12 2 A12 V12=true:=by kernel_rfl
def A119:ACode:=(.seq (.reg [Zn 4 0] []) (.seq (.reg [Zm 5 1,Zm 6 0,Zk 7 6,Zb 8 .sub 5 7,Zm 1 8] []) (.seq (.seq (.reg [Zm 9 1,Zd 10 .lss 9 0] []) (.cond (Zt 10) (.seq (.reg [Zn 4 (-1)] []) .ret) .skip)) (.seq (.reg [Zm 11 1,Zm 4 11] []) .ret))))
def V119:List RV:=[.t 4]
theorem m119:mtcF Tryz.prog 119 2 A119 V119=true:=by kernel_rfl
def A87:ACode:=(.seq (.reg [Zo 2 (.box 2 (Zt 0)),Zn 4 0] []) (.seq (.reg [Za 5 1 2,Zl 6 5,Zm 7 1,Zo 8 (.call 119 [(Zt 6),(Zt 7)]),Zm 1 8] []) (.seq (.seq (.reg [Zm 9 1,Zd 10 .lss 9 0] []) (.cond (Zt 10) (.seq (.reg [Zn 4 (-1)] []) .ret) .skip)) (.seq (.reg [Zm 11 1,Zm 4 11] []) .ret))))
def V87:List RV:=[.t 4]
theorem m87:mtcF Tryz.prog 87 2 A87 V87=true:=by kernel_rfl
def A45:ACode:=(.seq (.reg [Zo 2 (.box 10 (Zt 0)),Zn 4 0] []) (.seq (.reg [Za 5 2 2,Zo 6 (.load 2 true (Zt 5)),Zm 7 1,Zo 8 (.call 87 [(Zt 6),(Zt 7)]),Zm 1 8] []) (.seq (.seq (.reg [Zm 9 1,Zd 10 .lss 9 0] []) (.cond (Zt 10) (.seq (.reg [Zn 4 (-1)] []) .ret) .skip)) (.seq (.reg [Za 11 6 2,Zo 12 (.load 2 true (Zt 11)),Zm 13 1,Zo 14 (.call 87 [(Zt 12),(Zt 13)]),Zm 1 14] []) (.seq (.seq (.reg [Zm 15 1,Zd 16 .lss 15 0] []) (.cond (Zt 16) (.seq (.reg [Zn 4 (-1)] []) .ret) .skip)) (.seq (.reg [Zm 17 1,Zm 4 17] []) .ret))))))
def V45:List RV:=[.t 4]
theorem m45:mtcF Tryz.prog 45 2 A45 V45=true:=by kernel_rfl
def A13L1:ACode:=(.seq (.seq (.reg [Zm 12 5,Zm 13 0,Zk 14 13,Zb 15 .lss 12 14] []) (.cond (Zt 15) .skip (.exit 0))) (.seq (.blk 1 (.seq (.reg [Zm 18 0,Zm 19 5,Zx 20 10 18 19,Zo 21 (.load 10 true (Zt 20)),Zm 22 1,Zo 23 (.call 45 [(Zt 21),(Zt 22)]),Zm 1 23] []) (.seq (.reg [Zm 24 1,Zd 25 .lss 24 0] []) (.cond (Zt 25) (.seq (.reg [Zn 4 (-1)] []) .ret) .skip)))) (.reg [Zm 16 5,Zd 17 .add 16 1,Zm 5 17] [])))
def A13R2:ACode:=(.seq (.reg [Zm 26 1,Zm 4 26] []) .ret)
def A13:ACode:=(.seq (.reg [Zn 4 0] []) (.seq (.reg [Zm 6 1,Zm 7 0,Zk 8 7,Zb 9 .sub 6 8,Zm 1 9] []) (.seq (.seq (.reg [Zm 10 1,Zd 11 .lss 10 0] []) (.cond (Zt 11) (.seq (.reg [Zn 4 (-1)] []) .ret) .skip)) (.seqa (.reg [Zn 5 0] []) (.blk 0 (.loop A13L1)) [1] [] A13R2))))
def V13:List RV:=[.t 4]
theorem m13:mtcF Tryz.prog 13 2 A13 V13=true:=by kernel_rfl
def A48L1:ACode:=(.seq (.seq (.reg [Zm 8 4,Zm 9 0,Zk 10 9,Zb 11 .lss 8 10] []) (.cond (Zt 11) .skip (.exit 0))) (.seq (.blk 1 (.reg [Zm 14 3,Zm 15 4,Zm 16 0,Zm 17 4,Zx 18 1 16 17,Zl 19 18,Zx 20 1 14 15,⟨none,.store 1 (Zt 20) (Zt 19),none⟩] [])) (.reg [Zm 12 4,Zd 13 .add 12 1,Zm 4 13] [])))
def A48R2:ACode:=(.seq (.reg [Zm 21 3,Zm 2 21] [.s 2]) .ret)
def A48:ACode:=(.seq (.reg [Zo 2 (.mv (.c (.lst .u 1 [])))] [.s 2]) (.seq (.reg [Zm 5 0,Zk 6 5,Zo 7 (.mks 1 (.z ⟨#[]⟩) 16 (Zt 6) (Zt 6)),Zm 3 7] [.s 3]) (.seqa (.reg [Zn 4 0] []) (.blk 0 (.loop A48L1)) [3] [3] A48R2)))
def V48:List RV:=[.t 2]
theorem m48:mtcF Tryz.prog 48 1 A48 V48=true:=by kernel_rfl
def A91:ACode:=(.seq (.reg [Zo 1 (.box 4 (Zt 0)),Zo 2 (.alloc (.agg [.i 0,.i 0,.i 0,.i 0]))] []) (.seq (.reg [Zo 3 (.alloc (.agg [.i 0,.i 0,.i 0,.i 0]))] []) (.seq (.reg [Za 4 0 1,Zl 5 4,Za 6 0 3,⟨none,.store 1 (Zt 6) (Zt 5),none⟩] []) (.seq (.reg [Za 7 1 1,Zl 8 7,Za 9 1 3,⟨none,.store 1 (Zt 9) (Zt 8),none⟩] []) (.seq (.reg [Za 10 2 1,Zl 11 10,Za 12 2 3,⟨none,.store 1 (Zt 12) (Zt 11),none⟩] []) (.seq (.reg [Za 13 3 1,Zl 14 13,Za 15 3 3,⟨none,.store 1 (Zt 15) (Zt 14),none⟩] []) (.seq (.reg [Zo 16 (.load 4 true (Zt 3)),⟨none,.store 4 (Zt 2) (Zt 16),none⟩] []) .ret)))))))
def V91:List RV:=[.c 2 4 true]
theorem m91:mtcF Tryz.prog 91 1 A91 V91=true:=by kernel_rfl
def A49L1:ACode:=(.seq (.seq (.reg [Zm 8 4,Zm 9 0,Zk 10 9,Zb 11 .lss 8 10] []) (.cond (Zt 11) .skip (.exit 0))) (.seq (.blk 1 (.reg [Zm 14 3,Zm 15 4,Zm 16 0,Zm 17 4,Zx 18 4 16 17,Zo 19 (.load 4 true (Zt 18)),Zo 20 (.call 91 [(Zt 19)]),Zx 21 4 14 15,⟨none,.store 4 (Zt 21) (Zt 20),none⟩] [])) (.reg [Zm 12 4,Zd 13 .add 12 1,Zm 4 13] [])))
def A49R2:ACode:=(.seq (.reg [Zm 22 3,Zm 2 22] [.s 2]) .ret)
def A49:ACode:=(.seq (.reg [Zo 2 (.mv (.c (.lst .u 4 [])))] [.s 2]) (.seq (.reg [Zm 5 0,Zk 6 5,Zo 7 (.mks 4 (.agg [.i 0,.i 0,.i 0,.i 0]) 32 (Zt 6) (Zt 6)),Zm 3 7] [.s 3]) (.seqa (.reg [Zn 4 0] []) (.blk 0 (.loop A49L1)) [3] [3] A49R2)))
def V49:List RV:=[.t 2]
theorem m49:mtcF Tryz.prog 49 1 A49 V49=true:=by kernel_rfl
def A15:ACode:=(.seq (.reg [Zo 1 (.box 2 (Zt 0)),Zo 2 (.alloc (.agg [.lst .u 1 [],.lst .u 4 []]))] []) (.seq (.reg [Zo 3 (.alloc (.agg [.lst .u 1 [],.lst .u 4 []]))] []) (.seq (.reg [Za 4 0 1,Zl 5 4,Zo 6 (.call 48 [(Zt 5)]),Za 7 0 3,⟨none,.store 1 (Zt 7) (Zt 6),none⟩] []) (.seq (.reg [Za 8 1 1,Zl 9 8,Zo 10 (.call 49 [(Zt 9)]),Za 11 1 3,⟨none,.store 1 (Zt 11) (Zt 10),none⟩] []) (.seq (.reg [Zo 12 (.load 2 true (Zt 3)),⟨none,.store 2 (Zt 2) (Zt 12),none⟩] []) .ret)))))
def V15:List RV:=[.c 2 2 true]
theorem m15:mtcF Tryz.prog 15 1 A15 V15=true:=by kernel_rfl
def A26L1:ACode:=(.seq (.seq (.reg [Zm 8 4,Zm 9 0,Zk 10 9,Zb 11 .lss 8 10] []) (.cond (Zt 11) .skip (.exit 0))) (.seq (.blk 1 (.reg [Zm 14 3,Zm 15 4,Zm 16 0,Zm 17 4,Zx 18 1 16 17,Zl 19 18,Zx 20 1 14 15,⟨none,.store 1 (Zt 20) (Zt 19),none⟩] [])) (.reg [Zm 12 4,Zd 13 .add 12 1,Zm 4 13] [])))
def A26R2:ACode:=(.seq (.reg [Zm 21 3,Zm 2 21] [.s 2]) .ret)
def A26:ACode:=(.seq (.reg [Zo 2 (.mv (.c (.lst .u 1 [])))] [.s 2]) (.seq (.reg [Zm 5 0,Zk 6 5,Zo 7 (.mks 1 (.i 0) 8 (Zt 6) (Zt 6)),Zm 3 7] [.s 3]) (.seqa (.reg [Zn 4 0] []) (.blk 0 (.loop A26L1)) [3] [3] A26R2)))
def V26:List RV:=[.t 2]
theorem m26:mtcF Tryz.prog 26 1 A26 V26=true:=by kernel_rfl
def A92:ACode:=(.seq (.reg [Zo 1 (.box 2 (Zt 0)),Zo 2 (.alloc (.agg [.i 0,.lst .u 1 []]))] []) (.seq (.reg [Zo 3 (.alloc (.agg [.i 0,.lst .u 1 []]))] []) (.seq (.reg [Za 4 0 1,Zl 5 4,Za 6 0 3,⟨none,.store 1 (Zt 6) (Zt 5),none⟩] []) (.seq (.reg [Za 7 1 1,Zl 8 7,Zo 9 (.call 26 [(Zt 8)]),Za 10 1 3,⟨none,.store 1 (Zt 10) (Zt 9),none⟩] []) (.seq (.reg [Zo 11 (.load 2 true (Zt 3)),⟨none,.store 2 (Zt 2) (Zt 11),none⟩] []) .ret)))))
def V92:List RV:=[.c 2 2 true]
theorem m92:mtcF Tryz.prog 92 1 A92 V92=true:=by kernel_rfl
def A93:ACode:=(.seq (.reg [Zo 1 (.box 2 (Zt 0)),Zo 2 (.alloc (.agg [.i 0,.i 0]))] []) (.seq (.reg [Zo 3 (.alloc (.agg [.i 0,.i 0]))] []) (.seq (.reg [Za 4 0 1,Zl 5 4,Za 6 0 3,⟨none,.store 1 (Zt 6) (Zt 5),none⟩] []) (.seq (.reg [Za 7 1 1,Zl 8 7,Za 9 1 3,⟨none,.store 1 (Zt 9) (Zt 8),none⟩] []) (.seq (.reg [Zo 10 (.load 2 true (Zt 3)),⟨none,.store 2 (Zt 2) (Zt 10),none⟩] []) .ret)))))
def V93:List RV:=[.c 2 2 true]
theorem m93:mtcF Tryz.prog 93 1 A93 V93=true:=by kernel_rfl
def A50:ACode:=(.seq (.reg [Zo 1 (.box 10 (Zt 0)),Zo 2 (.alloc (.agg [.i 0,.i 0,.i 0,.lst .u 1 [],.i 0,.i 0,.i 0,.lst .u 1 [],.i 0,.i 0]))] []) (.seq (.reg [Zo 3 (.alloc (.agg [.i 0,.i 0,.i 0,.lst .u 1 [],.i 0,.i 0,.i 0,.lst .u 1 [],.i 0,.i 0]))] []) (.seq (.reg [Za 4 0 1,Zl 5 4,Za 6 0 3,⟨none,.store 1 (Zt 6) (Zt 5),none⟩] []) (.seq (.reg [Za 7 1 1,Zl 8 7,Za 9 1 3,⟨none,.store 1 (Zt 9) (Zt 8),none⟩] []) (.seq (.reg [Za 10 2 1,Zo 11 (.load 2 true (Zt 10)),Zo 12 (.call 92 [(Zt 11)]),Za 13 2 3,⟨none,.store 2 (Zt 13) (Zt 12),none⟩] []) (.seq (.reg [Za 14 4 1,Zo 15 (.load 2 true (Zt 14)),Zo 16 (.call 93 [(Zt 15)]),Za 17 4 3,⟨none,.store 2 (Zt 17) (Zt 16),none⟩] []) (.seq (.reg [Za 18 6 1,Zo 19 (.load 2 true (Zt 18)),Zo 20 (.call 92 [(Zt 19)]),Za 21 6 3,⟨none,.store 2 (Zt 21) (Zt 20),none⟩] []) (.seq (.reg [Za 22 8 1,Zo 23 (.load 2 true (Zt 22)),Zo 24 (.call 93 [(Zt 23)]),Za 25 8 3,⟨none,.store 2 (Zt 25) (Zt 24),none⟩] []) (.seq (.reg [Zo 26 (.load 10 true (Zt 3)),⟨none,.store 10 (Zt 2) (Zt 26),none⟩] []) .ret)))))))))
def V50:List RV:=[.c 2 10 true]
theorem m50:mtcF Tryz.prog 50 1 A50 V50=true:=by kernel_rfl
def A16L1:ACode:=(.seq (.seq (.reg [Zm 8 4,Zm 9 0,Zk 10 9,Zb 11 .lss 8 10] []) (.cond (Zt 11) .skip (.exit 0))) (.seq (.blk 1 (.reg [Zm 14 3,Zm 15 4,Zm 16 0,Zm 17 4,Zx 18 10 16 17,Zo 19 (.load 10 true (Zt 18)),Zo 20 (.call 50 [(Zt 19)]),Zx 21 10 14 15,⟨none,.store 10 (Zt 21) (Zt 20),none⟩] [])) (.reg [Zm 12 4,Zd 13 .add 12 1,Zm 4 13] [])))
def A16R2:ACode:=(.seq (.reg [Zm 22 3,Zm 2 22] [.s 2]) .ret)
def A16:ACode:=(.seq (.reg [Zo 2 (.mv (.c (.lst .u 10 [])))] [.s 2]) (.seq (.reg [Zm 5 0,Zk 6 5,Zo 7 (.mks 10 (.agg [.i 0,.i 0,.i 0,.lst .u 1 [],.i 0,.i 0,.i 0,.lst .u 1 [],.i 0,.i 0]) 112 (Zt 6) (Zt 6)),Zm 3 7] [.s 3]) (.seqa (.reg [Zn 4 0] []) (.blk 0 (.loop A16L1)) [3] [3] A16R2)))
def V16:List RV:=[.t 2]
theorem m16:mtcF Tryz.prog 16 1 A16 V16=true:=by kernel_rfl
def A82:ACode:=(.seq (.reg [Zo 6 (.mv (.c (.b false)))] []) (.seq (.reg [Zm 7 0,Zm 8 1,Zb 9 .geq 7 8,Zm 10 9,⟨(some 11),.mv (Zt 0),(some (10,true))⟩,⟨(some 12),.mv (Zt 2),(some (10,true))⟩,⟨(some 13),.bin .leq (Zt 11) (Zt 12),(some (10,true))⟩,Zo 14 (.pick (Zt 10) (Zt 13) (.c (.b false))),Zm 6 14] []) .ret))
def V82:List RV:=[.t 6]
theorem m82:mtcF Tryz.prog 82 3 A82 V82=true:=by kernel_rfl
def A138:ACode:=(.seq (.reg [Zo 2 (.mv (.c (.b false)))] []) (.seq (.reg [Zm 3 0,Zo 4 (.bin .geq (Zt 3) (.c (.sc (.int .u8 97)))),Zm 5 4,⟨(some 6),.mv (Zt 0),(some (5,true))⟩,⟨(some 7),.bin .leq (Zt 6) (.c (.sc (.int .u8 122))),(some (5,true))⟩,Zo 8 (.pick (Zt 5) (Zt 7) (.c (.b false))),Zm 9 8,⟨(some 10),.mv (Zt 0),(some (9,false))⟩,⟨(some 11),.bin .geq (Zt 10) (.c (.sc (.int .u8 48))),(some (9,false))⟩,⟨(some 12),.mv (Zt 11),(some (9,false))⟩,⟨(some 13),.mv (Zt 0),(some (12,true))⟩,⟨(some 14),.bin .leq (Zt 13) (.c (.sc (.int .u8 57))),(some (12,true))⟩,⟨(some 15),.pick (Zt 12) (Zt 14) (.c (.b false)),(some (9,false))⟩,Zo 16 (.pick (Zt 9) (.c (.b true)) (Zt 15)),Zm 2 16] []) .ret))
def V138:List RV:=[.t 2]
theorem m138:mtcF Tryz.prog 138 1 A138 V138=true:=by kernel_rfl
def A120R1:ACode:=(.cond (Zt 17) (.seq (.reg [Zo 2 (.mv (.c (.b false)))] []) .ret) .skip)
def A120L2:ACode:=(.seq (.seq (.reg [Zm 18 3,Zm 19 0,Zo 20 (.lenz (Zt 19)),Zb 21 .lss 18 20] []) (.cond (Zt 21) .skip (.exit 0))) (.seq (.blk 1 (.seq (.reg [Zm 24 0,Zm 25 3,Zo 26 (.stri (Zt 24) (Zt 25)),Zo 27 (.call 138 [(Zt 26)]),Zo 28 (.un .not (Zt 27))] []) (.cond (Zt 28) (.seq (.reg [Zo 2 (.mv (.c (.b false)))] []) .ret) .skip))) (.reg [Zm 22 3,Zd 23 .add 22 1,Zm 3 23] [])))
def A120R3:ACode:=(.seq (.reg [Zo 2 (.mv (.c (.b true)))] []) .ret)
def A120:ACode:=(.seq (.reg [Zo 2 (.mv (.c (.b false)))] []) (.seq (.seqr (.reg [Zm 4 0,Zo 5 (.lenz (Zt 4)),Zo 6 (.call 82 [(Zt 5),(.c (.i 1)),(.c (.i 8))]),Zo 7 (.un .not (Zt 6)),Zm 8 7,⟨(some 9),.mv (Zt 0),(some (8,false))⟩,⟨(some 10),.stri (Zt 9) (.c (.i 0)),(some (8,false))⟩,⟨(some 11),.bin .lss (Zt 10) (.c (.sc (.int .u8 97))),(some (8,false))⟩,Zo 12 (.pick (Zt 8) (.c (.b true)) (Zt 11)),Zm 13 12,⟨(some 14),.mv (Zt 0),(some (13,false))⟩,⟨(some 15),.stri (Zt 14) (.c (.i 0)),(some (13,false))⟩,⟨(some 16),.bin .gtr (Zt 15) (.c (.sc (.int .u8 122))),(some (13,false))⟩,Zo 17 (.pick (Zt 13) (.c (.b true)) (Zt 16))] []) [0,17] [] A120R1) (.seqa (.reg [Zn 3 0] []) (.blk 0 (.loop A120L2)) [] [] A120R3)))
def V120:List RV:=[.t 2]
theorem m120:mtcF Tryz.prog 120 1 A120 V120=true:=by kernel_rfl
def A121L1:ACode:=(.seq (.seq (.reg [Zm 6 5,Zm 7 0,Zk 8 7,Zb 9 .lss 6 8] []) (.cond (Zt 9) .skip (.exit 0))) (.seq (.blk 1 (.seq (.reg [Zm 12 0,Zm 13 5,Zx 14 1 12 13,Zl 15 14,Zm 16 1,Zb 17 .eql 15 16] []) (.cond (Zt 17) (.seq (.reg [Zm 18 5,Zm 4 18] []) .ret) .skip))) (.reg [Zm 10 5,Zd 11 .add 10 1,Zm 5 11] [])))
def A121R2:ACode:=(.seq (.reg [Zn 4 (-1)] []) .ret)
def A121:ACode:=(.seq (.reg [Zn 4 0] []) (.seqa (.reg [Zn 5 0] []) (.blk 0 (.loop A121L1)) [] [] A121R2))
def V121:List RV:=[.t 4]
theorem m121:mtcF Tryz.prog 121 2 A121 V121=true:=by kernel_rfl
def A122:ACode:=(.seq (.reg [Zo 2 (.box 4 (Zt 0)),Zo 4 (.mv (.c (.b false)))] []) (.seq (.reg [Za 5 0 2,Zl 6 5,Zm 7 1,Zd 8 .sub 7 1,Zo 9 (.call 82 [(Zt 6),(.c (.i 0)),(Zt 8)]),Zm 10 9,⟨(some 11),.fad 1 (Zt 2),(some (10,true))⟩,⟨(some 12),.load 1 false (Zt 11),(some (10,true))⟩,⟨(some 13),.fad 0 (Zt 2),(some (10,true))⟩,⟨(some 14),.load 1 false (Zt 13),(some (10,true))⟩,⟨(some 15),.bin .add (Zt 14) (.c (.i 1)),(some (10,true))⟩,⟨(some 16),.mv (Zt 1),(some (10,true))⟩,⟨(some 17),.bin .sub (Zt 16) (.c (.i 1)),(some (10,true))⟩,⟨(some 18),.call 82 [(Zt 12),(Zt 15),(Zt 17)],(some (10,true))⟩,Zo 19 (.pick (Zt 10) (Zt 18) (.c (.b false))),Zm 20 19,⟨(some 21),.fad 2 (Zt 2),(some (20,true))⟩,⟨(some 22),.load 1 false (Zt 21),(some (20,true))⟩,⟨(some 23),.call 82 [(Zt 22),(.c (.i 1)),(.c (.i 5000))],(some (20,true))⟩,Zo 24 (.pick (Zt 20) (Zt 23) (.c (.b false))),Zm 25 24,⟨(some 26),.fad 3 (Zt 2),(some (25,true))⟩,⟨(some 27),.load 1 false (Zt 26),(some (25,true))⟩,⟨(some 28),.call 82 [(Zt 27),(.c (.i 0)),(.c (.i 9))],(some (25,true))⟩,Zo 29 (.pick (Zt 25) (Zt 28) (.c (.b false))),Zm 4 29] []) .ret))
def V122:List RV:=[.t 4]
theorem m122:mtcF Tryz.prog 122 2 A122 V122=true:=by kernel_rfl
def A123:ACode:=(.seq (.reg [Zo 2 (.box 4 (Zt 0)),Zo 3 (.box 4 (Zt 1)),Zn 4 0] []) (.seq (.blk 0 (.seq (.reg [Za 6 0 2,Zl 7 6,Za 8 0 3,Zl 9 8,Zb 10 .neq 7 9,Zm 5 10] []) (.cond (Zt 5) (.seq (.reg [Za 11 0 2,Zl 12 11,Za 13 0 3,Zl 14 13,Zb 15 .sub 12 14,Zm 4 15] []) .ret) (.seq (.reg [Za 17 1 2,Zl 18 17,Za 19 1 3,Zl 20 19,Zb 21 .neq 18 20,Zm 16 21] []) (.cond (Zt 16) (.seq (.reg [Za 22 1 2,Zl 23 22,Za 24 1 3,Zl 25 24,Zb 26 .sub 23 25,Zm 4 26] []) .ret) (.seq (.reg [Za 28 2 2,Zl 29 28,Za 30 2 3,Zl 31 30,Zb 32 .neq 29 31,Zm 27 32] []) (.cond (Zt 27) (.seq (.reg [Za 33 2 2,Zl 34 33,Za 35 2 3,Zl 36 35,Zb 37 .sub 34 36,Zm 4 37] []) .ret) .skip))))))) (.seq (.reg [Za 38 3 2,Zl 39 38,Za 40 3 3,Zl 41 40,Zb 42 .sub 39 41,Zm 4 42] []) .ret)))
def V123:List RV:=[.t 4]
theorem m123:mtcF Tryz.prog 123 2 A123 V123=true:=by kernel_rfl
def A88R1:ACode:=(.cond (Zt 15) (.seq (.reg [Zo 2 (.mv (.c (.b false)))] []) .ret) .skip)
def A88R2:ACode:=(.cond (Zt 41) (.seq (.reg [Zo 2 (.mv (.c (.b false)))] []) .ret) .skip)
def A88L3:ACode:=(.seq (.seq (.reg [Zm 16 3,Za 17 0 1,Zl 18 17,Zk 19 18,Zb 20 .lss 16 19] []) (.cond (Zt 20) .skip (.exit 0))) (.seq (.blk 1 (.seqr (.drw [Za 23 0 1,Zl 24 23,Zm 25 3,Zx 26 1 24 25,Zl 27 26,Zo 28 (.call 120 [(Zt 27)]),Zo 29 (.un .not (Zt 28)),Zm 30 29,⟨(some 31),.fad 0 (Zt 1),(some (30,false))⟩,⟨(some 32),.load 1 false (Zt 31),(some (30,false))⟩,⟨(some 33),.fad 0 (Zt 1),(some (30,false))⟩,⟨(some 34),.load 1 false (Zt 33),(some (30,false))⟩,⟨(some 35),.mv (Zt 3),(some (30,false))⟩,⟨(some 36),.idx 1 (Zt 34) (Zt 35),(some (30,false))⟩,⟨(some 37),.load 1 false (Zt 36),(some (30,false))⟩,⟨(some 38),.call 121 [(Zt 32),(Zt 37)],(some (30,false))⟩,⟨(some 39),.mv (Zt 3),(some (30,false))⟩,⟨(some 40),.bin .neq (Zt 38) (Zt 39),(some (30,false))⟩,Zo 41 (.pick (Zt 30) (.c (.b true)) (Zt 40))] []) [1,3,41] [1] A88R2)) (.reg [Zm 21 3,Zd 22 .add 21 1,Zm 3 22] [])))
def A88R5:ACode:=(.cond (Zt 77) (.seq (.reg [Zo 2 (.mv (.c (.b false)))] []) .ret) .skip)
def A88L6:ACode:=(.seq (.seq (.reg [Zm 42 4,Za 43 1 1,Zl 44 43,Zk 45 44,Zb 46 .lss 42 45] []) (.cond (Zt 46) .skip (.exit 2))) (.seq (.blk 3 (.seqr (.drw [Za 49 1 1,Zl 50 49,Zm 51 4,Zx 52 4 50 51,Zo 53 (.load 4 true (Zt 52)),Za 54 0 1,Zl 55 54,Zk 56 55,Zo 57 (.call 122 [(Zt 53),(Zt 56)]),Zo 58 (.un .not (Zt 57)),Zm 59 58,⟨(some 60),.mv (Zt 4),(some (59,false))⟩,⟨(some 61),.bin .gtr (Zt 60) (.c (.i 0)),(some (59,false))⟩,⟨(some 62),.mv (Zt 61),(some (59,false))⟩,⟨(some 63),.fad 1 (Zt 1),(some (62,true))⟩,⟨(some 64),.load 1 false (Zt 63),(some (62,true))⟩,⟨(some 65),.mv (Zt 4),(some (62,true))⟩,⟨(some 66),.bin .sub (Zt 65) (.c (.i 1)),(some (62,true))⟩,⟨(some 67),.idx 4 (Zt 64) (Zt 66),(some (62,true))⟩,⟨(some 68),.load 4 true (Zt 67),(some (62,true))⟩,⟨(some 69),.fad 1 (Zt 1),(some (62,true))⟩,⟨(some 70),.load 1 false (Zt 69),(some (62,true))⟩,⟨(some 71),.mv (Zt 4),(some (62,true))⟩,⟨(some 72),.idx 4 (Zt 70) (Zt 71),(some (62,true))⟩,⟨(some 73),.load 4 true (Zt 72),(some (62,true))⟩,⟨(some 74),.call 123 [(Zt 68),(Zt 73)],(some (62,true))⟩,⟨(some 75),.bin .gtr (Zt 74) (.c (.i 0)),(some (62,true))⟩,⟨(some 76),.pick (Zt 62) (Zt 75) (.c (.b false)),(some (59,false))⟩,Zo 77 (.pick (Zt 59) (.c (.b true)) (Zt 76))] []) [1,4,77] [1] A88R5)) (.reg [Zm 47 4,Zd 48 .add 47 1,Zm 4 48] [])))
def A88R7:ACode:=(.seq (.reg [Zo 2 (.mv (.c (.b true)))] []) .ret)
def A88R4:ACode:=(.seqa (.reg [Zn 4 0] []) (.blk 2 (.loop A88L6)) [] [] A88R7)
def A88:ACode:=(.seq (.reg [Zo 1 (.box 2 (Zt 0)),Zo 2 (.mv (.c (.b false)))] []) (.seq (.seqr (.reg [Za 5 0 1,Zl 6 5,Zk 7 6,Zo 8 (.call 82 [(Zt 7),(.c (.i 2)),(.c (.i 8))]),Zo 9 (.un .not (Zt 8)),Zm 10 9,⟨(some 11),.fad 1 (Zt 1),(some (10,false))⟩,⟨(some 12),.load 1 false (Zt 11),(some (10,false))⟩,⟨(some 13),.len (Zt 12),(some (10,false))⟩,⟨(some 14),.bin .gtr (Zt 13) (.c (.i 14)),(some (10,false))⟩,Zo 15 (.pick (Zt 10) (.c (.b true)) (Zt 14))] []) [1,15] [1] A88R1) (.seqa (.reg [Zn 3 0] []) (.blk 0 (.loop A88L3)) [1] [1] A88R4)))
def V88:List RV:=[.t 2]
theorem m88:mtcF Tryz.prog 88 1 A88 V88=true:=by kernel_rfl
def A148:ACode:=(.seq (.reg [Zo 3 (.box 2 (Zt 0)),Zn 6 0] []) (.seq (.reg [Za 8 1 3,Zl 9 8,Zm 10 1,Zx 11 4 9 10,Zo 12 (.load 4 true (Zt 11)),Zo 7 (.alloc (.agg [.i 0,.i 0,.i 0,.i 0])),⟨none,.store 4 (Zt 7) (Zt 12),none⟩] []) (.seq (.seq (.reg [Zm 13 2] []) (.blk 0 (.seq (.reg [Za 15 0 7,Zl 16 15,Zb 17 .eql 13 16,Zm 14 17] []) (.cond (Zt 14) (.seq (.reg [Za 18 1 7,Zl 19 18,Zm 6 19] []) .ret) (.seq (.reg [Za 21 1 7,Zl 22 21,Zb 23 .eql 13 22,Zm 20 23] []) (.cond (Zt 20) (.seq (.reg [Za 24 0 7,Zl 25 24,Zm 6 25] []) .ret) .skip)))))) (.seq (.reg [Zn 6 (-1)] []) .ret))))
def V148:List RV:=[.t 6]
theorem m148:mtcF Tryz.prog 148 3 A148 V148=true:=by kernel_rfl
def A73L1:ACode:=(.seq (.seq (.reg [Zm 6 5,Zm 7 0,Zk 8 7,Zb 9 .lss 6 8] []) (.cond (Zt 9) .skip (.exit 0))) (.seq (.blk 1 (.seq (.reg [Zm 12 0,Zm 13 5,Zx 14 1 12 13,Zl 15 14,Zm 16 1,Zb 17 .eql 15 16] []) (.cond (Zt 17) (.seq (.reg [Zo 4 (.mv (.c (.b true)))] []) .ret) .skip))) (.reg [Zm 10 5,Zd 11 .add 10 1,Zm 5 11] [])))
def A73R2:ACode:=(.seq (.reg [Zo 4 (.mv (.c (.b false)))] []) .ret)
def A73:ACode:=(.seq (.reg [Zo 4 (.mv (.c (.b false)))] []) (.seqa (.reg [Zn 5 0] []) (.blk 0 (.loop A73L1)) [] [] A73R2))
def V73:List RV:=[.t 4]
theorem m73:mtcF Tryz.prog 73 2 A73 V73=true:=by kernel_rfl
def A139R1:ACode:=(.cond (Zt 25) (.seq (.reg [Zm 26 6,Zm 4 26,Zo 5 (.mv (.c (.b false)))] [.s 4]) .ret) .skip)
def A139R2:ACode:=(.cond (Zt 65) (.seq (.reg [Zm 66 6,Zm 4 66,Zo 5 (.mv (.c (.b false)))] [.s 4]) .ret) .skip)
def A139L3:ACode:=(.seq (.seq (.reg [Zm 27 7,Za 28 1 3,Zl 29 28,Zk 30 29,Zb 31 .lss 27 30] []) (.cond (Zt 31) .skip (.exit 0))) (.seq (.blk 1 (.seq (.seq (.drw [Za 34 1 3,Zl 35 34,Zm 36 7,Zx 37 1 35 36,Zl 38 37,Za 39 1 2,Zl 40 39,Zk 41 40,Zd 42 .sub 41 1,Zo 43 (.call 82 [(Zt 38),(.c (.i 0)),(Zt 42)]),Zo 44 (.un .not (Zt 43))] []) (.cond (Zt 44) (.seq (.reg [Zm 45 6,Zm 4 45,Zo 5 (.mv (.c (.b false)))] [.s 4]) .ret) .skip)) (.seq (.drw [Zo 46 (.load 2 true (Zt 2)),Za 47 1 3,Zl 48 47,Zm 49 7,Zx 50 1 48 49,Zl 51 50,Zm 52 6,Zm 53 6,Zk 54 53,Zd 55 .sub 54 1,Zx 56 1 52 55,Zl 57 56,Zo 58 (.call 148 [(Zt 46),(Zt 51),(Zt 57)]),Zm 8 58] []) (.seq (.seqr (.reg [Zm 59 8,Zd 60 .lss 59 0,Zm 61 60,⟨(some 62),.mv (Zt 6),(some (61,false))⟩,⟨(some 63),.mv (Zt 8),(some (61,false))⟩,⟨(some 64),.call 73 [(Zt 62),(Zt 63)],(some (61,false))⟩,Zo 65 (.pick (Zt 61) (.c (.b true)) (Zt 64))] []) [2,3,6,7,8,65] [2,3,6] A139R2) (.reg [Zm 67 6,Zm 68 8,Zo 69 (.bsl 1 false [(Zt 68)]),Zo 70 (.app 1 8 true (Zt 67) (Zt 69)),Zm 6 70] [.s 6]))))) (.reg [Zm 32 7,Zd 33 .add 32 1,Zm 7 33] [])))
def A139R4:ACode:=(.seq (.reg [Zm 71 6,Zm 4 71,Zo 5 (.mv (.c (.b true)))] [.s 4]) .ret)
def A139:ACode:=(.seq (.reg [Zo 2 (.box 2 (Zt 0)),Zo 3 (.box 2 (Zt 1)),Zo 4 (.mv (.c (.lst .u 1 []))),Zo 5 (.mv (.c (.b false)))] [.s 4]) (.seq (.reg [Za 9 0 3,Zl 10 9,Zo 11 (.bsl 1 false [(Zt 10)]),Zm 6 11] [.s 6]) (.seq (.seqr (.reg [Za 12 0 3,Zl 13 12,Za 14 0 2,Zl 15 14,Zk 16 15,Zd 17 .sub 16 1,Zo 18 (.call 82 [(Zt 13),(.c (.i 0)),(Zt 17)]),Zo 19 (.un .not (Zt 18)),Zm 20 19,⟨(some 21),.fad 1 (Zt 3),(some (20,false))⟩,⟨(some 22),.load 1 false (Zt 21),(some (20,false))⟩,⟨(some 23),.len (Zt 22),(some (20,false))⟩,⟨(some 24),.bin .eql (Zt 23) (.c (.i 0)),(some (20,false))⟩,Zo 25 (.pick (Zt 20) (.c (.b true)) (Zt 24))] []) [2,3,6,25] [2,3,6] A139R1) (.seqa (.reg [Zn 7 0] []) (.blk 0 (.loop A139L3)) [6] [6] A139R4))))
def V139:List RV:=[.t 4,.t 5]
theorem m139:mtcF Tryz.prog 139 2 A139 V139=true:=by kernel_rfl
def A124:ACode:=(.seq (.reg [Zo 2 (.box 2 (Zt 0)),Zo 3 (.box 2 (Zt 1)),Zo 4 (.mv (.c (.b false)))] []) (.seq (.seq (.reg [Zo 7 (.load 2 true (Zt 2)),Zo 8 (.call 88 [(Zt 7)]),Zo 9 (.un .not (Zt 8))] []) (.cond (Zt 9) (.seq (.reg [Zo 4 (.mv (.c (.b false)))] []) .ret) .skip)) (.seq (.reg [Zo 11 (.load 2 true (Zt 2)),Zo 12 (.load 2 true (Zt 3)),Zo 13 (.call 139 [(Zt 11),(Zt 12)]),Zm 10 13,Ze 14 10 0,Ze 15 10 1,Zm 5 14,Zm 6 15] [.s 5]) (.seq (.reg [Zm 16 6,Zm 4 16] []) .ret))))
def V124:List RV:=[.t 4]
theorem m124:mtcF Tryz.prog 124 2 A124 V124=true:=by kernel_rfl
def A125:ACode:=(.seq (.reg [Zo 1 (.box 2 (Zt 0)),Zo 2 (.mv (.c (.b false)))] []) (.seq (.reg [Za 3 0 1,Zl 4 3,Zo 5 (.call 82 [(Zt 4),(.c (.i 0)),(.c (.i 23))]),Zm 6 5,⟨(some 7),.fad 1 (Zt 1),(some (6,true))⟩,⟨(some 8),.load 1 false (Zt 7),(some (6,true))⟩,⟨(some 9),.fad 0 (Zt 1),(some (6,true))⟩,⟨(some 10),.load 1 false (Zt 9),(some (6,true))⟩,⟨(some 11),.bin .sub (.c (.i 24)) (Zt 10),(some (6,true))⟩,⟨(some 12),.call 82 [(Zt 8),(.c (.i 1)),(Zt 11)],(some (6,true))⟩,Zo 13 (.pick (Zt 6) (Zt 12) (.c (.b false))),Zm 2 13] []) .ret))
def V125:List RV:=[.t 2]
theorem m125:mtcF Tryz.prog 125 1 A125 V125=true:=by kernel_rfl
def A140:ACode:=(.seq (.reg [Zo 2 (.box 2 (Zt 0)),Zo 3 (.box 2 (Zt 1)),Zo 4 (.mv (.c (.lst .u 1 [])))] [.s 4]) (.seq (.reg [Zo 8 (.load 2 true (Zt 2)),Zo 9 (.load 2 true (Zt 3)),Zo 10 (.call 139 [(Zt 8),(Zt 9)]),Zm 7 10,Ze 11 7 0,Ze 12 7 1,Zm 5 11,Zm 6 12] [.s 5]) (.seq (.reg [Zm 13 5,Zm 4 13] [.s 4]) .ret)))
def V140:List RV:=[.t 4]
theorem m140:mtcF Tryz.prog 140 2 A140 V140=true:=by kernel_rfl
def A126:ACode:=(.seq (.reg [Zo 2 (.box 2 (Zt 0)),Zo 3 (.box 2 (Zt 1)),Zn 4 0] []) (.seq (.reg [Zo 6 (.load 2 true (Zt 2)),Zo 7 (.load 2 true (Zt 3)),Zo 8 (.call 140 [(Zt 6),(Zt 7)]),Zm 5 8] [.s 5]) (.seq (.reg [Zm 9 5,Zm 10 5,Zk 11 10,Zd 12 .sub 11 1,Zx 13 1 9 12,Zl 14 13,Zm 4 14] []) .ret)))
def V126:List RV:=[.t 4]
theorem m126:mtcF Tryz.prog 126 2 A126 V126=true:=by kernel_rfl
def A107L1:ACode:=(.seq (.seq (.reg [Zm 17 6,Za 18 1 2,Zl 19 18,Zk 20 19,Zb 21 .lss 17 20] []) (.cond (Zt 21) .skip (.exit 0))) (.seq (.blk 1 (.seq (.drw [Za 24 1 2,Zl 25 24,Zm 26 6,Zx 27 4 25 26,Za 28 3 27,Zl 29 28,Za 30 1 2,Zl 31 30,Zm 32 1,Zx 33 4 31 32,Za 34 3 33,Zl 35 34,Zb 36 .eql 29 35] []) (.cond (Zt 36) (.reg [Zm 37 5,Zm 38 6,Zo 39 (.bsl 1 false [(Zt 38)]),Zo 40 (.app 1 8 true (Zt 37) (Zt 39)),Zm 5 40] [.s 5]) .skip))) (.reg [Zm 22 6,Zd 23 .add 22 1,Zm 6 23] [])))
def A107R2:ACode:=(.seq (.reg [Zm 41 5,Zm 4 41] [.s 4]) .ret)
def A107:ACode:=(.seq (.reg [Zo 2 (.box 2 (Zt 0)),Zo 4 (.mv (.c (.lst .u 1 [])))] [.s 4]) (.seq (.seq (.reg [Za 7 1 2,Zl 8 7,Zm 9 1,Zx 10 4 8 9,Za 11 3 10,Zl 12 11,Zd 13 .eql 12 0] []) (.cond (Zt 13) (.seq (.reg [Zm 14 1,Zo 15 (.bsl 1 false [(Zt 14)]),Zm 4 15] [.s 4]) .ret) .skip)) (.seq (.reg [Zo 16 (.bsl 1 false []),Zm 5 16] [.s 5]) (.seqa (.reg [Zn 6 0] []) (.blk 0 (.loop A107L1)) [5] [5] A107R2))))
def V107:List RV:=[.t 4]
theorem m107:mtcF Tryz.prog 107 2 A107 V107=true:=by kernel_rfl
def A127L1:ACode:=(.seq (.seq (.reg [Zm 24 9,Za 25 1 5,Zl 26 25,Zk 27 26,Zb 28 .lss 24 27] []) (.cond (Zt 28) .skip (.exit 2))) (.seq (.blk 3 (.seq (.reg [Zm 31 8,Za 32 1 5,Zl 33 32,Zm 34 9,Zx 35 1 33 34,Zl 36 35,Zo 37 (.call 73 [(Zt 31),(Zt 36)])] []) (.cond (Zt 37) (.seq (.reg [Zo 6 (.mv (.c (.b false)))] []) .ret) .skip))) (.reg [Zm 29 9,Zd 30 .add 29 1,Zm 9 30] [])))
def A127R2:ACode:=(.reg [Zm 15 7,Zd 16 .add 15 1,Zm 7 16] [])
def A127L3:ACode:=(.seq (.seq (.reg [Zm 10 7,Za 11 1 4,Zl 12 11,Zk 13 12,Zb 14 .lss 10 13] []) (.cond (Zt 14) .skip (.exit 0))) (.seqr (.blk 1 (.seq (.drw [Zo 17 (.load 2 true (Zt 3)),Za 18 1 4,Zl 19 18,Zm 20 7,Zx 21 1 19 20,Zl 22 21,Zo 23 (.call 107 [(Zt 17),(Zt 22)]),Zm 8 23] [.s 8]) (.seq (.reg [Zn 9 0] []) (.blk 2 (.loop A127L1))))) [3,4,5,7] [3,4,5] A127R2))
def A127R4:ACode:=(.seq (.reg [Zo 6 (.mv (.c (.b true)))] []) .ret)
def A127:ACode:=(.seq (.reg [Zo 3 (.box 2 (Zt 0)),Zo 4 (.box 2 (Zt 1)),Zo 5 (.box 2 (Zt 2)),Zo 6 (.mv (.c (.b false)))] []) (.seqa (.reg [Zn 7 0] []) (.blk 0 (.loop A127L3)) [] [] A127R4))
def V127:List RV:=[.t 6]
theorem m127:mtcF Tryz.prog 127 3 A127 V127=true:=by kernel_rfl
def A89R1:ACode:=(.cond (Zt 27) (.seq (.reg [Zo 4 (.mv (.c (.b false)))] []) .ret) .skip)
def A89R2:ACode:=.ret
def A89:ACode:=(.seq (.reg [Zo 2 (.box 2 (Zt 0)),Zo 3 (.box 10 (Zt 1)),Zo 4 (.mv (.c (.b false)))] []) (.seq (.seqr (.reg [Za 5 0 3,Zl 6 5,Zo 7 (.call 82 [(Zt 6),(.c (.i 1)),(.c (.i 999))]),Zo 8 (.un .not (Zt 7)),Zm 9 8,⟨(some 10),.fad 1 (Zt 3),(some (9,false))⟩,⟨(some 11),.load 1 false (Zt 10),(some (9,false))⟩,⟨(some 12),.call 82 [(Zt 11),(.c (.i 0)),(.c (.i 2))],(some (9,false))⟩,⟨(some 13),.un .not (Zt 12),(some (9,false))⟩,Zo 14 (.pick (Zt 9) (.c (.b true)) (Zt 13)),Zm 15 14,⟨(some 16),.load 2 true (Zt 2),(some (15,false))⟩,⟨(some 17),.fad 2 (Zt 3),(some (15,false))⟩,⟨(some 18),.load 2 true (Zt 17),(some (15,false))⟩,⟨(some 19),.call 124 [(Zt 16),(Zt 18)],(some (15,false))⟩,⟨(some 20),.un .not (Zt 19),(some (15,false))⟩,Zo 21 (.pick (Zt 15) (.c (.b true)) (Zt 20)),Zm 22 21,⟨(some 23),.fad 4 (Zt 3),(some (22,false))⟩,⟨(some 24),.load 2 true (Zt 23),(some (22,false))⟩,⟨(some 25),.call 125 [(Zt 24)],(some (22,false))⟩,⟨(some 26),.un .not (Zt 25),(some (22,false))⟩,Zo 27 (.pick (Zt 22) (.c (.b true)) (Zt 26))] []) [2,3,27] [2,3] A89R1) (.seq (.seq (.reg [Za 28 1 3,Zl 29 28,Zd 30 .eql 29 0] []) (.cond (Zt 30) (.seqr (.reg [Za 31 6 3,Za 32 0 31,Zl 33 32,Zd 34 .eql 33 0,Zm 35 34,⟨(some 36),.fad 6 (Zt 3),(some (35,true))⟩,⟨(some 37),.fad 1 (Zt 36),(some (35,true))⟩,⟨(some 38),.load 1 false (Zt 37),(some (35,true))⟩,⟨(some 39),.len (Zt 38),(some (35,true))⟩,⟨(some 40),.bin .eql (Zt 39) (.c (.i 0)),(some (35,true))⟩,Zo 41 (.pick (Zt 35) (Zt 40) (.c (.b false))),Zm 42 41,⟨(some 43),.fad 8 (Zt 3),(some (42,true))⟩,⟨(some 44),.load 2 true (Zt 43),(some (42,true))⟩,⟨(some 45),.build [.i 0,.i 0] [],(some (42,true))⟩,⟨(some 46),.aeq false (Zt 44) (Zt 45),(some (42,true))⟩,Zo 47 (.pick (Zt 42) (Zt 46) (.c (.b false))),Zm 4 47] []) [4] [] A89R2) .skip)) (.seq (.drw [Zo 48 (.load 2 true (Zt 2)),Za 49 6 3,Zo 50 (.load 2 true (Zt 49)),Zo 51 (.call 124 [(Zt 48),(Zt 50)]),Zm 52 51,⟨(some 53),.fad 8 (Zt 3),(some (52,true))⟩,⟨(some 54),.load 2 true (Zt 53),(some (52,true))⟩,⟨(some 55),.call 125 [(Zt 54)],(some (52,true))⟩,Zo 56 (.pick (Zt 52) (Zt 55) (.c (.b false))),Zm 57 56,⟨(some 58),.fad 6 (Zt 3),(some (57,true))⟩,⟨(some 59),.fad 0 (Zt 58),(some (57,true))⟩,⟨(some 60),.load 1 false (Zt 59),(some (57,true))⟩,⟨(some 61),.fad 2 (Zt 3),(some (57,true))⟩,⟨(some 62),.fad 0 (Zt 61),(some (57,true))⟩,⟨(some 63),.load 1 false (Zt 62),(some (57,true))⟩,⟨(some 64),.bin .eql (Zt 60) (Zt 63),(some (57,true))⟩,Zo 65 (.pick (Zt 57) (Zt 64) (.c (.b false))),Zm 66 65,⟨(some 67),.load 2 true (Zt 2),(some (66,true))⟩,⟨(some 68),.fad 6 (Zt 3),(some (66,true))⟩,⟨(some 69),.load 2 true (Zt 68),(some (66,true))⟩,⟨(some 70),.call 126 [(Zt 67),(Zt 69)],(some (66,true))⟩,⟨(some 71),.load 2 true (Zt 2),(some (66,true))⟩,⟨(some 72),.fad 2 (Zt 3),(some (66,true))⟩,⟨(some 73),.load 2 true (Zt 72),(some (66,true))⟩,⟨(some 74),.call 126 [(Zt 71),(Zt 73)],(some (66,true))⟩,⟨(some 75),.bin .eql (Zt 70) (Zt 74),(some (66,true))⟩,Zo 76 (.pick (Zt 66) (Zt 75) (.c (.b false))),Zm 77 76,⟨(some 78),.load 2 true (Zt 2),(some (77,true))⟩,⟨(some 79),.fad 2 (Zt 3),(some (77,true))⟩,⟨(some 80),.load 2 true (Zt 79),(some (77,true))⟩,⟨(some 81),.fad 6 (Zt 3),(some (77,true))⟩,⟨(some 82),.load 2 true (Zt 81),(some (77,true))⟩,⟨(some 83),.call 127 [(Zt 78),(Zt 80),(Zt 82)],(some (77,true))⟩,Zo 84 (.pick (Zt 77) (Zt 83) (.c (.b false))),Zm 4 84] []) .ret))))
def V89:List RV:=[.t 4]
theorem m89:mtcF Tryz.prog 89 2 A89 V89=true:=by kernel_rfl
def A110L1:ACode:=(.seq (.seq (.reg [Zm 6 5,Za 7 1 2,Zl 8 7,Zk 9 8,Zb 10 .lss 6 9] []) (.cond (Zt 10) .skip (.exit 0))) (.seq (.blk 1 (.seq (.reg [Zm 13 1,Za 14 1 2,Zl 15 14,Zm 16 5,Zx 17 1 15 16,Zl 18 17,Zo 19 (.call 73 [(Zt 13),(Zt 18)])] []) (.cond (Zt 19) (.seq (.reg [Zo 4 (.mv (.c (.b true)))] []) .ret) .skip))) (.reg [Zm 11 5,Zd 12 .add 11 1,Zm 5 12] [])))
def A110R2:ACode:=(.seq (.reg [Zo 4 (.mv (.c (.b false)))] []) .ret)
def A110:ACode:=(.seq (.reg [Zo 2 (.box 2 (Zt 0)),Zo 4 (.mv (.c (.b false)))] []) (.seqa (.reg [Zn 5 0] []) (.blk 0 (.loop A110L1)) [] [] A110R2))
def V110:List RV:=[.t 4]
theorem m110:mtcF Tryz.prog 110 2 A110 V110=true:=by kernel_rfl
def A78:ACode:=(.seq (.reg [Zo 1 (.box 2 (Zt 0)),Zn 2 0] []) (.seq (.reg [Za 3 1 1,Zl 4 3,Zo 5 (.conv .u64 (Zt 4)),Zo 6 (.bin .shl (.c (.i 1)) (Zt 5)),Zd 7 .sub 6 1,Za 8 0 1,Zl 9 8,Zo 10 (.conv .u64 (Zt 9)),Zb 11 .shl 7 10,Zm 2 11] []) .ret))
def V78:List RV:=[.t 2]
theorem m78:mtcF Tryz.prog 78 1 A78 V78=true:=by kernel_rfl
def A111:ACode:=(.seq (.reg [Zo 4 (.box 2 (Zt 0)),Zo 5 (.box 2 (Zt 1)),Zo 6 (.box 2 (Zt 2)),Zo 7 (.box 2 (Zt 3)),Zo 8 (.mv (.c (.b false)))] []) (.seq (.drw [Zo 9 (.load 2 true (Zt 4)),Za 10 1 6,Zl 11 10,Zo 12 (.call 110 [(Zt 9),(Zt 11)]),Zm 13 12,⟨(some 14),.fad 1 (Zt 5),(some (13,true))⟩,⟨(some 15),.load 1 false (Zt 14),(some (13,true))⟩,⟨(some 16),.bin .gtr (Zt 15) (.c (.i 0)),(some (13,true))⟩,Zo 17 (.pick (Zt 13) (Zt 16) (.c (.b false))),Zm 18 17,⟨(some 19),.fad 1 (Zt 7),(some (18,true))⟩,⟨(some 20),.load 1 false (Zt 19),(some (18,true))⟩,⟨(some 21),.bin .gtr (Zt 20) (.c (.i 0)),(some (18,true))⟩,Zo 22 (.pick (Zt 18) (Zt 21) (.c (.b false))),Zm 23 22,⟨(some 24),.load 2 true (Zt 5),(some (23,true))⟩,⟨(some 25),.call 78 [(Zt 24)],(some (23,true))⟩,⟨(some 26),.load 2 true (Zt 7),(some (23,true))⟩,⟨(some 27),.call 78 [(Zt 26)],(some (23,true))⟩,⟨(some 28),.bin .and (Zt 25) (Zt 27),(some (23,true))⟩,⟨(some 29),.bin .neq (Zt 28) (.c (.i 0)),(some (23,true))⟩,Zo 30 (.pick (Zt 23) (Zt 29) (.c (.b false))),Zm 8 30] []) .ret))
def V111:List RV:=[.t 8]
theorem m111:mtcF Tryz.prog 111 4 A111 V111=true:=by kernel_rfl
def A90R1:ACode:=(.cond (Zt 37) (.seq (.reg [Zo 6 (.mv (.c (.b false)))] []) .ret) .skip)
def A90R2:ACode:=(.cond (Zt 53) (.seq (.reg [Zo 6 (.mv (.c (.b true)))] []) .ret) .skip)
def A90:ACode:=(.seq (.reg [Zo 3 (.box 2 (Zt 0)),Zo 4 (.box 10 (Zt 1)),Zo 5 (.box 10 (Zt 2)),Zo 6 (.mv (.c (.b false)))] []) (.seq (.seqr (.reg [Za 7 2 4,Zo 8 (.load 2 true (Zt 7)),Za 9 4 4,Zo 10 (.load 2 true (Zt 9)),Za 11 2 5,Zo 12 (.load 2 true (Zt 11)),Za 13 4 5,Zo 14 (.load 2 true (Zt 13)),Zo 15 (.call 111 [(Zt 8),(Zt 10),(Zt 12),(Zt 14)]),Zm 16 15,⟨(some 17),.fad 2 (Zt 4),(some (16,false))⟩,⟨(some 18),.load 2 true (Zt 17),(some (16,false))⟩,⟨(some 19),.fad 4 (Zt 4),(some (16,false))⟩,⟨(some 20),.load 2 true (Zt 19),(some (16,false))⟩,⟨(some 21),.fad 6 (Zt 5),(some (16,false))⟩,⟨(some 22),.load 2 true (Zt 21),(some (16,false))⟩,⟨(some 23),.fad 8 (Zt 5),(some (16,false))⟩,⟨(some 24),.load 2 true (Zt 23),(some (16,false))⟩,⟨(some 25),.call 111 [(Zt 18),(Zt 20),(Zt 22),(Zt 24)],(some (16,false))⟩,Zo 26 (.pick (Zt 16) (.c (.b true)) (Zt 25)),Zm 27 26,⟨(some 28),.fad 6 (Zt 4),(some (27,false))⟩,⟨(some 29),.load 2 true (Zt 28),(some (27,false))⟩,⟨(some 30),.fad 8 (Zt 4),(some (27,false))⟩,⟨(some 31),.load 2 true (Zt 30),(some (27,false))⟩,⟨(some 32),.fad 2 (Zt 5),(some (27,false))⟩,⟨(some 33),.load 2 true (Zt 32),(some (27,false))⟩,⟨(some 34),.fad 4 (Zt 5),(some (27,false))⟩,⟨(some 35),.load 2 true (Zt 34),(some (27,false))⟩,⟨(some 36),.call 111 [(Zt 29),(Zt 31),(Zt 33),(Zt 35)],(some (27,false))⟩,Zo 37 (.pick (Zt 27) (.c (.b true)) (Zt 36))] []) [3,4,5,37] [3,4,5] A90R1) (.seq (.seqr (.reg [Za 38 1 4,Zl 39 38,Zd 40 .eql 39 2,Zm 41 40,⟨(some 42),.fad 1 (Zt 5),(some (41,true))⟩,⟨(some 43),.load 1 false (Zt 42),(some (41,true))⟩,⟨(some 44),.bin .eql (Zt 43) (.c (.i 2)),(some (41,true))⟩,Zo 45 (.pick (Zt 41) (Zt 44) (.c (.b false))),Zm 46 45,⟨(some 47),.load 2 true (Zt 3),(some (46,true))⟩,⟨(some 48),.fad 2 (Zt 4),(some (46,true))⟩,⟨(some 49),.load 2 true (Zt 48),(some (46,true))⟩,⟨(some 50),.fad 2 (Zt 5),(some (46,true))⟩,⟨(some 51),.load 2 true (Zt 50),(some (46,true))⟩,⟨(some 52),.call 127 [(Zt 47),(Zt 49),(Zt 51)],(some (46,true))⟩,Zo 53 (.pick (Zt 46) (Zt 52) (.c (.b false)))] []) [4,5,53] [4,5] A90R2) (.seq (.reg [Za 54 6 4,Zo 55 (.load 2 true (Zt 54)),Za 56 8 4,Zo 57 (.load 2 true (Zt 56)),Za 58 6 5,Zo 59 (.load 2 true (Zt 58)),Za 60 8 5,Zo 61 (.load 2 true (Zt 60)),Zo 62 (.call 111 [(Zt 55),(Zt 57),(Zt 59),(Zt 61)]),Zo 63 (.un .not (Zt 62)),Zm 6 63] []) .ret))))
def V90:List RV:=[.t 6]
theorem m90:mtcF Tryz.prog 90 3 A90 V90=true:=by kernel_rfl
def A46R1:ACode:=(.cond (Zt 14) (.seq (.reg [Zo 4 (.mv (.c (.b false)))] []) .ret) .skip)
def A46R2:ACode:=(.cond (Zt 45) (.seq (.reg [Zo 4 (.mv (.c (.b false)))] []) .ret) .skip)
def A46L3:ACode:=(.seq (.seq (.reg [Zm 46 6,Zm 47 5,Zb 48 .lss 46 47] []) (.cond (Zt 48) .skip (.exit 2))) (.seq (.blk 3 (.seq (.drw [Zo 51 (.load 2 true (Zt 2)),Zm 52 1,Zm 53 6,Zx 54 10 52 53,Zo 55 (.load 10 true (Zt 54)),Zm 56 1,Zm 57 5,Zx 58 10 56 57,Zo 59 (.load 10 true (Zt 58)),Zo 60 (.call 90 [(Zt 51),(Zt 55),(Zt 59)]),Zo 61 (.un .not (Zt 60))] []) (.cond (Zt 61) (.seq (.reg [Zo 4 (.mv (.c (.b false)))] []) .ret) .skip))) (.reg [Zm 49 6,Zd 50 .add 49 1,Zm 6 50] [])))
def A46R4:ACode:=(.reg [Zm 19 5,Zd 20 .add 19 1,Zm 5 20] [])
def A46L5:ACode:=(.seq (.seq (.reg [Zm 15 5,Zm 16 1,Zk 17 16,Zb 18 .lss 15 17] []) (.cond (Zt 18) .skip (.exit 0))) (.seqr (.blk 1 (.seq (.seqr (.drw [Zo 21 (.load 2 true (Zt 2)),Zm 22 1,Zm 23 5,Zx 24 10 22 23,Zo 25 (.load 10 true (Zt 24)),Zo 26 (.call 89 [(Zt 21),(Zt 25)]),Zo 27 (.un .not (Zt 26)),Zm 28 27,⟨(some 29),.mv (Zt 5),(some (28,false))⟩,⟨(some 30),.bin .gtr (Zt 29) (.c (.i 0)),(some (28,false))⟩,⟨(some 31),.mv (Zt 30),(some (28,false))⟩,⟨(some 32),.mv (Zt 1),(some (31,true))⟩,⟨(some 33),.mv (Zt 5),(some (31,true))⟩,⟨(some 34),.bin .sub (Zt 33) (.c (.i 1)),(some (31,true))⟩,⟨(some 35),.idx 10 (Zt 32) (Zt 34),(some (31,true))⟩,⟨(some 36),.fad 0 (Zt 35),(some (31,true))⟩,⟨(some 37),.load 1 false (Zt 36),(some (31,true))⟩,⟨(some 38),.mv (Zt 1),(some (31,true))⟩,⟨(some 39),.mv (Zt 5),(some (31,true))⟩,⟨(some 40),.idx 10 (Zt 38) (Zt 39),(some (31,true))⟩,⟨(some 41),.fad 0 (Zt 40),(some (31,true))⟩,⟨(some 42),.load 1 false (Zt 41),(some (31,true))⟩,⟨(some 43),.bin .geq (Zt 37) (Zt 42),(some (31,true))⟩,⟨(some 44),.pick (Zt 31) (Zt 43) (.c (.b false)),(some (28,false))⟩,Zo 45 (.pick (Zt 28) (.c (.b true)) (Zt 44))] []) [1,2,5,45] [2] A46R2) (.seq (.reg [Zn 6 0] []) (.blk 2 (.loop A46L3))))) [1,2,5] [2] A46R4))
def A46R6:ACode:=(.seq (.reg [Zo 4 (.mv (.c (.b true)))] []) .ret)
def A46:ACode:=(.seq (.reg [Zo 2 (.box 2 (Zt 0)),Zo 4 (.mv (.c (.b false)))] []) (.seq (.seqr (.reg [Zo 7 (.load 2 true (Zt 2)),Zo 8 (.call 88 [(Zt 7)]),Zo 9 (.un .not (Zt 8)),Zm 10 9,⟨(some 11),.mv (Zt 1),(some (10,false))⟩,⟨(some 12),.len (Zt 11),(some (10,false))⟩,⟨(some 13),.bin .gtr (Zt 12) (.c (.i 8)),(some (10,false))⟩,Zo 14 (.pick (Zt 10) (.c (.b true)) (Zt 13))] []) [1,2,14] [2] A46R1) (.seqa (.reg [Zn 5 0] []) (.blk 0 (.loop A46L5)) [] [] A46R6)))
def V46:List RV:=[.t 4]
theorem m46:mtcF Tryz.prog 46 2 A46 V46=true:=by kernel_rfl
def A118:ACode:=(.seq (.reg [Zo 2 (.mv (.c (.lst .u 1 [])))] [.s 2]) (.seq (.reg [Zo 3 (.bsl 1 false []),Zm 4 0,Zo 5 (.app 1 8 false (Zt 3) (Zt 4)),Zm 2 5] [.s 2]) .ret))
def V118:List RV:=[.t 2]
theorem m118:mtcF Tryz.prog 118 1 A118 V118=true:=by kernel_rfl
def A108:ACode:=(.seq (.reg [Zo 1 (.box 2 (Zt 0)),Zo 2 (.alloc (.agg [.i 0,.lst .u 1 []]))] []) (.seq (.drw [Za 3 0 1,Zl 4 3,Za 5 1 1,Zl 6 5,Zo 7 (.call 118 [(Zt 6)]),Zo 8 (.build [.i 0,.lst .u 1 []] [(0,1,(Zt 4)),(1,1,(Zt 7))]),⟨none,.store 2 (Zt 2) (Zt 8),none⟩] []) .ret))
def V108:List RV:=[.c 2 2 true]
theorem m108:mtcF Tryz.prog 108 1 A108 V108=true:=by kernel_rfl
def A68:ACode:=(.seq (.reg [Zo 1 (.box 10 (Zt 0)),Zo 2 (.alloc (.agg [.i 0,.i 0,.i 0,.lst .u 1 [],.i 0,.i 0,.i 0,.lst .u 1 [],.i 0,.i 0]))] []) (.seq (.reg [Za 3 2 1,Zo 4 (.load 2 true (Zt 3)),Zo 5 (.call 108 [(Zt 4)]),Za 6 2 1,⟨none,.store 2 (Zt 6) (Zt 5),none⟩] []) (.seq (.reg [Za 7 6 1,Zo 8 (.load 2 true (Zt 7)),Zo 9 (.call 108 [(Zt 8)]),Za 10 6 1,⟨none,.store 2 (Zt 10) (Zt 9),none⟩] []) (.seq (.reg [Zo 11 (.load 10 true (Zt 1)),⟨none,.store 10 (Zt 2) (Zt 11),none⟩] []) .ret))))
def V68:List RV:=[.c 2 10 true]
theorem m68:mtcF Tryz.prog 68 1 A68 V68=true:=by kernel_rfl
def A30L1:ACode:=(.seq (.seq (.reg [Zm 16 9,Zm 17 1,Zk 18 17,Zb 19 .lss 16 18] []) (.cond (Zt 19) .skip (.exit 0))) (.seq (.blk 1 (.seq (.reg [Zm 22 1,Zm 23 9,Zx 24 10 22 23,Za 25 0 24,Zl 26 25,Zm 27 2,Zb 28 .neq 26 27] []) (.cond (Zt 28) (.reg [Zm 29 8,Zm 30 1,Zm 31 9,Zx 32 10 30 31,Zo 33 (.load 10 true (Zt 32)),Zo 34 (.call 68 [(Zt 33)]),Zo 35 (.bsl 10 false [(Zt 34)]),Zo 36 (.app 10 112 true (Zt 29) (Zt 35)),Zm 8 36] [.s 8]) .skip))) (.reg [Zm 20 9,Zd 21 .add 20 1,Zm 9 21] [])))
def A30R2:ACode:=(.seq (.seq (.reg [Zm 37 8,Zk 38 37,Zm 39 1,Zk 40 39,Zb 41 .eql 38 40] []) (.cond (Zt 41) (.seq (.reg [Zo 42 (.bsl 10 false []),Zm 6 42,Zo 7 (.mv (.c (.b false)))] [.s 6]) .ret) .skip)) (.seq (.reg [Zm 43 8,Zm 6 43,Zo 7 (.mv (.c (.b true)))] [.s 6]) .ret))
def A30:ACode:=(.seq (.reg [Zo 3 (.box 2 (Zt 0)),Zo 6 (.mv (.c (.lst .u 10 []))),Zo 7 (.mv (.c (.b false)))] [.s 6]) (.seq (.reg [Zo 10 (.bsl 10 false []),Zm 8 10] [.s 8]) (.seq (.seq (.reg [Zo 11 (.load 2 true (Zt 3)),Zm 12 1,Zo 13 (.call 46 [(Zt 11),(Zt 12)]),Zo 14 (.un .not (Zt 13))] []) (.cond (Zt 14) (.seq (.reg [Zm 15 8,Zm 6 15,Zo 7 (.mv (.c (.b false)))] [.s 6]) .ret) .skip)) (.seqa (.reg [Zn 9 0] []) (.blk 0 (.loop A30L1)) [1,8] [8] A30R2))))
def V30:List RV:=[.t 6,.t 7]
theorem m30:mtcF Tryz.prog 30 3 A30 V30=true:=by kernel_rfl
def A70:ACode:=(.seq (.reg [Zo 2 (.box 10 (Zt 0)),Zo 3 (.mv (.c (.b false)))] []) (.seq (.reg [Za 4 0 2,Zl 5 4,Zl 6 1,Zb 7 .eql 5 6,Zm 3 7] []) .ret))
def V70:List RV:=[.t 3]
theorem m70:mtcF Tryz.prog 70 2 A70 V70=true:=by kernel_rfl
def A69L1:ACode:=(.seq (.reg [Zb 9 .lss 8 7] []) (.seq (.cond (Zt 9) .skip (.exit 0)) (.seq (.blk 1 (.seq (.reg [Zm 10 8,Zm 5 10] []) (.seq (.reg [Zm 11 1,Zm 12 0,Zm 13 5,Zx 14 10 12 13,Zo 15 (.load 10 true (Zt 14)),Zo 16 (.dyn (Zt 11) [(Zt 15)])] []) (.cond (Zt 16) (.seq (.reg [Zm 17 5,Zm 4 17] []) .ret) .skip)))) (.reg [Zd 18 .add 8 1,Zm 8 18] []))))
def A69R2:ACode:=(.seq (.reg [Zn 4 (-1)] []) .ret)
def A69:ACode:=(.seq (.reg [Zn 4 0] []) (.seqa (.reg [Zm 6 0,Zk 7 6,Zn 8 0] []) (.blk 0 (.loop A69L1)) [] [] A69R2))
def V69:List RV:=[.t 4]
theorem m69:mtcF Tryz.prog 69 2 A69 V69=true:=by kernel_rfl
def A84:ACode:=(.seq (.reg [Zo 6 (.mv (.c (.b false)))] []) (.seq (.reg [Zm 7 1,Zm 8 0,Zb 9 .leq 7 8,Zm 10 9,⟨(some 11),.mv (Zt 0),(some (10,true))⟩,⟨(some 12),.mv (Zt 2),(some (10,true))⟩,⟨(some 13),.bin .leq (Zt 11) (Zt 12),(some (10,true))⟩,Zo 14 (.pick (Zt 10) (Zt 13) (.c (.b false))),Zm 6 14] []) .ret))
def V84:List RV:=[.t 6]
theorem m84:mtcF Tryz.prog 84 3 A84 V84=true:=by kernel_rfl
def A128R1:ACode:=(.seq (.reg [Zm 31 4,Zo 32 (.un .not (Zt 31)),Zm 33 32,⟨(some 34),.mv (Zt 5),(some (33,true))⟩,⟨(some 35),.un .not (Zt 34),(some (33,true))⟩,⟨(some 36),.mv (Zt 35),(some (33,true))⟩,⟨(some 37),.mv (Zt 3),(some (36,false))⟩,⟨(some 38),.bin .eql (Zt 37) (.c (.i 0)),(some (36,false))⟩,⟨(some 39),.pick (Zt 36) (.c (.b true)) (Zt 38),(some (33,true))⟩,Zo 40 (.pick (Zt 33) (Zt 39) (.c (.b false)))] []) (.cond (Zt 40) (.seq (.reg [Zo 2 (.mv (.c (.b false)))] []) .ret) .skip))
def A128L2:ACode:=(.seq (.reg [Zb 9 .lss 8 7] []) (.seq (.cond (Zt 9) .skip (.exit 0)) (.seq (.blk 1 (.seq (.reg [Zm 10 8,Zm 3 10] []) (.seqr (.drw [Zm 11 0,Zm 12 3,Zo 13 (.stri (Zt 11) (Zt 12)),Zo 14 (.bin .geq (Zt 13) (.c (.sc (.int .u8 97)))),Zm 15 14,⟨(some 16),.mv (Zt 0),(some (15,true))⟩,⟨(some 17),.mv (Zt 3),(some (15,true))⟩,⟨(some 18),.stri (Zt 16) (Zt 17),(some (15,true))⟩,⟨(some 19),.bin .leq (Zt 18) (.c (.sc (.int .u8 122))),(some (15,true))⟩,Zo 20 (.pick (Zt 15) (Zt 19) (.c (.b false))),Zm 21 0,Zm 22 3,Zo 23 (.stri (Zt 21) (Zt 22)),Zo 24 (.bin .geq (Zt 23) (.c (.sc (.int .u8 48)))),Zm 25 24,⟨(some 26),.mv (Zt 0),(some (25,true))⟩,⟨(some 27),.mv (Zt 3),(some (25,true))⟩,⟨(some 28),.stri (Zt 26) (Zt 27),(some (25,true))⟩,⟨(some 29),.bin .leq (Zt 28) (.c (.sc (.int .u8 57))),(some (25,true))⟩,Zo 30 (.pick (Zt 25) (Zt 29) (.c (.b false))),Zm 4 20,Zm 5 30] []) [0,3,4,5,7,8] [] A128R1))) (.reg [Zd 41 .add 8 1,Zm 8 41] []))))
def A128R3:ACode:=(.seq (.reg [Zm 42 0,Zo 43 (.lenz (Zt 42)),Zo 44 (.call 84 [(Zt 43),(.c (.i 1)),(.c (.i 8))]),Zm 2 44] []) .ret)
def A128:ACode:=(.seq (.reg [Zo 2 (.mv (.c (.b false)))] []) (.seqa (.reg [Zm 6 0,Zo 7 (.lenz (Zt 6)),Zn 8 0] []) (.blk 0 (.loop A128L2)) [0] [] A128R3))
def V128:List RV:=[.t 2]
theorem m128:mtcF Tryz.prog 128 1 A128 V128=true:=by kernel_rfl
def A141L1:ACode:=(.seq (.reg [Zb 9 .lss 8 7] []) (.seq (.cond (Zt 9) .skip (.exit 0)) (.seq (.blk 1 (.seq (.reg [Zm 10 8,Zm 5 10] []) (.seq (.reg [Zm 11 1,Zm 12 0,Zm 13 5,Zx 14 1 12 13,Zl 15 14,Zb 16 .eql 11 15] []) (.cond (Zt 16) (.seq (.reg [Zm 17 5,Zm 4 17] []) .ret) .skip)))) (.reg [Zd 18 .add 8 1,Zm 8 18] []))))
def A141R2:ACode:=(.seq (.reg [Zn 4 (-1)] []) .ret)
def A141:ACode:=(.seq (.reg [Zn 4 0] []) (.seqa (.reg [Zm 6 0,Zk 7 6,Zn 8 0] []) (.blk 0 (.loop A141L1)) [] [] A141R2))
def V141:List RV:=[.t 4]
theorem m141:mtcF Tryz.prog 141 2 A141 V141=true:=by kernel_rfl
def A129:ACode:=(.seq (.reg [Zo 4 (.mv (.c (.b false)))] []) (.seq (.reg [Zm 5 0,Zm 6 1,Zo 7 (.call 141 [(Zt 5),(Zt 6)]),Zd 8 .geq 7 0,Zm 4 8] []) .ret))
def V129:List RV:=[.t 4]
theorem m129:mtcF Tryz.prog 129 2 A129 V129=true:=by kernel_rfl
def A149:ACode:=(.seq (.reg [Zo 2 (.mv (.c (.b false)))] []) (.seq (.reg [Zm 3 0,Zm 4 0,Zb 5 .neq 3 4,Zm 2 5] []) .ret))
def V149:List RV:=[.t 2]
theorem m149:mtcF Tryz.prog 149 1 A149 V149=true:=by kernel_rfl
def A143:ACode:=(.seq (.reg [Zn 4 0] []) (.seq (.reg [Zm 7 0,Zo 8 (.call 149 [(Zt 7)]),Zm 5 8] []) (.seq (.reg [Zm 9 1,Zo 10 (.call 149 [(Zt 9)]),Zm 6 10] []) (.seq (.seq (.reg [Zm 11 5] []) (.cond (Zt 11) (.seq (.seq (.reg [Zm 12 6] []) (.cond (Zt 12) (.seq (.reg [Zn 4 0] []) .ret) .skip)) (.seq (.reg [Zn 4 (-1)] []) .ret)) .skip)) (.seq (.seq (.reg [Zm 13 6] []) (.cond (Zt 13) (.seq (.reg [Zn 4 1] []) .ret) .skip)) (.seq (.seq (.reg [Zm 14 0,Zm 15 1,Zb 16 .lss 14 15] []) (.cond (Zt 16) (.seq (.reg [Zn 4 (-1)] []) .ret) .skip)) (.seq (.seq (.reg [Zm 17 0,Zm 18 1,Zb 19 .gtr 17 18] []) (.cond (Zt 19) (.seq (.reg [Zn 4 1] []) .ret) .skip)) (.seq (.reg [Zn 4 0] []) .ret))))))))
def V143:List RV:=[.t 4]
theorem m143:mtcF Tryz.prog 143 2 A143 V143=true:=by kernel_rfl
def A142L1:ACode:=(.seq (.reg [Zb 9 .lss 8 7] []) (.seq (.cond (Zt 9) .skip (.exit 0)) (.seq (.blk 1 (.seq (.reg [Zx 10 1 6 8,Zl 11 10,Zm 5 11] []) (.seq (.reg [Zm 12 5,Zm 13 3,Zb 14 .neq 12 13] []) (.cond (Zt 14) (.seq (.reg [Zm 15 5,Zm 2 15] []) .ret) .skip)))) (.reg [Zd 16 .add 8 1,Zm 8 16] []))))
def A142R2:ACode:=(.seq (.reg [Zm 17 3,Zm 2 17] []) .ret)
def A142:ACode:=(.seq (.reg [Zn 2 0] []) (.seq (.reg [Zn 3 0] []) (.seqa (.reg [Zm 6 0,Zk 7 6,Zn 8 0] []) (.blk 0 (.loop A142L1)) [3] [] A142R2)))
def V142:List RV:=[.t 2]
theorem m142:mtcF Tryz.prog 142 1 A142 V142=true:=by kernel_rfl
def A130:ACode:=(.seq (.reg [Zo 2 (.box 4 (Zt 0)),Zo 3 (.box 4 (Zt 1)),Zn 4 0] []) (.seq (.drw [Za 5 0 2,Zl 6 5,Za 7 0 3,Zl 8 7,Zo 9 (.call 143 [(Zt 6),(Zt 8)]),Za 10 1 2,Zl 11 10,Za 12 1 3,Zl 13 12,Zo 14 (.call 143 [(Zt 11),(Zt 13)]),Za 15 2 2,Zl 16 15,Za 17 2 3,Zl 18 17,Zo 19 (.call 143 [(Zt 16),(Zt 18)]),Za 20 3 2,Zl 21 20,Za 22 3 3,Zl 23 22,Zo 24 (.call 143 [(Zt 21),(Zt 23)]),Zo 25 (.bsl 1 true [(Zt 9),(Zt 14),(Zt 19),(Zt 24)]),Zo 26 (.call 142 [(Zt 25)]),Zm 4 26] []) .ret))
def V130:List RV:=[.t 4]
theorem m130:mtcF Tryz.prog 130 2 A130 V130=true:=by kernel_rfl
def A94L1:ACode:=(.seq (.reg [Zb 11 .lss 10 9] []) (.seq (.cond (Zt 11) .skip (.exit 0)) (.seq (.blk 1 (.seq (.reg [Zm 12 10,Zx 13 1 8 10,Zl 14 13,Zm 3 12,Zm 4 14] []) (.seq (.reg [Zm 15 4,Zo 16 (.call 128 [(Zt 15)]),Zo 17 (.un .not (Zt 16)),Zm 18 17,⟨(some 19),.fad 0 (Zt 1),(some (18,false))⟩,⟨(some 20),.load 1 false (Zt 19),(some (18,false))⟩,⟨(some 21),.mv (Zt 3),(some (18,false))⟩,⟨(some 22),.slc 1 (Zt 20) none (some (Zt 21)) none,(some (18,false))⟩,⟨(some 23),.mv (Zt 4),(some (18,false))⟩,⟨(some 24),.call 129 [(Zt 22),(Zt 23)],(some (18,false))⟩,Zo 25 (.pick (Zt 18) (.c (.b true)) (Zt 24))] []) (.cond (Zt 25) (.seq (.reg [Zo 2 (.mv (.c (.b false)))] []) .ret) .skip)))) (.reg [Zd 26 .add 10 1,Zm 10 26] []))))
def A94L3:ACode:=(.seq (.reg [Zb 31 .lss 30 29] []) (.seq (.cond (Zt 31) .skip (.exit 2)) (.seq (.blk 3 (.seq (.reg [Zm 32 30,Zx 33 4 28 30,Zo 34 (.load 4 true (Zt 33)),Zo 6 (.alloc (.agg [.i 0,.i 0,.i 0,.i 0])),Zm 5 32,⟨none,.store 4 (Zt 6) (Zt 34),none⟩] []) (.seq (.drw [Za 35 0 6,Zl 36 35,Zd 37 .lss 36 0,Zm 38 37,⟨(some 39),.fad 0 (Zt 6),(some (38,false))⟩,⟨(some 40),.load 1 false (Zt 39),(some (38,false))⟩,⟨(some 41),.fad 1 (Zt 6),(some (38,false))⟩,⟨(some 42),.load 1 false (Zt 41),(some (38,false))⟩,⟨(some 43),.bin .geq (Zt 40) (Zt 42),(some (38,false))⟩,Zo 44 (.pick (Zt 38) (.c (.b true)) (Zt 43)),Zm 45 44,⟨(some 46),.fad 1 (Zt 6),(some (45,false))⟩,⟨(some 47),.load 1 false (Zt 46),(some (45,false))⟩,⟨(some 48),.fad 0 (Zt 1),(some (45,false))⟩,⟨(some 49),.load 1 false (Zt 48),(some (45,false))⟩,⟨(some 50),.len (Zt 49),(some (45,false))⟩,⟨(some 51),.bin .geq (Zt 47) (Zt 50),(some (45,false))⟩,Zo 52 (.pick (Zt 45) (.c (.b true)) (Zt 51)),Zm 53 52,⟨(some 54),.fad 2 (Zt 6),(some (53,false))⟩,⟨(some 55),.load 1 false (Zt 54),(some (53,false))⟩,⟨(some 56),.call 84 [(Zt 55),(.c (.i 1)),(.c (.i 5000))],(some (53,false))⟩,⟨(some 57),.un .not (Zt 56),(some (53,false))⟩,Zo 58 (.pick (Zt 53) (.c (.b true)) (Zt 57)),Zm 59 58,⟨(some 60),.fad 3 (Zt 6),(some (59,false))⟩,⟨(some 61),.load 1 false (Zt 60),(some (59,false))⟩,⟨(some 62),.call 84 [(Zt 61),(.c (.i 0)),(.c (.i 9))],(some (59,false))⟩,⟨(some 63),.un .not (Zt 62),(some (59,false))⟩,Zo 64 (.pick (Zt 59) (.c (.b true)) (Zt 63)),Zm 65 64,⟨(some 66),.mv (Zt 5),(some (65,false))⟩,⟨(some 67),.bin .gtr (Zt 66) (.c (.i 0)),(some (65,false))⟩,⟨(some 68),.mv (Zt 67),(some (65,false))⟩,⟨(some 69),.fad 1 (Zt 1),(some (68,true))⟩,⟨(some 70),.load 1 false (Zt 69),(some (68,true))⟩,⟨(some 71),.mv (Zt 5),(some (68,true))⟩,⟨(some 72),.bin .sub (Zt 71) (.c (.i 1)),(some (68,true))⟩,⟨(some 73),.idx 4 (Zt 70) (Zt 72),(some (68,true))⟩,⟨(some 74),.load 4 true (Zt 73),(some (68,true))⟩,⟨(some 75),.load 4 true (Zt 6),(some (68,true))⟩,⟨(some 76),.call 130 [(Zt 74),(Zt 75)],(some (68,true))⟩,⟨(some 77),.bin .gtr (Zt 76) (.c (.i 0)),(some (68,true))⟩,⟨(some 78),.pick (Zt 68) (Zt 77) (.c (.b false)),(some (65,false))⟩,Zo 79 (.pick (Zt 65) (.c (.b true)) (Zt 78))] []) (.cond (Zt 79) (.seq (.reg [Zo 2 (.mv (.c (.b false)))] []) .ret) .skip)))) (.reg [Zd 80 .add 30 1,Zm 30 80] []))))
def A94R4:ACode:=(.seq (.reg [Za 81 0 1,Zl 82 81,Zk 83 82,Zo 84 (.call 84 [(Zt 83),(.c (.i 2)),(.c (.i 8))]),Zm 85 84,⟨(some 86),.fad 1 (Zt 1),(some (85,true))⟩,⟨(some 87),.load 1 false (Zt 86),(some (85,true))⟩,⟨(some 88),.len (Zt 87),(some (85,true))⟩,⟨(some 89),.bin .leq (Zt 88) (.c (.i 14)),(some (85,true))⟩,Zo 90 (.pick (Zt 85) (Zt 89) (.c (.b false))),Zm 2 90] []) .ret)
def A94R2:ACode:=(.seqa (.reg [Za 27 1 1,Zl 28 27,Zk 29 28,Zn 30 0] []) (.blk 2 (.loop A94L3)) [1] [1] A94R4)
def A94:ACode:=(.seq (.reg [Zo 1 (.box 2 (Zt 0)),Zo 2 (.mv (.c (.b false)))] []) (.seqa (.reg [Za 7 0 1,Zl 8 7,Zk 9 8,Zn 10 0] []) (.blk 0 (.loop A94L1)) [1] [1] A94R2))
def V94:List RV:=[.t 2]
theorem m94:mtcF Tryz.prog 94 1 A94 V94=true:=by kernel_rfl
def A144:ACode:=(.seq (.reg [Zo 2 (.box 4 (Zt 0)),Zn 4 0] []) (.seq (.seq (.reg [Zm 5 1] []) (.blk 0 (.seq (.reg [Za 7 0 2,Zl 8 7,Zb 9 .eql 5 8,Zm 6 9] []) (.cond (Zt 6) (.seq (.reg [Za 10 1 2,Zl 11 10,Zm 4 11] []) .ret) (.seq (.reg [Za 13 1 2,Zl 14 13,Zb 15 .eql 5 14,Zm 12 15] []) (.cond (Zt 12) (.seq (.reg [Za 16 0 2,Zl 17 16,Zm 4 17] []) .ret) .skip)))))) (.seq (.reg [Zn 4 (-1)] []) .ret)))
def V144:List RV:=[.t 4]
theorem m144:mtcF Tryz.prog 144 2 A144 V144=true:=by kernel_rfl
def A112L1:ACode:=(.seq (.reg [Zb 9 .lss 8 7] []) (.seq (.cond (Zt 9) .skip (.exit 0)) (.seq (.blk 1 (.seq (.reg [Zm 10 8,Zm 5 10] []) (.seq (.reg [Zm 11 1,Zm 12 0,Zm 13 5,Zx 14 1 12 13,Zl 15 14,Zb 16 .eql 11 15] []) (.cond (Zt 16) (.seq (.reg [Zm 17 5,Zm 4 17] []) .ret) .skip)))) (.reg [Zd 18 .add 8 1,Zm 8 18] []))))
def A112R2:ACode:=(.seq (.reg [Zn 4 (-1)] []) .ret)
def A112:ACode:=(.seq (.reg [Zn 4 0] []) (.seqa (.reg [Zm 6 0,Zk 7 6,Zn 8 0] []) (.blk 0 (.loop A112L1)) [] [] A112R2))
def V112:List RV:=[.t 4]
theorem m112:mtcF Tryz.prog 112 2 A112 V112=true:=by kernel_rfl
def A75:ACode:=(.seq (.reg [Zo 4 (.mv (.c (.b false)))] []) (.seq (.reg [Zm 5 0,Zm 6 1,Zo 7 (.call 112 [(Zt 5),(Zt 6)]),Zd 8 .geq 7 0,Zm 4 8] []) .ret))
def V75:List RV:=[.t 4]
theorem m75:mtcF Tryz.prog 75 2 A75 V75=true:=by kernel_rfl
def A131R1:ACode:=(.cond (Zt 23) (.seq (.reg [Zo 4 (.mv (.c (.lst .u 1 []))),Zo 5 (.mv (.c (.b false)))] [.s 4]) .ret) .skip)
def A131R2:ACode:=(.cond (Zt 56) (.seq (.reg [Zo 4 (.mv (.c (.lst .u 1 []))),Zo 5 (.mv (.c (.b false)))] [.s 4]) .ret) .skip)
def A131L3:ACode:=(.seq (.reg [Zb 33 .lss 32 31] []) (.seq (.cond (Zt 33) .skip (.exit 0)) (.seq (.blk 1 (.seq (.reg [Zx 34 1 30 32,Zl 35 34,Zm 9 35] []) (.seq (.seq (.reg [Zm 36 9,Za 37 1 2,Zl 38 37,Zk 39 38,Zd 40 .sub 39 1,Zo 41 (.call 84 [(Zt 36),(.c (.i 0)),(Zt 40)]),Zo 42 (.un .not (Zt 41))] []) (.cond (Zt 42) (.seq (.reg [Zo 4 (.mv (.c (.lst .u 1 []))),Zo 5 (.mv (.c (.b false)))] [.s 4]) .ret) .skip)) (.seq (.reg [Za 43 1 2,Zl 44 43,Zm 45 9,Zx 46 4 44 45,Zo 47 (.load 4 true (Zt 46)),Zm 48 7,Zo 49 (.call 144 [(Zt 47),(Zt 48)]),Zm 7 49] []) (.seq (.seqr (.reg [Zm 50 7,Zd 51 .lss 50 0,Zm 52 51,⟨(some 53),.mv (Zt 6),(some (52,false))⟩,⟨(some 54),.mv (Zt 7),(some (52,false))⟩,⟨(some 55),.call 75 [(Zt 53),(Zt 54)],(some (52,false))⟩,Zo 56 (.pick (Zt 52) (.c (.b true)) (Zt 55))] []) [2,6,7,30,31,32,56] [2,6] A131R2) (.reg [Zm 57 6,Zm 58 7,Zo 59 (.bsl 1 false [(Zt 58)]),Zo 60 (.app 1 8 true (Zt 57) (Zt 59)),Zm 6 60] [.s 6])))))) (.reg [Zd 61 .add 32 1,Zm 32 61] []))))
def A131R4:ACode:=(.seq (.reg [Zm 62 6,Zm 4 62,Zo 5 (.mv (.c (.b true)))] [.s 4]) .ret)
def A131:ACode:=(.seq (.reg [Zo 2 (.box 2 (Zt 0)),Zo 3 (.box 2 (Zt 1)),Zo 4 (.mv (.c (.lst .u 1 []))),Zo 5 (.mv (.c (.b false)))] [.s 4]) (.seq (.seqr (.reg [Za 10 0 3,Zl 11 10,Za 12 0 2,Zl 13 12,Zk 14 13,Zd 15 .sub 14 1,Zo 16 (.call 84 [(Zt 11),(.c (.i 0)),(Zt 15)]),Zo 17 (.un .not (Zt 16)),Zm 18 17,⟨(some 19),.fad 1 (Zt 3),(some (18,false))⟩,⟨(some 20),.load 1 false (Zt 19),(some (18,false))⟩,⟨(some 21),.len (Zt 20),(some (18,false))⟩,⟨(some 22),.bin .eql (Zt 21) (.c (.i 0)),(some (18,false))⟩,Zo 23 (.pick (Zt 18) (.c (.b true)) (Zt 22))] []) [2,3,23] [2,3] A131R1) (.seq (.drw [Za 24 0 3,Zl 25 24,Zo 26 (.bsl 1 true [(Zt 25)]),Za 27 0 3,Zl 28 27,Zm 6 26,Zm 7 28] [.s 6]) (.seqa (.reg [Za 29 1 3,Zl 30 29,Zk 31 30,Zn 32 0] []) (.blk 0 (.loop A131L3)) [6] [6] A131R4))))
def V131:List RV:=[.t 4,.t 5]
theorem m131:mtcF Tryz.prog 131 2 A131 V131=true:=by kernel_rfl
def A132:ACode:=(.seq (.reg [Zo 1 (.box 2 (Zt 0)),Zo 2 (.mv (.c (.b false)))] []) (.seq (.reg [Za 3 0 1,Zl 4 3,Zd 5 .geq 4 0,Zm 6 5,⟨(some 7),.fad 1 (Zt 1),(some (6,true))⟩,⟨(some 8),.load 1 false (Zt 7),(some (6,true))⟩,⟨(some 9),.call 84 [(Zt 8),(.c (.i 1)),(.c (.i 24))],(some (6,true))⟩,Zo 10 (.pick (Zt 6) (Zt 9) (.c (.b false))),Zm 11 10,⟨(some 12),.fad 0 (Zt 1),(some (11,true))⟩,⟨(some 13),.load 1 false (Zt 12),(some (11,true))⟩,⟨(some 14),.fad 1 (Zt 1),(some (11,true))⟩,⟨(some 15),.load 1 false (Zt 14),(some (11,true))⟩,⟨(some 16),.bin .sub (.c (.i 24)) (Zt 15),(some (11,true))⟩,⟨(some 17),.bin .leq (Zt 13) (Zt 16),(some (11,true))⟩,Zo 18 (.pick (Zt 11) (Zt 17) (.c (.b false))),Zm 2 18] []) .ret))
def V132:List RV:=[.t 2]
theorem m132:mtcF Tryz.prog 132 1 A132 V132=true:=by kernel_rfl
def A66L1:ACode:=(.seq (.reg [Zb 20 .lss 19 18] []) (.seq (.cond (Zt 20) .skip (.exit 2)) (.seq (.blk 3 (.seq (.reg [Zm 21 19,Zx 22 4 17 19,Zo 23 (.load 4 true (Zt 22)),Zo 7 (.alloc (.agg [.i 0,.i 0,.i 0,.i 0])),Zm 6 21,⟨none,.store 4 (Zt 7) (Zt 23),none⟩] []) (.seq (.reg [Za 24 3 7,Zl 25 24,Zm 26 4,Zb 27 .eql 25 26] []) (.cond (Zt 27) (.reg [Zm 28 5,Zm 29 6,Zo 30 (.bsl 1 false [(Zt 29)]),Zo 31 (.app 1 8 true (Zt 28) (Zt 30)),Zm 5 31] [.s 5]) .skip)))) (.reg [Zd 32 .add 19 1,Zm 19 32] []))))
def A66R2:ACode:=(.seq (.reg [Zm 33 5,Zk 34 33,Zd 35 .gtr 34 0] []) (.cond (Zt 35) (.reg [Zm 36 3,Zm 37 5,Zo 38 (.bsl 1 false [(Zt 37)]),Zo 39 (.app 1 24 true (Zt 36) (Zt 38)),Zm 3 39] [.s 3]) .skip))
def A66L3:ACode:=(.seq (.seq (.reg [Zm 11 4,Zd 12 .leq 11 9] []) (.cond (Zt 12) .skip (.exit 0))) (.seq (.blk 1 (.seq (.reg [Zo 15 (.bsl 1 false []),Zm 5 15] [.s 5]) (.seqa (.reg [Za 16 1 1,Zl 17 16,Zk 18 17,Zn 19 0] []) (.blk 2 (.loop A66L1)) [1,3,4,5] [1,3,5] A66R2))) (.reg [Zm 13 4,Zd 14 .add 13 1,Zm 4 14] [])))
def A66L5:ACode:=(.seq (.reg [Zb 44 .lss 43 42] []) (.seq (.cond (Zt 44) .skip (.exit 4)) (.seq (.blk 5 (.seq (.reg [Zm 45 43,Zx 46 4 41 43,Zo 47 (.load 4 true (Zt 46)),Zo 9 (.alloc (.agg [.i 0,.i 0,.i 0,.i 0])),Zm 8 45,⟨none,.store 4 (Zt 9) (Zt 47),none⟩] []) (.seq (.reg [Za 48 3 9,Zl 49 48,Zd 50 .eql 49 0] []) (.cond (Zt 50) (.reg [Zm 51 3,Zm 52 8,Zo 53 (.bsl 1 false [(Zt 52)]),Zo 54 (.bsl 1 false [(Zt 53)]),Zo 55 (.app 1 24 true (Zt 51) (Zt 54)),Zm 3 55] [.s 3]) .skip)))) (.reg [Zd 56 .add 43 1,Zm 43 56] []))))
def A66R6:ACode:=(.seq (.reg [Zm 57 3,Zm 2 57] [.s 2]) .ret)
def A66R4:ACode:=(.seqa (.reg [Za 40 1 1,Zl 41 40,Zk 42 41,Zn 43 0] []) (.blk 4 (.loop A66L5)) [3] [3] A66R6)
def A66:ACode:=(.seq (.reg [Zo 1 (.box 2 (Zt 0)),Zo 2 (.mv (.c (.lst .u 1 [])))] [.s 2]) (.seq (.reg [Zo 10 (.bsl 1 false []),Zm 3 10] [.s 3]) (.seqa (.reg [Zn 4 1] []) (.blk 0 (.loop A66L3)) [1,3] [1,3] A66R4)))
def V66:List RV:=[.t 2]
theorem m66:mtcF Tryz.prog 66 1 A66 V66=true:=by kernel_rfl
def A163:ACode:=(.seq (.reg [Zo 3 (.mv (.c (.b false)))] []) (.seq (.reg [Zm 4 0,Zl 5 1,Zo 6 (.call 75 [(Zt 4),(Zt 5)]),Zm 3 6] []) .ret))
def V163:List RV:=[.t 3]
theorem m163:mtcF Tryz.prog 163 2 A163 V163=true:=by kernel_rfl
def A162L1:ACode:=(.seq (.reg [Zb 9 .lss 8 7] []) (.seq (.cond (Zt 9) .skip (.exit 0)) (.seq (.blk 1 (.seq (.reg [Zm 10 8,Zm 5 10] []) (.seq (.reg [Zm 11 1,Zm 12 0,Zm 13 5,Zx 14 1 12 13,Zl 15 14,Zo 16 (.dyn (Zt 11) [(Zt 15)])] []) (.cond (Zt 16) (.seq (.reg [Zm 17 5,Zm 4 17] []) .ret) .skip)))) (.reg [Zd 18 .add 8 1,Zm 8 18] []))))
def A162R2:ACode:=(.seq (.reg [Zn 4 (-1)] []) .ret)
def A162:ACode:=(.seq (.reg [Zn 4 0] []) (.seqa (.reg [Zm 6 0,Zk 7 6,Zn 8 0] []) (.blk 0 (.loop A162L1)) [] [] A162R2))
def V162:List RV:=[.t 4]
theorem m162:mtcF Tryz.prog 162 2 A162 V162=true:=by kernel_rfl
def A150:ACode:=(.seq (.reg [Zo 2 (.box 2 (Zt 0)),Zo 3 (.box 1 (Zt 1)),Zn 4 0] []) (.seq (.reg [Zo 5 (.load 2 true (Zt 2)),Zo 6 (.call 66 [(Zt 5)]),Zo 7 (.mkf 163 [(Zt 3)]),Zo 8 (.call 162 [(Zt 6),(Zt 7)]),Zm 4 8] []) .ret))
def V150:List RV:=[.t 4]
theorem m150:mtcF Tryz.prog 150 2 A150 V150=true:=by kernel_rfl
def A145L1:ACode:=(.seq (.reg [Zb 12 .lss 11 10] []) (.seq (.cond (Zt 12) .skip (.exit 0)) (.seq (.blk 1 (.seq (.reg [Zx 13 1 9 11,Zl 14 13,Zm 7 14] []) (.reg [Zm 15 5,Zo 16 (.load 2 true (Zt 2)),Zm 17 7,Zo 18 (.call 150 [(Zt 16),(Zt 17)]),Zo 19 (.bsl 1 false [(Zt 18)]),Zo 20 (.app 1 8 true (Zt 15) (Zt 19)),Zm 5 20] [.s 5]))) (.reg [Zd 21 .add 11 1,Zm 11 21] []))))
def A145R2:ACode:=(.seq (.reg [Zm 22 5,Zm 4 22] [.s 4]) .ret)
def A145:ACode:=(.seq (.reg [Zo 2 (.box 2 (Zt 0)),Zo 4 (.mv (.c (.lst .u 1 [])))] [.s 4]) (.seq (.reg [Zo 8 (.bsl 1 false []),Zm 5 8] [.s 5]) (.seqa (.reg [Zm 9 1,Zk 10 9,Zn 11 0] []) (.blk 0 (.loop A145L1)) [5] [5] A145R2)))
def V145:List RV:=[.t 4]
theorem m145:mtcF Tryz.prog 145 2 A145 V145=true:=by kernel_rfl
def A161R3:ACode:=(.seq (.reg [Zm 19 2,Zm 20 0,Zo 21 (.conv .u8 (Zt 20)),Zo 22 (.stri (.c (.z ⟨#[0,1,2,2,3,3,3,3,4,4,4,4,4,4,4,4,5,5,5,5,5,5,5,5,5,5,5,5,5,5,5,5,6,6,6,6,6,6,6,6,6,6,6,6,6,6,6,6,6,6,6,6,6,6,6,6,6,6,6,6,6,6,6,6,7,7,7,7,7,7,7,7,7,7,7,7,7,7,7,7,7,7,7,7,7,7,7,7,7,7,7,7,7,7,7,7,7,7,7,7,7,7,7,7,7,7,7,7,7,7,7,7,7,7,7,7,7,7,7,7,7,7,7,7,7,7,7,7,8,8,8,8,8,8,8,8,8,8,8,8,8,8,8,8,8,8,8,8,8,8,8,8,8,8,8,8,8,8,8,8,8,8,8,8,8,8,8,8,8,8,8,8,8,8,8,8,8,8,8,8,8,8,8,8,8,8,8,8,8,8,8,8,8,8,8,8,8,8,8,8,8,8,8,8,8,8,8,8,8,8,8,8,8,8,8,8,8,8,8,8,8,8,8,8,8,8,8,8,8,8,8,8,8,8,8,8,8,8,8,8,8,8,8,8,8,8,8,8,8,8,8,8,8,8,8,8]⟩)) (Zt 21)),Zo 23 (.conv .i64 (Zt 22)),Zb 24 .add 19 23,Zm 2 24] []) .ret)
def A161R2:ACode:=(.seqr (.seq (.reg [Zm 13 0,Zo 14 (.bin .geq (Zt 13) (.c (.sc (.int .u64 256))))] []) (.cond (Zt 14) (.seq (.reg [Zm 15 0,Zo 16 (.bin .shr (Zt 15) (.c (.sc (.int .u64 8)))),Zm 0 16] []) (.reg [Zm 17 2,Zd 18 .add 17 8,Zm 2 18] [])) .skip)) [0,2] [] A161R3)
def A161R1:ACode:=(.seqr (.seq (.reg [Zm 7 0,Zo 8 (.bin .geq (Zt 7) (.c (.sc (.int .u64 65536))))] []) (.cond (Zt 8) (.seq (.reg [Zm 9 0,Zo 10 (.bin .shr (Zt 9) (.c (.sc (.int .u64 16)))),Zm 0 10] []) (.reg [Zm 11 2,Zd 12 .add 11 16,Zm 2 12] [])) .skip)) [0,2] [] A161R2)
def A161:ACode:=(.seq (.reg [Zn 2 0] []) (.seqr (.seq (.reg [Zm 3 0,Zo 4 (.bin .geq (Zt 3) (.c (.sc (.int .u64 4294967296))))] []) (.cond (Zt 4) (.seq (.reg [Zm 5 0,Zo 6 (.bin .shr (Zt 5) (.c (.sc (.int .u64 32)))),Zm 0 6] []) (.reg [Zn 2 32] [])) .skip)) [0,2] [] A161R1))
def V161:List RV:=[.t 2]
theorem m161:mtcF Tryz.prog 161 1 A161 V161=true:=by kernel_rfl
def A147:ACode:=(.seq (.reg [Zn 2 0] []) (.seq (.cond (.c (.b false)) (.seq (.reg [Zm 3 0,Zo 4 (.conv .u32 (Zt 3)),Zo 5 (.call 160 [(Zt 4)]),Zm 2 5] []) .ret) .skip) (.seq (.reg [Zm 6 0,Zo 7 (.call 161 [(Zt 6)]),Zm 2 7] []) .ret)))
def V147:List RV:=[.t 2]
theorem m147:mtcF Tryz.prog 147 1 A147 V147=true:=by kernel_rfl
def A157:ACode:=(.seq (.reg [Zo 4 (.mv (.c (.b false)))] []) (.seq (.reg [Zm 5 0,Zo 6 (.call 149 [(Zt 5)]),Zm 7 6,⟨(some 8),.mv (Zt 1),(some (7,true))⟩,⟨(some 9),.call 149 [(Zt 8)],(some (7,true))⟩,⟨(some 10),.un .not (Zt 9),(some (7,true))⟩,Zo 11 (.pick (Zt 7) (Zt 10) (.c (.b false))),Zm 12 11,⟨(some 13),.mv (Zt 0),(some (12,false))⟩,⟨(some 14),.mv (Zt 1),(some (12,false))⟩,⟨(some 15),.bin .lss (Zt 13) (Zt 14),(some (12,false))⟩,Zo 16 (.pick (Zt 12) (.c (.b true)) (Zt 15)),Zm 4 16] []) .ret))
def V157:List RV:=[.t 4]
theorem m157:mtcF Tryz.prog 157 2 A157 V157=true:=by kernel_rfl
def A151M1R1:ACode:=(.cond (Zt 30) .skip (.exit 2))
def A151M1L2:ACode:=(.seq (.seqr (.drw [Zm 16 7,Zm 17 1,Zb 18 .gtr 16 17,Zm 19 18,⟨(some 20),.mv (Zt 0),(some (19,true))⟩,⟨(some 21),.mv (Zt 7),(some (19,true))⟩,⟨(some 22),.idx 1 (Zt 20) (Zt 21),(some (19,true))⟩,⟨(some 23),.load 1 false (Zt 22),(some (19,true))⟩,⟨(some 24),.mv (Zt 0),(some (19,true))⟩,⟨(some 25),.mv (Zt 7),(some (19,true))⟩,⟨(some 26),.bin .sub (Zt 25) (.c (.i 1)),(some (19,true))⟩,⟨(some 27),.idx 1 (Zt 24) (Zt 26),(some (19,true))⟩,⟨(some 28),.load 1 false (Zt 27),(some (19,true))⟩,⟨(some 29),.call 157 [(Zt 23),(Zt 28)],(some (19,true))⟩,Zo 30 (.pick (Zt 19) (Zt 29) (.c (.b false)))] []) [0,1,2,6,7,30] [1000000000] A151M1R1) (.seq (.blk 3 (.drw [Zm 33 0,Zm 34 7,Zm 35 0,Zm 36 7,Zd 37 .sub 36 1,Zm 38 0,Zm 39 7,Zd 40 .sub 39 1,Zx 41 1 38 40,Zl 42 41,Zm 43 0,Zm 44 7,Zx 45 1 43 44,Zl 46 45,Zx 47 1 33 34,⟨none,.store 1 (Zt 47) (Zt 42),none⟩,Zx 48 1 35 37,⟨none,.store 1 (Zt 48) (Zt 46),none⟩] [])) (.reg [Zm 31 7,Zd 32 .sub 31 1,Zm 7 32] [])))
def A151M1R3:ACode:=(.reg [Zm 13 6,Zd 14 .add 13 1,Zm 6 14] [])
def A151M1L4:ACode:=(.seq (.seq (.reg [Zm 10 6,Zm 11 2,Zb 12 .lss 10 11] []) (.cond (Zt 12) .skip (.exit 0))) (.seqr (.blk 1 (.seq (.reg [Zm 15 6,Zm 7 15] []) (.blk 2 (.loop A151M1L2)))) [0,1,2,6] [1000000000] A151M1R3))
def A151M1:ACode:=(.seq (.reg [Zm 8 1,Zd 9 .add 8 1,Zm 6 9] []) (.blk 0 (.loop A151M1L4)))
def V151M1:List RV:=[]
theorem m151M1:mtcF Tryz.prog 151 3 A151M1 V151M1=true:=by kernel_rfl
def A146M1L1:ACode:=(.blk 1 (.seq (.reg [Zm 19 2,Zm 20 1,Zb 21 .sub 19 20,Zm 10 21] []) (.seq (.seq (.reg [Zm 22 10,Zd 23 .leq 22 12] []) (.cond (Zt 23) (.seq (.reg [Zm 24 0,Zm 25 1,Zm 26 2,Zo 27 (.callM 151 [(Zt 24),(Zt 25),(Zt 26)] [1000000000])] []) .ret) .skip)) (.seq (.seq (.reg [Zm 28 3,Zd 29 .eql 28 0] []) (.cond (Zt 29) (.seq (.reg [Zm 30 0,Zm 31 1,Zm 32 2,Zo 33 (.call 152 [(Zt 30),(Zt 31),(Zt 32)])] []) .ret) .skip)) (.seq (.seq (.reg [Zm 34 8,Zo 35 (.un .not (Zt 34))] []) (.cond (Zt 35) (.seq (.reg [Zm 36 0,Zm 37 1,Zm 38 2,Zo 39 (.call 153 [(Zt 36),(Zt 37),(Zt 38)])] []) (.reg [Zm 40 3,Zd 41 .sub 40 1,Zm 3 41] [])) .skip)) (.seq (.reg [Zm 43 0,Zm 44 1,Zm 45 2,Zo 46 (.call 154 [(Zt 43),(Zt 44),(Zt 45)]),Zm 42 46,Ze 47 42 0,Ze 48 42 1,Zm 11 47,Zm 12 48] []) (.seq (.seq (.reg [Zm 49 12,Zd 50 .eql 49 2] []) (.cond (Zt 50) (.seq (.reg [Zm 51 0,Zm 52 1,Zm 53 2,Zo 54 (.call 155 [(Zt 51),(Zt 52),(Zt 53)])] []) (.seq (.reg [Zm 55 2,Zd 56 .sub 55 1,Zm 57 11,Zm 58 1,Zb 59 .sub 57 58,Zb 60 .sub 56 59,Zm 11 60] []) (.reg [Zn 12 1] []))) .skip)) (.seq (.seq (.reg [Zm 61 8,Zm 62 61,⟨(some 63),.mv (Zt 9),(some (62,true))⟩,Zo 64 (.pick (Zt 62) (Zt 63) (.c (.b false))),Zm 65 64,⟨(some 66),.mv (Zt 12),(some (65,true))⟩,⟨(some 67),.bin .eql (Zt 66) (.c (.i 1)),(some (65,true))⟩,Zo 68 (.pick (Zt 65) (Zt 67) (.c (.b false)))] []) (.cond (Zt 68) (.seq (.reg [Zm 69 0,Zm 70 1,Zm 71 2,Zo 72 (.call 156 [(Zt 69),(Zt 70),(Zt 71)])] []) (.cond (Zt 72) .ret .skip)) .skip)) (.seq (.seq (.drw [Zm 73 1,Zd 74 .gtr 73 0,Zm 75 74,⟨(some 76),.mv (Zt 0),(some (75,true))⟩,⟨(some 77),.mv (Zt 1),(some (75,true))⟩,⟨(some 78),.bin .sub (Zt 77) (.c (.i 1)),(some (75,true))⟩,⟨(some 79),.idx 1 (Zt 76) (Zt 78),(some (75,true))⟩,⟨(some 80),.load 1 false (Zt 79),(some (75,true))⟩,⟨(some 81),.mv (Zt 0),(some (75,true))⟩,⟨(some 82),.mv (Zt 11),(some (75,true))⟩,⟨(some 83),.idx 1 (Zt 81) (Zt 82),(some (75,true))⟩,⟨(some 84),.load 1 false (Zt 83),(some (75,true))⟩,⟨(some 85),.call 157 [(Zt 80),(Zt 84)],(some (75,true))⟩,⟨(some 86),.un .not (Zt 85),(some (75,true))⟩,Zo 87 (.pick (Zt 75) (Zt 86) (.c (.b false)))] []) (.cond (Zt 87) (.seq (.reg [Zm 88 0,Zm 89 1,Zm 90 2,Zm 91 11,Zo 92 (.call 158 [(Zt 88),(Zt 89),(Zt 90),(Zt 91)]),Zm 13 92] []) (.seq (.reg [Zm 93 13,Zm 1 93] []) (.exit 1))) .skip)) (.seq (.reg [Zm 95 0,Zm 96 1,Zm 97 2,Zm 98 11,Zo 99 (.call 159 [(Zt 95),(Zt 96),(Zt 97),(Zt 98)]),Zm 94 99,Ze 100 94 0,Ze 101 94 1,Zm 14 100,Zm 15 101] []) (.seq (.reg [Zm 102 15,Zm 9 102] []) (.seq (.reg [Zm 103 14,Zm 104 1,Zb 105 .sub 103 104,Zm 106 2,Zm 107 14,Zb 108 .sub 106 107,Zm 16 105,Zm 17 108] []) (.seq (.reg [Zm 109 10,Zd 110 .quo 109 8,Zm 18 110] []) (.seq (.reg [Zm 111 16,Zm 112 17,Zb 113 .lss 111 112] []) (.cond (Zt 113) (.seq (.reg [Zm 114 16,Zm 115 18,Zb 116 .geq 114 115,Zm 8 116] []) (.seq (.reg [Zm 117 0,Zm 118 1,Zm 119 14,Zm 120 3,Zo 121 (.call 146 [(Zt 117),(Zt 118),(Zt 119),(Zt 120)])] []) (.reg [Zm 122 14,Zd 123 .add 122 1,Zm 1 123] []))) (.seq (.reg [Zm 124 17,Zm 125 18,Zb 126 .geq 124 125,Zm 8 126] []) (.seq (.reg [Zm 127 0,Zm 128 14,Zd 129 .add 128 1,Zm 130 2,Zm 131 3,Zo 132 (.call 146 [(Zt 127),(Zt 129),(Zt 130),(Zt 131)])] []) (.reg [Zm 133 14,Zm 2 133] []))))))))))))))))))
def A146M1:ACode:=(.seq (.reg [Zo 8 (.mv (.c (.b true)))] []) (.seq (.reg [Zo 9 (.mv (.c (.b true)))] []) (.blk 0 (.loop A146M1L1))))
def V146M1:List RV:=[]
theorem m146M1:mtcF Tryz.prog 146 4 A146M1 V146M1=true:=by kernel_rfl
def A135M1:ACode:=(.seq (.reg [Zm 3 0,Zk 4 3,Zm 2 4] []) (.reg [Zm 5 0,Zm 6 2,Zm 7 2,Zo 8 (.conv .u64 (Zt 7)),Zo 9 (.call 147 [(Zt 8)]),Zo 10 (.callM 146 [(Zt 5),(.c (.i 0)),(Zt 6),(Zt 9)] [1000000000])] []))
def V135M1:List RV:=[]
theorem m135M1:mtcF Tryz.prog 135 1 A135M1 V135M1=true:=by kernel_rfl
def A136M1L1:ACode:=(.seq (.seq (.reg [Zm 29 5,Zm 30 4,Zk 31 30,Zb 32 .lss 29 31] []) (.cond (Zt 32) .skip (.exit 2))) (.seq (.blk 3 (.seq (.drw [Zm 35 4,Zm 36 5,Zx 37 1 35 36,Zl 38 37,Zm 39 4,Zm 40 5,Zd 41 .sub 40 1,Zx 42 1 39 41,Zl 43 42,Zb 44 .neq 38 43] []) (.cond (Zt 44) (.seq (.reg [Zm 45 0,Zm 46 3,Zm 47 4,Zm 48 5,Zx 49 1 47 48,Zl 50 49,Zx 51 1 45 46,⟨none,.store 1 (Zt 51) (Zt 50),none⟩] []) (.reg [Zm 52 3,Zd 53 .add 52 1,Zm 3 53] [])) .skip))) (.reg [Zm 33 5,Zd 34 .add 33 1,Zm 5 34] [])))
def A136M1R2:ACode:=(.seq (.reg [Zm 54 0,Zm 55 3,Zo 56 (.slc 1 (Zt 54) (some (Zt 55)) none none),⟨none,.clr 1 (.i 0) (Zt 56),none⟩] []) (.seq (.reg [Zm 57 0,Zm 58 3,Zo 59 (.slc 1 (Zt 57) none (some (Zt 58)) none),Zm 2 59] [.s 2]) .ret))
def A136M1L3:ACode:=(.seq (.seq (.reg [Zm 10 3,Zm 11 0,Zk 12 11,Zb 13 .lss 10 12] []) (.cond (Zt 13) .skip (.exit 0))) (.seq (.blk 1 (.seq (.drw [Zm 16 0,Zm 17 3,Zx 18 1 16 17,Zl 19 18,Zm 20 0,Zm 21 3,Zd 22 .sub 21 1,Zx 23 1 20 22,Zl 24 23,Zb 25 .eql 19 24] []) (.cond (Zt 25) (.seq (.reg [Zm 26 0,Zm 27 3,Zo 28 (.slc 1 (Zt 26) (some (Zt 27)) none none),Zm 4 28] [.s 4]) (.seqa (.reg [Zn 5 1] []) (.blk 2 (.loop A136M1L1)) [0,3] [1000000000] A136M1R2)) .skip))) (.reg [Zm 14 3,Zd 15 .add 14 1,Zm 3 15] [])))
def A136M1R4:ACode:=(.seq (.reg [Zm 60 0,Zm 2 60] [.s 2]) .ret)
def A136M1:ACode:=(.seq (.reg [Zo 2 (.mv (.c (.lst .u 1 [])))] [.s 2]) (.seq (.seq (.reg [Zm 6 0,Zk 7 6,Zd 8 .lss 7 2] []) (.cond (Zt 8) (.seq (.reg [Zm 9 0,Zm 2 9] [.s 2]) .ret) .skip)) (.seqa (.reg [Zn 3 1] []) (.blk 0 (.loop A136M1L3)) [0] [1000000000] A136M1R4)))
def V136M1:List RV:=[.t 2]
theorem m136M1:mtcF Tryz.prog 136 1 A136M1 V136M1=true:=by kernel_rfl
def A113L1:ACode:=(.seq (.reg [Zb 12 .lss 11 10] []) (.seq (.cond (Zt 12) .skip (.exit 0)) (.seq (.blk 1 (.seq (.reg [Zx 13 1 9 11,Zl 14 13,Zm 7 14] []) (.seq (.reg [Zm 15 1,Zm 16 7,Zo 17 (.call 75 [(Zt 15),(Zt 16)])] []) (.cond (Zt 17) (.reg [Zm 18 5,Zm 19 7,Zo 20 (.bsl 1 false [(Zt 19)]),Zo 21 (.app 1 8 true (Zt 18) (Zt 20)),Zm 5 21] [.s 5]) .skip)))) (.reg [Zd 22 .add 11 1,Zm 11 22] []))))
def A113R2:ACode:=(.seq (.reg [Zm 23 5,Zo 24 (.callM 135 [(Zt 23)] [5])] []) (.seq (.reg [Zm 25 5,Zo 26 (.callM 136 [(Zt 25)] [5]),Zm 4 26] [.s 4]) .ret))
def A113:ACode:=(.seq (.reg [Zo 4 (.mv (.c (.lst .u 1 [])))] [.s 4]) (.seq (.reg [Zo 8 (.bsl 1 false []),Zm 5 8] [.s 5]) (.seqa (.reg [Zm 9 0,Zk 10 9,Zn 11 0] []) (.blk 0 (.loop A113L1)) [5] [5] A113R2)))
def V113:List RV:=[.t 4]
theorem m113:mtcF Tryz.prog 113 2 A113 V113=true:=by kernel_rfl
def A133:ACode:=(.seq (.reg [Zo 3 (.box 2 (Zt 0)),Zo 6 (.mv (.c (.b false)))] []) (.seq (.drw [Zo 7 (.load 2 true (Zt 3)),Zm 8 1,Zo 9 (.call 145 [(Zt 7),(Zt 8)]),Zo 10 (.load 2 true (Zt 3)),Zm 11 2,Zo 12 (.call 145 [(Zt 10),(Zt 11)]),Zo 13 (.call 113 [(Zt 9),(Zt 12)]),Zk 14 13,Zd 15 .eql 14 0,Zm 6 15] []) .ret))
def V133:List RV:=[.t 6]
theorem m133:mtcF Tryz.prog 133 3 A133 V133=true:=by kernel_rfl
def A95R1:ACode:=(.cond (Zt 35) (.seq (.reg [Zo 4 (.mv (.c (.b false)))] []) .ret) .skip)
def A95R2:ACode:=.ret
def A95:ACode:=(.seq (.reg [Zo 2 (.box 2 (Zt 0)),Zo 3 (.box 10 (Zt 1)),Zo 4 (.mv (.c (.b false)))] []) (.seq (.reg [Zo 10 (.load 2 true (Zt 2)),Za 11 2 3,Zo 12 (.load 2 true (Zt 11)),Zo 13 (.call 131 [(Zt 10),(Zt 12)]),Zm 9 13,Ze 14 9 0,Ze 15 9 1,Zm 5 14,Zm 6 15] [.s 5]) (.seq (.seqr (.reg [Za 16 0 3,Zl 17 16,Zo 18 (.call 84 [(Zt 17),(.c (.i 1)),(.c (.i 999))]),Zo 19 (.un .not (Zt 18)),Zm 20 19,⟨(some 21),.fad 1 (Zt 3),(some (20,false))⟩,⟨(some 22),.load 1 false (Zt 21),(some (20,false))⟩,⟨(some 23),.call 84 [(Zt 22),(.c (.i 0)),(.c (.i 2))],(some (20,false))⟩,⟨(some 24),.un .not (Zt 23),(some (20,false))⟩,Zo 25 (.pick (Zt 20) (.c (.b true)) (Zt 24)),Zm 26 25,⟨(some 27),.mv (Zt 6),(some (26,false))⟩,⟨(some 28),.un .not (Zt 27),(some (26,false))⟩,Zo 29 (.pick (Zt 26) (.c (.b true)) (Zt 28)),Zm 30 29,⟨(some 31),.fad 4 (Zt 3),(some (30,false))⟩,⟨(some 32),.load 2 true (Zt 31),(some (30,false))⟩,⟨(some 33),.call 132 [(Zt 32)],(some (30,false))⟩,⟨(some 34),.un .not (Zt 33),(some (30,false))⟩,Zo 35 (.pick (Zt 30) (.c (.b true)) (Zt 34))] []) [2,3,5,35] [2,3,5] A95R1) (.seq (.seq (.reg [Za 36 1 3,Zl 37 36,Zd 38 .eql 37 0] []) (.cond (Zt 38) (.seqr (.reg [Za 39 6 3,Za 40 0 39,Zl 41 40,Zd 42 .eql 41 0,Zm 43 42,⟨(some 44),.fad 6 (Zt 3),(some (43,true))⟩,⟨(some 45),.fad 1 (Zt 44),(some (43,true))⟩,⟨(some 46),.load 1 false (Zt 45),(some (43,true))⟩,⟨(some 47),.len (Zt 46),(some (43,true))⟩,⟨(some 48),.bin .eql (Zt 47) (.c (.i 0)),(some (43,true))⟩,Zo 49 (.pick (Zt 43) (Zt 48) (.c (.b false))),Zm 50 49,⟨(some 51),.fad 8 (Zt 3),(some (50,true))⟩,⟨(some 52),.load 2 true (Zt 51),(some (50,true))⟩,⟨(some 53),.build [.i 0,.i 0] [],(some (50,true))⟩,⟨(some 54),.aeq false (Zt 52) (Zt 53),(some (50,true))⟩,Zo 55 (.pick (Zt 50) (Zt 54) (.c (.b false))),Zm 4 55] []) [4] [] A95R2) .skip)) (.seq (.reg [Zo 57 (.load 2 true (Zt 2)),Za 58 6 3,Zo 59 (.load 2 true (Zt 58)),Zo 60 (.call 131 [(Zt 57),(Zt 59)]),Zm 56 60,Ze 61 56 0,Ze 62 56 1,Zm 7 61,Zm 8 62] [.s 7]) (.seq (.drw [Zm 63 8,Zm 64 63,⟨(some 65),.fad 8 (Zt 3),(some (64,true))⟩,⟨(some 66),.load 2 true (Zt 65),(some (64,true))⟩,⟨(some 67),.call 132 [(Zt 66)],(some (64,true))⟩,Zo 68 (.pick (Zt 64) (Zt 67) (.c (.b false))),Zm 69 68,⟨(some 70),.mv (Zt 7),(some (69,true))⟩,⟨(some 71),.idx 1 (Zt 70) (.c (.i 0)),(some (69,true))⟩,⟨(some 72),.load 1 false (Zt 71),(some (69,true))⟩,⟨(some 73),.mv (Zt 5),(some (69,true))⟩,⟨(some 74),.idx 1 (Zt 73) (.c (.i 0)),(some (69,true))⟩,⟨(some 75),.load 1 false (Zt 74),(some (69,true))⟩,⟨(some 76),.bin .eql (Zt 72) (Zt 75),(some (69,true))⟩,Zo 77 (.pick (Zt 69) (Zt 76) (.c (.b false))),Zm 78 77,⟨(some 79),.mv (Zt 7),(some (78,true))⟩,⟨(some 80),.mv (Zt 7),(some (78,true))⟩,⟨(some 81),.len (Zt 80),(some (78,true))⟩,⟨(some 82),.bin .sub (Zt 81) (.c (.i 1)),(some (78,true))⟩,⟨(some 83),.idx 1 (Zt 79) (Zt 82),(some (78,true))⟩,⟨(some 84),.load 1 false (Zt 83),(some (78,true))⟩,⟨(some 85),.mv (Zt 5),(some (78,true))⟩,⟨(some 86),.mv (Zt 5),(some (78,true))⟩,⟨(some 87),.len (Zt 86),(some (78,true))⟩,⟨(some 88),.bin .sub (Zt 87) (.c (.i 1)),(some (78,true))⟩,⟨(some 89),.idx 1 (Zt 85) (Zt 88),(some (78,true))⟩,⟨(some 90),.load 1 false (Zt 89),(some (78,true))⟩,⟨(some 91),.bin .eql (Zt 84) (Zt 90),(some (78,true))⟩,Zo 92 (.pick (Zt 78) (Zt 91) (.c (.b false))),Zm 93 92,⟨(some 94),.load 2 true (Zt 2),(some (93,true))⟩,⟨(some 95),.fad 2 (Zt 3),(some (93,true))⟩,⟨(some 96),.fad 1 (Zt 95),(some (93,true))⟩,⟨(some 97),.load 1 false (Zt 96),(some (93,true))⟩,⟨(some 98),.fad 6 (Zt 3),(some (93,true))⟩,⟨(some 99),.fad 1 (Zt 98),(some (93,true))⟩,⟨(some 100),.load 1 false (Zt 99),(some (93,true))⟩,⟨(some 101),.call 133 [(Zt 94),(Zt 97),(Zt 100)],(some (93,true))⟩,Zo 102 (.pick (Zt 93) (Zt 101) (.c (.b false))),Zm 4 102] []) .ret))))))
def V95:List RV:=[.t 4]
theorem m95:mtcF Tryz.prog 95 2 A95 V95=true:=by kernel_rfl
def A81:ACode:=(.seq (.reg [Zo 1 (.box 2 (Zt 0)),Zn 2 0] []) (.seq (.drw [Za 3 1 1,Zl 4 3,Zo 5 (.bin .shl (.c (.i 1)) (Zt 4)),Zd 6 .sub 5 1,Za 7 0 1,Zl 8 7,Zb 9 .shl 6 8,Zm 2 9] []) .ret))
def V81:List RV:=[.t 2]
theorem m81:mtcF Tryz.prog 81 1 A81 V81=true:=by kernel_rfl
def A137:ACode:=(.seq (.reg [Zo 2 (.box 5 (Zt 0)),Zo 3 (.box 5 (Zt 1)),Zo 4 (.mv (.c (.b false)))] []) (.seq (.drw [Za 5 3 2,Zo 6 (.load 2 true (Zt 5)),Zo 7 (.call 81 [(Zt 6)]),Za 8 3 3,Zo 9 (.load 2 true (Zt 8)),Zo 10 (.call 81 [(Zt 9)]),Zb 11 .and 7 10,Zd 12 .neq 11 0,Zm 13 12,⟨(some 14),.fad 1 (Zt 2),(some (13,true))⟩,⟨(some 15),.fad 1 (Zt 14),(some (13,true))⟩,⟨(some 16),.load 1 false (Zt 15),(some (13,true))⟩,⟨(some 17),.fad 1 (Zt 3),(some (13,true))⟩,⟨(some 18),.fad 1 (Zt 17),(some (13,true))⟩,⟨(some 19),.load 1 false (Zt 18),(some (13,true))⟩,⟨(some 20),.call 113 [(Zt 16),(Zt 19)],(some (13,true))⟩,⟨(some 21),.len (Zt 20),(some (13,true))⟩,⟨(some 22),.bin .gtr (Zt 21) (.c (.i 0)),(some (13,true))⟩,Zo 23 (.pick (Zt 13) (Zt 22) (.c (.b false))),Zm 4 23] []) .ret))
def V137:List RV:=[.t 4]
theorem m137:mtcF Tryz.prog 137 2 A137 V137=true:=by kernel_rfl
def A115:ACode:=(.seq (.reg [Zo 4 (.box 2 (Zt 0)),Zo 5 (.box 2 (Zt 1)),Zo 6 (.box 2 (Zt 2)),Zo 7 (.box 2 (Zt 3)),Zo 8 (.mv (.c (.b false)))] []) (.seq (.reg [Zo 9 (.load 2 true (Zt 4)),Zo 10 (.load 2 true (Zt 5)),Zo 11 (.build [.i 0,.i 0,.lst .u 1 [],.i 0,.i 0] [(1,2,(Zt 9)),(3,2,(Zt 10))]),Zo 12 (.load 2 true (Zt 6)),Zo 13 (.load 2 true (Zt 7)),Zo 14 (.build [.i 0,.i 0,.lst .u 1 [],.i 0,.i 0] [(1,2,(Zt 12)),(3,2,(Zt 13))]),Zo 15 (.call 137 [(Zt 11),(Zt 14)]),Zm 8 15] []) .ret))
def V115:List RV:=[.t 8]
theorem m115:mtcF Tryz.prog 115 4 A115 V115=true:=by kernel_rfl
def A98R1:ACode:=(.cond (Zt 38) (.seq (.reg [Zo 6 (.mv (.c (.b false)))] []) .ret) .skip)
def A98R2:ACode:=(.seq (.reg [Zm 57 7,Zm 58 57,⟨(some 59),.fad 6 (Zt 4),(some (58,false))⟩,⟨(some 60),.load 2 true (Zt 59),(some (58,false))⟩,⟨(some 61),.fad 8 (Zt 4),(some (58,false))⟩,⟨(some 62),.load 2 true (Zt 61),(some (58,false))⟩,⟨(some 63),.fad 6 (Zt 5),(some (58,false))⟩,⟨(some 64),.load 2 true (Zt 63),(some (58,false))⟩,⟨(some 65),.fad 8 (Zt 5),(some (58,false))⟩,⟨(some 66),.load 2 true (Zt 65),(some (58,false))⟩,⟨(some 67),.call 115 [(Zt 60),(Zt 62),(Zt 64),(Zt 66)],(some (58,false))⟩,⟨(some 68),.un .not (Zt 67),(some (58,false))⟩,Zo 69 (.pick (Zt 58) (.c (.b true)) (Zt 68)),Zm 6 69] []) .ret)
def A98:ACode:=(.seq (.reg [Zo 3 (.box 2 (Zt 0)),Zo 4 (.box 10 (Zt 1)),Zo 5 (.box 10 (Zt 2)),Zo 6 (.mv (.c (.b false)))] []) (.seq (.seqr (.reg [Za 8 2 4,Zo 9 (.load 2 true (Zt 8)),Za 10 4 4,Zo 11 (.load 2 true (Zt 10)),Za 12 2 5,Zo 13 (.load 2 true (Zt 12)),Za 14 4 5,Zo 15 (.load 2 true (Zt 14)),Zo 16 (.call 115 [(Zt 9),(Zt 11),(Zt 13),(Zt 15)]),Zm 17 16,⟨(some 18),.fad 2 (Zt 4),(some (17,false))⟩,⟨(some 19),.load 2 true (Zt 18),(some (17,false))⟩,⟨(some 20),.fad 4 (Zt 4),(some (17,false))⟩,⟨(some 21),.load 2 true (Zt 20),(some (17,false))⟩,⟨(some 22),.fad 6 (Zt 5),(some (17,false))⟩,⟨(some 23),.load 2 true (Zt 22),(some (17,false))⟩,⟨(some 24),.fad 8 (Zt 5),(some (17,false))⟩,⟨(some 25),.load 2 true (Zt 24),(some (17,false))⟩,⟨(some 26),.call 115 [(Zt 19),(Zt 21),(Zt 23),(Zt 25)],(some (17,false))⟩,Zo 27 (.pick (Zt 17) (.c (.b true)) (Zt 26)),Zm 28 27,⟨(some 29),.fad 6 (Zt 4),(some (28,false))⟩,⟨(some 30),.load 2 true (Zt 29),(some (28,false))⟩,⟨(some 31),.fad 8 (Zt 4),(some (28,false))⟩,⟨(some 32),.load 2 true (Zt 31),(some (28,false))⟩,⟨(some 33),.fad 2 (Zt 5),(some (28,false))⟩,⟨(some 34),.load 2 true (Zt 33),(some (28,false))⟩,⟨(some 35),.fad 4 (Zt 5),(some (28,false))⟩,⟨(some 36),.load 2 true (Zt 35),(some (28,false))⟩,⟨(some 37),.call 115 [(Zt 30),(Zt 32),(Zt 34),(Zt 36)],(some (28,false))⟩,Zo 38 (.pick (Zt 28) (.c (.b true)) (Zt 37))] []) [3,4,5,38] [3,4,5] A98R1) (.seqr (.reg [Za 39 1 4,Zl 40 39,Zd 41 .eql 40 2,Zm 42 41,⟨(some 43),.fad 1 (Zt 5),(some (42,true))⟩,⟨(some 44),.load 1 false (Zt 43),(some (42,true))⟩,⟨(some 45),.bin .eql (Zt 44) (.c (.i 2)),(some (42,true))⟩,Zo 46 (.pick (Zt 42) (Zt 45) (.c (.b false))),Zm 47 46,⟨(some 48),.load 2 true (Zt 3),(some (47,true))⟩,⟨(some 49),.fad 2 (Zt 4),(some (47,true))⟩,⟨(some 50),.fad 1 (Zt 49),(some (47,true))⟩,⟨(some 51),.load 1 false (Zt 50),(some (47,true))⟩,⟨(some 52),.fad 2 (Zt 5),(some (47,true))⟩,⟨(some 53),.fad 1 (Zt 52),(some (47,true))⟩,⟨(some 54),.load 1 false (Zt 53),(some (47,true))⟩,⟨(some 55),.call 133 [(Zt 48),(Zt 51),(Zt 54)],(some (47,true))⟩,Zo 56 (.pick (Zt 47) (Zt 55) (.c (.b false))),Zm 7 56] []) [4,5,7] [4,5] A98R2)))
def V98:List RV:=[.t 6]
theorem m98:mtcF Tryz.prog 98 3 A98 V98=true:=by kernel_rfl
def A97:ACode:=(.seq (.reg [Zo 3 (.box 10 (Zt 0)),Zo 4 (.mv (.c (.b false)))] []) (.seq (.reg [Zo 5 (.load 2 true (Zt 1)),Zo 6 (.load 10 true (Zt 3)),Zo 7 (.load 10 true (Zt 2)),Zo 8 (.call 98 [(Zt 5),(Zt 6),(Zt 7)]),Zo 9 (.un .not (Zt 8)),Zm 4 9] []) .ret))
def V97:List RV:=[.t 4]
theorem m97:mtcF Tryz.prog 97 3 A97 V97=true:=by kernel_rfl
def A96:ACode:=(.seq (.reg [Zo 4 (.mv (.c (.b false)))] []) (.seq (.reg [Zm 5 0,Zm 6 1,Zo 7 (.call 69 [(Zt 5),(Zt 6)]),Zd 8 .geq 7 0,Zm 4 8] []) .ret))
def V96:List RV:=[.t 4]
theorem m96:mtcF Tryz.prog 96 2 A96 V96=true:=by kernel_rfl
def A51R1:ACode:=(.cond (Zt 14) (.seq (.reg [Zo 4 (.mv (.c (.b false)))] []) .ret) .skip)
def A51L2:ACode:=(.seq (.reg [Zb 18 .lss 17 16] []) (.seq (.cond (Zt 18) .skip (.exit 0)) (.seq (.blk 1 (.seq (.reg [Zm 19 17,Zx 20 10 15 17,Zo 21 (.load 10 true (Zt 20)),Zo 6 (.alloc (.agg [.i 0,.i 0,.i 0,.lst .u 1 [],.i 0,.i 0,.i 0,.lst .u 1 [],.i 0,.i 0])),Zm 5 19,⟨none,.store 10 (Zt 6) (Zt 21),none⟩] []) (.seq (.drw [Zo 22 (.load 2 true (Zt 2)),Zo 23 (.load 10 true (Zt 6)),Zo 24 (.call 95 [(Zt 22),(Zt 23)]),Zo 25 (.un .not (Zt 24)),Zm 26 25,⟨(some 27),.mv (Zt 5),(some (26,false))⟩,⟨(some 28),.bin .gtr (Zt 27) (.c (.i 0)),(some (26,false))⟩,⟨(some 29),.mv (Zt 28),(some (26,false))⟩,⟨(some 30),.mv (Zt 1),(some (29,true))⟩,⟨(some 31),.mv (Zt 5),(some (29,true))⟩,⟨(some 32),.bin .sub (Zt 31) (.c (.i 1)),(some (29,true))⟩,⟨(some 33),.idx 10 (Zt 30) (Zt 32),(some (29,true))⟩,⟨(some 34),.fad 0 (Zt 33),(some (29,true))⟩,⟨(some 35),.load 1 false (Zt 34),(some (29,true))⟩,⟨(some 36),.fad 0 (Zt 6),(some (29,true))⟩,⟨(some 37),.load 1 false (Zt 36),(some (29,true))⟩,⟨(some 38),.bin .geq (Zt 35) (Zt 37),(some (29,true))⟩,⟨(some 39),.pick (Zt 29) (Zt 38) (.c (.b false)),(some (26,false))⟩,Zo 40 (.pick (Zt 26) (.c (.b true)) (Zt 39)),Zm 41 40,⟨(some 42),.mv (Zt 1),(some (41,false))⟩,⟨(some 43),.mv (Zt 5),(some (41,false))⟩,⟨(some 44),.slc 10 (Zt 42) none (some (Zt 43)) none,(some (41,false))⟩,⟨(some 45),.mkf 97 [(Zt 2),(Zt 6)],(some (41,false))⟩,⟨(some 46),.call 96 [(Zt 44),(Zt 45)],(some (41,false))⟩,Zo 47 (.pick (Zt 41) (.c (.b true)) (Zt 46))] []) (.cond (Zt 47) (.seq (.reg [Zo 4 (.mv (.c (.b false)))] []) .ret) .skip)))) (.reg [Zd 48 .add 17 1,Zm 17 48] []))))
def A51R3:ACode:=(.seq (.reg [Zo 4 (.mv (.c (.b true)))] []) .ret)
def A51:ACode:=(.seq (.reg [Zo 2 (.box 2 (Zt 0)),Zo 4 (.mv (.c (.b false)))] []) (.seq (.seqr (.reg [Zo 7 (.load 2 true (Zt 2)),Zo 8 (.call 94 [(Zt 7)]),Zo 9 (.un .not (Zt 8)),Zm 10 9,⟨(some 11),.mv (Zt 1),(some (10,false))⟩,⟨(some 12),.len (Zt 11),(some (10,false))⟩,⟨(some 13),.bin .gtr (Zt 12) (.c (.i 8)),(some (10,false))⟩,Zo 14 (.pick (Zt 10) (.c (.b true)) (Zt 13))] []) [1,2,14] [2] A51R1) (.seqa (.reg [Zm 15 1,Zk 16 15,Zn 17 0] []) (.blk 0 (.loop A51L2)) [] [] A51R3)))
def V51:List RV:=[.t 4]
theorem m51:mtcF Tryz.prog 51 2 A51 V51=true:=by kernel_rfl
def A109:ACode:=(.seq (.reg [Zo 1 (.box 2 (Zt 0)),Zo 2 (.alloc (.agg [.i 0,.lst .u 1 []]))] []) (.seq (.drw [Za 3 0 1,Zl 4 3,Zo 5 (.bsl 1 true []),Za 6 1 1,Zl 7 6,Zo 8 (.app 1 8 false (Zt 5) (Zt 7)),Zo 9 (.build [.i 0,.lst .u 1 []] [(0,1,(Zt 4)),(1,1,(Zt 8))]),⟨none,.store 2 (Zt 2) (Zt 9),none⟩] []) .ret))
def V109:List RV:=[.c 2 2 true]
theorem m109:mtcF Tryz.prog 109 1 A109 V109=true:=by kernel_rfl
def A72L1:ACode:=(.seq (.reg [Zb 10 .lss 9 8] []) (.seq (.cond (Zt 10) .skip (.exit 0)) (.seq (.blk 1 (.seq (.reg [Zx 11 10 7 9,Zo 12 (.load 10 true (Zt 11)),Zo 5 (.alloc (.agg [.i 0,.i 0,.i 0,.lst .u 1 [],.i 0,.i 0,.i 0,.lst .u 1 [],.i 0,.i 0])),⟨none,.store 10 (Zt 5) (Zt 12),none⟩] []) (.seq (.drw [Za 13 2 5,Zo 14 (.load 2 true (Zt 13)),Zo 15 (.call 109 [(Zt 14)]),Za 16 6 5,Zo 17 (.load 2 true (Zt 16)),Zo 18 (.call 109 [(Zt 17)]),Za 19 2 5,⟨none,.store 2 (Zt 19) (Zt 15),none⟩,Za 20 6 5,⟨none,.store 2 (Zt 20) (Zt 18),none⟩] []) (.reg [Zm 21 3,Zo 22 (.load 10 true (Zt 5)),Zo 23 (.bsl 10 false [(Zt 22)]),Zo 24 (.app 10 112 true (Zt 21) (Zt 23)),Zm 3 24] [.s 3])))) (.reg [Zd 25 .add 9 1,Zm 9 25] []))))
def A72R2:ACode:=(.seq (.reg [Zm 26 3,Zm 2 26] [.s 2]) .ret)
def A72:ACode:=(.seq (.reg [Zo 2 (.mv (.c (.lst .u 10 [])))] [.s 2]) (.seq (.reg [Zo 6 (.bsl 10 false []),Zm 3 6] [.s 3]) (.seqa (.reg [Zm 7 0,Zk 8 7,Zn 9 0] []) (.blk 0 (.loop A72L1)) [3] [3] A72R2)))
def V72:List RV:=[.t 2]
theorem m72:mtcF Tryz.prog 72 1 A72 V72=true:=by kernel_rfl
def A71M1:ACode:=(.seq (.reg [Zo 6 (.mv (.c (.lst .u 10 [])))] [.s 6]) (.seq (.reg [Zm 8 0,Zm 9 1,Zm 10 2,Zm 11 0,Zk 12 11,Zo 13 (.slm 10 (Zt 8) (Zt 9) (Zt 10) (Zt 12))] []) (.seq (.seq (.reg [Zm 14 1,Zm 15 2,Zb 16 .eql 14 15] []) (.cond (Zt 16) (.seq (.reg [Zm 17 0,Zm 6 17] [.s 6]) .ret) .skip)) (.seq (.reg [Zm 18 0,Zk 19 18,Zm 7 19] []) (.seq (.drw [Zm 20 0,Zm 21 1,Zo 22 (.slx 10 (Zt 20) none (some (Zt 21))),Zm 23 0,Zm 24 2,Zo 25 (.slx 10 (Zt 23) (some (Zt 24)) none),Zo 26 (.apq 10 (Zt 22) (Zt 25)),Zm 0 26] [.s 0]) (.seq (.reg [Zm 27 0,Zm 28 0,Zk 29 28,Zm 30 7,Zo 31 (.slx 10 (Zt 27) (some (Zt 29)) (some (Zt 30))),⟨none,.clr 10 (.agg [.i 0,.i 0,.i 0,.sc (.slice none 0 0),.i 0,.i 0,.i 0,.sc (.slice none 0 0),.i 0,.i 0]) (Zt 31),none⟩] []) (.seq (.reg [Zm 32 0,Zm 6 32] [.s 6]) .ret)))))))
def V71M1:List RV:=[.t 6]
theorem m71M1:mtcF Tryz.prog 71 3 A71M1 V71M1=true:=by kernel_rfl
def A31R1:ACode:=(.cond (Zt 19) (.seq (.reg [Zo 6 (.mv (.c (.lst .u 10 []))),Zo 7 (.mv (.c (.b false)))] [.s 6]) .ret) .skip)
def A31:ACode:=(.seq (.reg [Zo 3 (.box 2 (Zt 0)),Zo 5 (.box 1 (Zt 2)),Zo 6 (.mv (.c (.lst .u 10 []))),Zo 7 (.mv (.c (.b false)))] [.s 6]) (.seq (.reg [Zm 9 1,Zo 10 (.mkf 70 [(Zt 5)]),Zo 11 (.call 69 [(Zt 9),(Zt 10)]),Zm 8 11] []) (.seq (.seqr (.reg [Zo 12 (.load 2 true (Zt 3)),Zm 13 1,Zo 14 (.call 51 [(Zt 12),(Zt 13)]),Zo 15 (.un .not (Zt 14)),Zm 16 15,⟨(some 17),.mv (Zt 8),(some (16,false))⟩,⟨(some 18),.bin .lss (Zt 17) (.c (.i 0)),(some (16,false))⟩,Zo 19 (.pick (Zt 16) (.c (.b true)) (Zt 18))] []) [1,8,19] [] A31R1) (.seq (.reg [Zm 20 1,Zo 21 (.call 72 [(Zt 20)]),Zm 22 8,Zm 23 8,Zd 24 .add 23 1,Zo 25 (.callM 71 [(Zt 21),(Zt 22),(Zt 24)] [21]),Zm 6 25,Zo 7 (.mv (.c (.b true)))] [.s 6]) .ret))))
def V31:List RV:=[.t 6,.t 7]
theorem m31:mtcF Tryz.prog 31 3 A31 V31=true:=by kernel_rfl
def A18L1:ACode:=(.seq (.seq (.reg [Zm 11 5,Zm 12 0,Zk 13 12,Zb 14 .lss 11 13] []) (.cond (Zt 14) .skip (.exit 0))) (.seq (.blk 1 (.seq (.drw [Zm 17 0,Zm 18 5,Zx 19 1 17 18,Zl 20 19,Zm 21 1,Zm 22 5,Zx 23 1 21 22,Zl 24 23,Zb 25 .neq 20 24] []) (.cond (Zt 25) (.seq (.reg [Zo 4 (.mv (.c (.b false)))] []) .ret) .skip))) (.reg [Zm 15 5,Zd 16 .add 15 1,Zm 5 16] [])))
def A18R2:ACode:=(.seq (.reg [Zo 4 (.mv (.c (.b true)))] []) .ret)
def A18:ACode:=(.seq (.reg [Zo 4 (.mv (.c (.b false)))] []) (.seq (.seq (.reg [Zm 6 0,Zk 7 6,Zm 8 1,Zk 9 8,Zb 10 .neq 7 9] []) (.cond (Zt 10) (.seq (.reg [Zo 4 (.mv (.c (.b false)))] []) .ret) .skip)) (.seqa (.reg [Zn 5 0] []) (.blk 0 (.loop A18L1)) [] [] A18R2)))
def V18:List RV:=[.t 4]
theorem m18:mtcF Tryz.prog 18 2 A18 V18=true:=by kernel_rfl
def A100:ACode:=(.seq (.reg [Zo 2 (.box 2 (Zt 0)),Zo 3 (.box 2 (Zt 1)),Zo 4 (.mv (.c (.b false)))] []) (.seq (.seq (.reg [Za 5 0 2,Zl 6 5,Za 7 0 3,Zl 8 7,Zb 9 .neq 6 8] []) (.cond (Zt 9) (.seq (.reg [Zo 4 (.mv (.c (.b false)))] []) .ret) .skip)) (.seq (.seq (.reg [Za 10 1 2,Zl 11 10,Za 12 1 3,Zl 13 12,Zo 14 (.call 18 [(Zt 11),(Zt 13)]),Zo 15 (.un .not (Zt 14))] []) (.cond (Zt 15) (.seq (.reg [Zo 4 (.mv (.c (.b false)))] []) .ret) .skip)) (.seq (.reg [Zo 4 (.mv (.c (.b true)))] []) .ret))))
def V100:List RV:=[.t 4]
theorem m100:mtcF Tryz.prog 100 2 A100 V100=true:=by kernel_rfl
def A101:ACode:=(.seq (.reg [Zo 2 (.box 2 (Zt 0)),Zo 3 (.box 2 (Zt 1)),Zo 4 (.mv (.c (.b false)))] []) (.seq (.seq (.reg [Za 5 0 2,Zl 6 5,Za 7 0 3,Zl 8 7,Zb 9 .neq 6 8] []) (.cond (Zt 9) (.seq (.reg [Zo 4 (.mv (.c (.b false)))] []) .ret) .skip)) (.seq (.seq (.reg [Za 10 1 2,Zl 11 10,Za 12 1 3,Zl 13 12,Zb 14 .neq 11 13] []) (.cond (Zt 14) (.seq (.reg [Zo 4 (.mv (.c (.b false)))] []) .ret) .skip)) (.seq (.reg [Zo 4 (.mv (.c (.b true)))] []) .ret))))
def V101:List RV:=[.t 4]
theorem m101:mtcF Tryz.prog 101 2 A101 V101=true:=by kernel_rfl
def A55:ACode:=(.seq (.reg [Zo 2 (.box 10 (Zt 0)),Zo 3 (.box 10 (Zt 1)),Zo 4 (.mv (.c (.b false)))] []) (.seq (.seq (.reg [Za 5 0 2,Zl 6 5,Za 7 0 3,Zl 8 7,Zb 9 .neq 6 8] []) (.cond (Zt 9) (.seq (.reg [Zo 4 (.mv (.c (.b false)))] []) .ret) .skip)) (.seq (.seq (.reg [Za 10 1 2,Zl 11 10,Za 12 1 3,Zl 13 12,Zb 14 .neq 11 13] []) (.cond (Zt 14) (.seq (.reg [Zo 4 (.mv (.c (.b false)))] []) .ret) .skip)) (.seq (.seq (.reg [Za 15 2 2,Zo 16 (.load 2 true (Zt 15)),Za 17 2 3,Zo 18 (.load 2 true (Zt 17)),Zo 19 (.call 100 [(Zt 16),(Zt 18)]),Zo 20 (.un .not (Zt 19))] []) (.cond (Zt 20) (.seq (.reg [Zo 4 (.mv (.c (.b false)))] []) .ret) .skip)) (.seq (.seq (.reg [Za 21 4 2,Zo 22 (.load 2 true (Zt 21)),Za 23 4 3,Zo 24 (.load 2 true (Zt 23)),Zo 25 (.call 101 [(Zt 22),(Zt 24)]),Zo 26 (.un .not (Zt 25))] []) (.cond (Zt 26) (.seq (.reg [Zo 4 (.mv (.c (.b false)))] []) .ret) .skip)) (.seq (.seq (.reg [Za 27 6 2,Zo 28 (.load 2 true (Zt 27)),Za 29 6 3,Zo 30 (.load 2 true (Zt 29)),Zo 31 (.call 100 [(Zt 28),(Zt 30)]),Zo 32 (.un .not (Zt 31))] []) (.cond (Zt 32) (.seq (.reg [Zo 4 (.mv (.c (.b false)))] []) .ret) .skip)) (.seq (.seq (.reg [Za 33 8 2,Zo 34 (.load 2 true (Zt 33)),Za 35 8 3,Zo 36 (.load 2 true (Zt 35)),Zo 37 (.call 101 [(Zt 34),(Zt 36)]),Zo 38 (.un .not (Zt 37))] []) (.cond (Zt 38) (.seq (.reg [Zo 4 (.mv (.c (.b false)))] []) .ret) .skip)) (.seq (.reg [Zo 4 (.mv (.c (.b true)))] []) .ret))))))))
def V55:List RV:=[.t 4]
theorem m55:mtcF Tryz.prog 55 2 A55 V55=true:=by kernel_rfl
def A20L1:ACode:=(.seq (.seq (.reg [Zm 11 5,Zm 12 0,Zk 13 12,Zb 14 .lss 11 13] []) (.cond (Zt 14) .skip (.exit 0))) (.seq (.blk 1 (.seq (.drw [Zm 17 0,Zm 18 5,Zx 19 10 17 18,Zo 20 (.load 10 true (Zt 19)),Zm 21 1,Zm 22 5,Zx 23 10 21 22,Zo 24 (.load 10 true (Zt 23)),Zo 25 (.call 55 [(Zt 20),(Zt 24)]),Zo 26 (.un .not (Zt 25))] []) (.cond (Zt 26) (.seq (.reg [Zo 4 (.mv (.c (.b false)))] []) .ret) .skip))) (.reg [Zm 15 5,Zd 16 .add 15 1,Zm 5 16] [])))
def A20R2:ACode:=(.seq (.reg [Zo 4 (.mv (.c (.b true)))] []) .ret)
def A20:ACode:=(.seq (.reg [Zo 4 (.mv (.c (.b false)))] []) (.seq (.seq (.reg [Zm 6 0,Zk 7 6,Zm 8 1,Zk 9 8,Zb 10 .neq 7 9] []) (.cond (Zt 10) (.seq (.reg [Zo 4 (.mv (.c (.b false)))] []) .ret) .skip)) (.seqa (.reg [Zn 5 0] []) (.blk 0 (.loop A20L1)) [] [] A20R2)))
def V20:List RV:=[.t 4]
theorem m20:mtcF Tryz.prog 20 2 A20 V20=true:=by kernel_rfl
def A53L1:ACode:=(.seq (.seq (.reg [Zm 11 5,Zm 12 0,Zk 13 12,Zb 14 .lss 11 13] []) (.cond (Zt 14) .skip (.exit 0))) (.seq (.blk 1 (.seq (.drw [Zm 17 0,Zm 18 5,Zx 19 1 17 18,Zl 20 19,Zm 21 1,Zm 22 5,Zx 23 1 21 22,Zl 24 23,Zb 25 .neq 20 24] []) (.cond (Zt 25) (.seq (.reg [Zo 4 (.mv (.c (.b false)))] []) .ret) .skip))) (.reg [Zm 15 5,Zd 16 .add 15 1,Zm 5 16] [])))
def A53R2:ACode:=(.seq (.reg [Zo 4 (.mv (.c (.b true)))] []) .ret)
def A53:ACode:=(.seq (.reg [Zo 4 (.mv (.c (.b false)))] []) (.seq (.seq (.reg [Zm 6 0,Zk 7 6,Zm 8 1,Zk 9 8,Zb 10 .neq 7 9] []) (.cond (Zt 10) (.seq (.reg [Zo 4 (.mv (.c (.b false)))] []) .ret) .skip)) (.seqa (.reg [Zn 5 0] []) (.blk 0 (.loop A53L1)) [] [] A53R2)))
def V53:List RV:=[.t 4]
theorem m53:mtcF Tryz.prog 53 2 A53 V53=true:=by kernel_rfl
def A99:ACode:=(.seq (.reg [Zo 2 (.box 4 (Zt 0)),Zo 3 (.box 4 (Zt 1)),Zo 4 (.mv (.c (.b false)))] []) (.seq (.seq (.reg [Za 5 0 2,Zl 6 5,Za 7 0 3,Zl 8 7,Zb 9 .neq 6 8] []) (.cond (Zt 9) (.seq (.reg [Zo 4 (.mv (.c (.b false)))] []) .ret) .skip)) (.seq (.seq (.reg [Za 10 1 2,Zl 11 10,Za 12 1 3,Zl 13 12,Zb 14 .neq 11 13] []) (.cond (Zt 14) (.seq (.reg [Zo 4 (.mv (.c (.b false)))] []) .ret) .skip)) (.seq (.seq (.reg [Za 15 2 2,Zl 16 15,Za 17 2 3,Zl 18 17,Zb 19 .neq 16 18] []) (.cond (Zt 19) (.seq (.reg [Zo 4 (.mv (.c (.b false)))] []) .ret) .skip)) (.seq (.seq (.reg [Za 20 3 2,Zl 21 20,Za 22 3 3,Zl 23 22,Zb 24 .neq 21 23] []) (.cond (Zt 24) (.seq (.reg [Zo 4 (.mv (.c (.b false)))] []) .ret) .skip)) (.seq (.reg [Zo 4 (.mv (.c (.b true)))] []) .ret))))))
def V99:List RV:=[.t 4]
theorem m99:mtcF Tryz.prog 99 2 A99 V99=true:=by kernel_rfl
def A54L1:ACode:=(.seq (.seq (.reg [Zm 11 5,Zm 12 0,Zk 13 12,Zb 14 .lss 11 13] []) (.cond (Zt 14) .skip (.exit 0))) (.seq (.blk 1 (.seq (.drw [Zm 17 0,Zm 18 5,Zx 19 4 17 18,Zo 20 (.load 4 true (Zt 19)),Zm 21 1,Zm 22 5,Zx 23 4 21 22,Zo 24 (.load 4 true (Zt 23)),Zo 25 (.call 99 [(Zt 20),(Zt 24)]),Zo 26 (.un .not (Zt 25))] []) (.cond (Zt 26) (.seq (.reg [Zo 4 (.mv (.c (.b false)))] []) .ret) .skip))) (.reg [Zm 15 5,Zd 16 .add 15 1,Zm 5 16] [])))
def A54R2:ACode:=(.seq (.reg [Zo 4 (.mv (.c (.b true)))] []) .ret)
def A54:ACode:=(.seq (.reg [Zo 4 (.mv (.c (.b false)))] []) (.seq (.seq (.reg [Zm 6 0,Zk 7 6,Zm 8 1,Zk 9 8,Zb 10 .neq 7 9] []) (.cond (Zt 10) (.seq (.reg [Zo 4 (.mv (.c (.b false)))] []) .ret) .skip)) (.seqa (.reg [Zn 5 0] []) (.blk 0 (.loop A54L1)) [] [] A54R2)))
def V54:List RV:=[.t 4]
theorem m54:mtcF Tryz.prog 54 2 A54 V54=true:=by kernel_rfl
def A19:ACode:=(.seq (.reg [Zo 2 (.box 2 (Zt 0)),Zo 3 (.box 2 (Zt 1)),Zo 4 (.mv (.c (.b false)))] []) (.seq (.seq (.reg [Za 5 0 2,Zl 6 5,Za 7 0 3,Zl 8 7,Zo 9 (.call 53 [(Zt 6),(Zt 8)]),Zo 10 (.un .not (Zt 9))] []) (.cond (Zt 10) (.seq (.reg [Zo 4 (.mv (.c (.b false)))] []) .ret) .skip)) (.seq (.seq (.reg [Za 11 1 2,Zl 12 11,Za 13 1 3,Zl 14 13,Zo 15 (.call 54 [(Zt 12),(Zt 14)]),Zo 16 (.un .not (Zt 15))] []) (.cond (Zt 16) (.seq (.reg [Zo 4 (.mv (.c (.b false)))] []) .ret) .skip)) (.seq (.reg [Zo 4 (.mv (.c (.b true)))] []) .ret))))
def V19:List RV:=[.t 4]
theorem m19:mtcF Tryz.prog 19 2 A19 V19=true:=by kernel_rfl
def A102L1:ACode:=(.seq (.seq (.reg [Zm 6 0,Zd 7 .gtr 6 0] []) (.cond (Zt 7) .skip (.exit 0))) (.blk 1 (.seq (.reg [Zm 8 0,Zd 9 .rem 8 10,Zo 10 (.bin .add (.c (.i 48)) (Zt 9)),Zo 11 (.conv .u8 (Zt 10)),Zo 12 (.bsl 1 false [(Zt 11)]),Zo 13 (.b2s (Zt 12)),Zm 14 3,Zb 15 .add 13 14,Zm 3 15] []) (.reg [Zm 16 0,Zd 17 .quo 16 10,Zm 0 17] []))))
def A102R2:ACode:=(.seq (.reg [Zm 18 3,Zo 19 (.bin .add (.c (.z ⟨#[109]⟩)) (Zt 18)),Zm 2 19] []) .ret)
def A102:ACode:=(.seq (.reg [Zo 2 (.mv (.c (.z ⟨#[]⟩)))] []) (.seq (.seq (.reg [Zm 4 0,Zd 5 .leq 4 0] []) (.cond (Zt 5) (.seq (.reg [Zo 2 (.mv (.c (.z ⟨#[109,48]⟩)))] []) .ret) .skip)) (.seq (.reg [Zo 3 (.mv (.c (.z ⟨#[]⟩)))] []) (.seqr (.blk 0 (.loop A102L1)) [3] [] A102R2))))
def V102:List RV:=[.t 2]
theorem m102:mtcF Tryz.prog 102 1 A102 V102=true:=by kernel_rfl
def A56M1L1:ACode:=(.seq (.seq (.reg [Zm 6 5,Zm 7 0,Zk 8 7,Zb 9 .lss 6 8] []) (.cond (Zt 9) .skip (.exit 0))) (.seq (.blk 1 (.seq (.reg [Zm 12 0,Zm 13 5,Zm 14 1,Zo 15 (.call 102 [(Zt 14)]),Zx 16 1 12 13,⟨none,.store 1 (Zt 16) (Zt 15),none⟩] []) (.reg [Zm 17 1,Zd 18 .add 17 1,Zm 1 18] []))) (.reg [Zm 10 5,Zd 11 .add 10 1,Zm 5 11] [])))
def A56M1R2:ACode:=(.seq (.reg [Zm 19 1,Zm 4 19] []) .ret)
def A56M1:ACode:=(.seq (.reg [Zn 4 0] []) (.seqa (.reg [Zn 5 0] []) (.blk 0 (.loop A56M1L1)) [1] [1000000000] A56M1R2))
def V56M1:List RV:=[.t 4]
theorem m56M1:mtcF Tryz.prog 56 2 A56M1 V56M1=true:=by kernel_rfl
def A57M1L1:ACode:=(.seq (.seq (.reg [Zm 6 5,Zm 7 0,Zk 8 7,Zb 9 .lss 6 8] []) (.cond (Zt 9) .skip (.exit 0))) (.seq (.blk 1 (.seq (.reg [Zm 12 0,Zm 13 5,Zm 14 1,Zx 15 4 12 13,Za 16 0 15,⟨none,.store 1 (Zt 16) (Zt 14),none⟩] []) (.seq (.reg [Zm 17 1,Zd 18 .add 17 1,Zm 1 18] []) (.seq (.reg [Zm 19 0,Zm 20 5,Zm 21 1,Zx 22 4 19 20,Za 23 1 22,⟨none,.store 1 (Zt 23) (Zt 21),none⟩] []) (.seq (.reg [Zm 24 1,Zd 25 .add 24 1,Zm 1 25] []) (.seq (.reg [Zm 26 0,Zm 27 5,Zm 28 1,Zx 29 4 26 27,Za 30 2 29,⟨none,.store 1 (Zt 30) (Zt 28),none⟩] []) (.seq (.reg [Zm 31 1,Zd 32 .add 31 1,Zm 1 32] []) (.seq (.reg [Zm 33 0,Zm 34 5,Zm 35 1,Zx 36 4 33 34,Za 37 3 36,⟨none,.store 1 (Zt 37) (Zt 35),none⟩] []) (.reg [Zm 38 1,Zd 39 .add 38 1,Zm 1 39] []))))))))) (.reg [Zm 10 5,Zd 11 .add 10 1,Zm 5 11] [])))
def A57M1R2:ACode:=(.seq (.reg [Zm 40 1,Zm 4 40] []) .ret)
def A57M1:ACode:=(.seq (.reg [Zn 4 0] []) (.seqa (.reg [Zn 5 0] []) (.blk 0 (.loop A57M1L1)) [1] [1000000000] A57M1R2))
def V57M1:List RV:=[.t 4]
theorem m57M1:mtcF Tryz.prog 57 2 A57M1 V57M1=true:=by kernel_rfl
def A21M1:ACode:=(.seq (.reg [Zo 2 (.box 2 (Zt 0)),Zn 4 0] []) (.seq (.reg [Za 5 0 2,Zl 6 5,Zm 7 1,Zo 8 (.callM 56 [(Zt 6),(Zt 7)] [1000000000]),Zm 1 8] []) (.seq (.reg [Za 9 1 2,Zl 10 9,Zm 11 1,Zo 12 (.callM 57 [(Zt 10),(Zt 11)] [1000000001]),Zm 1 12] []) (.seq (.reg [Zm 13 1,Zm 4 13] []) .ret))))
def V21M1:List RV:=[.t 4]
theorem m21M1:mtcF Tryz.prog 21 2 A21M1 V21M1=true:=by kernel_rfl
def A23M1L1:ACode:=(.seq (.seq (.reg [Zm 6 5,Zm 7 0,Zk 8 7,Zb 9 .lss 6 8] []) (.cond (Zt 9) .skip (.exit 0))) (.seq (.blk 1 (.seq (.reg [Zm 12 0,Zm 13 5,Zm 14 1,Zx 15 1 12 13,⟨none,.store 1 (Zt 15) (Zt 14),none⟩] []) (.reg [Zm 16 1,Zd 17 .add 16 1,Zm 1 17] []))) (.reg [Zm 10 5,Zd 11 .add 10 1,Zm 5 11] [])))
def A23M1R2:ACode:=(.seq (.reg [Zm 18 1,Zm 4 18] []) .ret)
def A23M1:ACode:=(.seq (.reg [Zn 4 0] []) (.seqa (.reg [Zn 5 0] []) (.blk 0 (.loop A23M1L1)) [1] [1000000000] A23M1R2))
def V23M1:List RV:=[.t 4]
theorem m23M1:mtcF Tryz.prog 23 2 A23M1 V23M1=true:=by kernel_rfl
def A22M1L1:ACode:=(.seq (.seq (.reg [Zm 6 5,Zm 7 0,Zk 8 7,Zb 9 .lss 6 8] []) (.cond (Zt 9) .skip (.exit 0))) (.seq (.blk 1 (.seq (.reg [Zm 12 0,Zm 13 5,Zm 14 1,Zx 15 10 12 13,Za 16 0 15,⟨none,.store 1 (Zt 16) (Zt 14),none⟩] []) (.seq (.reg [Zm 17 1,Zd 18 .add 17 1,Zm 1 18] []) (.seq (.reg [Zm 19 0,Zm 20 5,Zm 21 1,Zx 22 10 19 20,Za 23 1 22,⟨none,.store 1 (Zt 23) (Zt 21),none⟩] []) (.seq (.reg [Zm 24 1,Zd 25 .add 24 1,Zm 1 25] []) (.seq (.reg [Zm 26 0,Zm 27 5,Zm 28 1,Zx 29 10 26 27,Za 30 2 29,Za 31 0 30,⟨none,.store 1 (Zt 31) (Zt 28),none⟩] []) (.seq (.reg [Zm 32 1,Zd 33 .add 32 1,Zm 1 33] []) (.seq (.regh [Zm 34 0,Zm 35 5,Zx 36 10 34 35,Za 37 2 36,Za 38 1 37] (.inn 39 10 1 (Zt 38) [(40,(Zt 1))] 41 23 [(Zt 39),(Zt 40)]) [Zm 1 41] []) (.seq (.reg [Zm 42 0,Zm 43 5,Zm 44 1,Zx 45 10 42 43,Za 46 4 45,Za 47 0 46,⟨none,.store 1 (Zt 47) (Zt 44),none⟩] []) (.seq (.reg [Zm 48 1,Zd 49 .add 48 1,Zm 1 49] []) (.seq (.reg [Zm 50 0,Zm 51 5,Zm 52 1,Zx 53 10 50 51,Za 54 4 53,Za 55 1 54,⟨none,.store 1 (Zt 55) (Zt 52),none⟩] []) (.seq (.reg [Zm 56 1,Zd 57 .add 56 1,Zm 1 57] []) (.seq (.reg [Zm 58 0,Zm 59 5,Zm 60 1,Zx 61 10 58 59,Za 62 6 61,Za 63 0 62,⟨none,.store 1 (Zt 63) (Zt 60),none⟩] []) (.seq (.reg [Zm 64 1,Zd 65 .add 64 1,Zm 1 65] []) (.seq (.regh [Zm 66 0,Zm 67 5,Zx 68 10 66 67,Za 69 6 68,Za 70 1 69] (.inn 71 10 1 (Zt 70) [(72,(Zt 1))] 73 23 [(Zt 71),(Zt 72)]) [Zm 1 73] []) (.seq (.reg [Zm 74 0,Zm 75 5,Zm 76 1,Zx 77 10 74 75,Za 78 8 77,Za 79 0 78,⟨none,.store 1 (Zt 79) (Zt 76),none⟩] []) (.seq (.reg [Zm 80 1,Zd 81 .add 80 1,Zm 1 81] []) (.seq (.reg [Zm 82 0,Zm 83 5,Zm 84 1,Zx 85 10 82 83,Za 86 8 85,Za 87 1 86,⟨none,.store 1 (Zt 87) (Zt 84),none⟩] []) (.reg [Zm 88 1,Zd 89 .add 88 1,Zm 1 89] []))))))))))))))))))) (.reg [Zm 10 5,Zd 11 .add 10 1,Zm 5 11] [])))
def A22M1R2:ACode:=(.seq (.reg [Zm 90 1,Zm 4 90] []) .ret)
def A22M1:ACode:=(.seq (.reg [Zn 4 0] []) (.seqa (.reg [Zn 5 0] []) (.blk 0 (.loop A22M1L1)) [1] [1000000000] A22M1R2))
def V22M1:List RV:=[.t 4]
theorem m22M1:mtcF Tryz.prog 22 2 A22M1 V22M1=true:=by kernel_rfl
def A24L1:ACode:=(.seq (.seq (.reg [Zm 6 5,Zm 7 0,Zk 8 7,Zb 9 .lss 6 8] []) (.cond (Zt 9) .skip (.exit 0))) (.seq (.blk 1 (.seq (.seq (.reg [Zm 12 0,Zm 13 5,Zx 14 1 12 13,Zl 15 14,Zm 16 1,Zb 17 .neq 15 16] []) (.cond (Zt 17) (.seq (.reg [Zn 4 (-1)] []) .ret) .skip)) (.reg [Zm 18 1,Zd 19 .add 18 1,Zm 1 19] []))) (.reg [Zm 10 5,Zd 11 .add 10 1,Zm 5 11] [])))
def A24R2:ACode:=(.seq (.reg [Zm 20 1,Zm 4 20] []) .ret)
def A24:ACode:=(.seq (.reg [Zn 4 0] []) (.seqa (.reg [Zn 5 0] []) (.blk 0 (.loop A24L1)) [1] [] A24R2))
def V24:List RV:=[.t 4]
theorem m24:mtcF Tryz.prog 24 2 A24 V24=true:=by kernel_rfl
def A32L1:ACode:=(.seq (.seq (.reg [Zm 6 5,Zm 7 0,Zk 8 7,Zb 9 .lss 6 8] []) (.cond (Zt 9) .skip (.exit 0))) (.seq (.blk 1 (.seq (.seq (.reg [Zm 12 0,Zm 13 5,Zx 14 10 12 13,Za 15 0 14,Zl 16 15,Zm 17 1,Zb 18 .neq 16 17] []) (.cond (Zt 18) (.seq (.reg [Zn 4 (-1)] []) .ret) .skip)) (.seq (.reg [Zm 19 1,Zd 20 .add 19 1,Zm 1 20] []) (.seq (.seq (.reg [Zm 21 0,Zm 22 5,Zx 23 10 21 22,Za 24 1 23,Zl 25 24,Zm 26 1,Zb 27 .neq 25 26] []) (.cond (Zt 27) (.seq (.reg [Zn 4 (-1)] []) .ret) .skip)) (.seq (.reg [Zm 28 1,Zd 29 .add 28 1,Zm 1 29] []) (.seq (.seq (.reg [Zm 30 0,Zm 31 5,Zx 32 10 30 31,Za 33 2 32,Za 34 0 33,Zl 35 34,Zm 36 1,Zb 37 .neq 35 36] []) (.cond (Zt 37) (.seq (.reg [Zn 4 (-1)] []) .ret) .skip)) (.seq (.reg [Zm 38 1,Zd 39 .add 38 1,Zm 1 39] []) (.seq (.reg [Zm 40 0,Zm 41 5,Zx 42 10 40 41,Za 43 2 42,Za 44 1 43,Zl 45 44,Zm 46 1,Zo 47 (.call 24 [(Zt 45),(Zt 46)]),Zm 1 47] []) (.seq (.seq (.reg [Zm 48 1,Zd 49 .lss 48 0] []) (.cond (Zt 49) (.seq (.reg [Zn 4 (-1)] []) .ret) .skip)) (.seq (.seq (.reg [Zm 50 0,Zm 51 5,Zx 52 10 50 51,Za 53 4 52,Za 54 0 53,Zl 55 54,Zm 56 1,Zb 57 .neq 55 56] []) (.cond (Zt 57) (.seq (.reg [Zn 4 (-1)] []) .ret) .skip)) (.seq (.reg [Zm 58 1,Zd 59 .add 58 1,Zm 1 59] []) (.seq (.seq (.reg [Zm 60 0,Zm 61 5,Zx 62 10 60 61,Za 63 4 62,Za 64 1 63,Zl 65 64,Zm 66 1,Zb 67 .neq 65 66] []) (.cond (Zt 67) (.seq (.reg [Zn 4 (-1)] []) .ret) .skip)) (.seq (.reg [Zm 68 1,Zd 69 .add 68 1,Zm 1 69] []) (.seq (.seq (.reg [Zm 70 0,Zm 71 5,Zx 72 10 70 71,Za 73 6 72,Za 74 0 73,Zl 75 74,Zm 76 1,Zb 77 .neq 75 76] []) (.cond (Zt 77) (.seq (.reg [Zn 4 (-1)] []) .ret) .skip)) (.seq (.reg [Zm 78 1,Zd 79 .add 78 1,Zm 1 79] []) (.seq (.reg [Zm 80 0,Zm 81 5,Zx 82 10 80 81,Za 83 6 82,Za 84 1 83,Zl 85 84,Zm 86 1,Zo 87 (.call 24 [(Zt 85),(Zt 86)]),Zm 1 87] []) (.seq (.seq (.reg [Zm 88 1,Zd 89 .lss 88 0] []) (.cond (Zt 89) (.seq (.reg [Zn 4 (-1)] []) .ret) .skip)) (.seq (.seq (.reg [Zm 90 0,Zm 91 5,Zx 92 10 90 91,Za 93 8 92,Za 94 0 93,Zl 95 94,Zm 96 1,Zb 97 .neq 95 96] []) (.cond (Zt 97) (.seq (.reg [Zn 4 (-1)] []) .ret) .skip)) (.seq (.reg [Zm 98 1,Zd 99 .add 98 1,Zm 1 99] []) (.seq (.seq (.reg [Zm 100 0,Zm 101 5,Zx 102 10 100 101,Za 103 8 102,Za 104 1 103,Zl 105 104,Zm 106 1,Zb 107 .neq 105 106] []) (.cond (Zt 107) (.seq (.reg [Zn 4 (-1)] []) .ret) .skip)) (.reg [Zm 108 1,Zd 109 .add 108 1,Zm 1 109] []))))))))))))))))))))) (.reg [Zm 10 5,Zd 11 .add 10 1,Zm 5 11] [])))
def A32R2:ACode:=(.seq (.reg [Zm 110 1,Zm 4 110] []) .ret)
def A32:ACode:=(.seq (.reg [Zn 4 0] []) (.seqa (.reg [Zn 5 0] []) (.blk 0 (.loop A32L1)) [1] [] A32R2))
def V32:List RV:=[.t 4]
theorem m32:mtcF Tryz.prog 32 2 A32 V32=true:=by kernel_rfl
def A6R1:ACode:=(.cond (Zt 57) (.seq (.reg [Zo 6 (.mv (.c (.b false)))] []) .ret) .skip)
def A6R2:ACode:=(.cond (Zt 86) (.seq (.reg [Zo 6 (.mv (.c (.b false)))] []) .ret) .skip)
def A6R3:ACode:=(.cond (Zt 115) (.seq (.reg [Zo 6 (.mv (.c (.b false)))] []) .ret) .skip)
def A6:ACode:=(.seq (.reg [Zo 3 (.box 2 (Zt 0)),Zo 6 (.mv (.c (.b false)))] []) (.seq (.reg [Zn 7 1048576] []) (.seq (.reg [Zo 19 (.load 2 true (Zt 3)),Zm 20 7,Zo 21 (.call 12 [(Zt 19),(Zt 20)]),Zm 7 21] []) (.seq (.seq (.reg [Zm 22 7,Zd 23 .lss 22 0] []) (.cond (Zt 23) (.seq (.reg [Zo 6 (.mv (.c (.b true)))] []) .ret) .skip)) (.seq (.reg [Zm 24 1,Zm 25 7,Zo 26 (.call 13 [(Zt 24),(Zt 25)]),Zm 7 26] []) (.seq (.seq (.reg [Zm 27 7,Zd 28 .lss 27 0] []) (.cond (Zt 28) (.seq (.reg [Zo 6 (.mv (.c (.b true)))] []) .ret) .skip)) (.seq (.reg [Zo 30 (.load 2 true (Zt 3)),Zo 31 (.call 15 [(Zt 30)]),Zm 32 1,Zo 33 (.call 16 [(Zt 32)]),Zm 34 2,Zo 35 (.call 30 [(Zt 31),(Zt 33),(Zt 34)]),Zm 29 35,Ze 36 29 0,Ze 37 29 1,Zm 8 36,Zm 9 37] [.s 8]) (.seq (.reg [Zo 38 (.load 2 true (Zt 3)),Zo 39 (.call 15 [(Zt 38)]),Zo 10 (.alloc (.agg [.lst .u 1 [],.lst .u 4 []])),⟨none,.store 2 (Zt 10) (Zt 39),none⟩] []) (.seq (.reg [Zm 40 1,Zo 41 (.call 16 [(Zt 40)]),Zm 11 41] [.s 11]) (.seq (.reg [Zo 43 (.load 2 true (Zt 10)),Zm 44 11,Zm 45 2,Zo 46 (.call 31 [(Zt 43),(Zt 44),(Zt 45)]),Zm 42 46,Ze 47 42 0,Ze 48 42 1,Zm 12 47,Zm 13 48] [.s 12]) (.seq (.seqr (.reg [Zm 49 12,Zm 50 8,Zo 51 (.call 20 [(Zt 49),(Zt 50)]),Zo 52 (.un .not (Zt 51)),Zm 53 52,⟨(some 54),.mv (Zt 13),(some (53,false))⟩,⟨(some 55),.mv (Zt 9),(some (53,false))⟩,⟨(some 56),.beq true (Zt 54) (Zt 55),(some (53,false))⟩,Zo 57 (.pick (Zt 53) (.c (.b true)) (Zt 56))] []) [1,2,3,8,9,10,11,12,13,57] [3,8,10,11,12,39,1039] A6R1) (.seq (.seq (.drw [Zo 58 (.load 2 true (Zt 10)),Zo 59 (.load 2 true (Zt 3)),Zo 60 (.call 15 [(Zt 59)]),Zo 61 (.call 19 [(Zt 58),(Zt 60)]),Zo 62 (.un .not (Zt 61))] []) (.cond (Zt 62) (.seq (.reg [Zo 6 (.mv (.c (.b false)))] []) .ret) .skip)) (.seq (.seq (.reg [Zm 63 11,Zm 64 1,Zo 65 (.call 16 [(Zt 64)]),Zo 66 (.call 20 [(Zt 63),(Zt 65)]),Zo 67 (.un .not (Zt 66))] []) (.cond (Zt 67) (.seq (.reg [Zo 6 (.mv (.c (.b false)))] []) .ret) .skip)) (.seq (.reg [Zn 14 1] []) (.seq (.reg [Zo 68 (.load 2 true (Zt 10)),Zm 69 14,Zo 70 (.callM 21 [(Zt 68),(Zt 69)] [39,1039]),Zm 14 70] []) (.seq (.regh [Zm 71 11,Zm 72 14] (.har 73 22 [(Zt 71),(Zt 72)] [11]) [Zm 14 73] []) (.seq (.seqr (.reg [Zm 74 14,Zd 75 .lss 74 0,Zm 76 75,⟨(some 77),.mv (Zt 12),(some (76,false))⟩,⟨(some 78),.mv (Zt 8),(some (76,false))⟩,⟨(some 79),.call 20 [(Zt 77),(Zt 78)],(some (76,false))⟩,⟨(some 80),.un .not (Zt 79),(some (76,false))⟩,Zo 81 (.pick (Zt 76) (.c (.b true)) (Zt 80)),Zm 82 81,⟨(some 83),.mv (Zt 13),(some (82,false))⟩,⟨(some 84),.mv (Zt 9),(some (82,false))⟩,⟨(some 85),.beq true (Zt 83) (Zt 84),(some (82,false))⟩,Zo 86 (.pick (Zt 82) (.c (.b true)) (Zt 85))] []) [1,2,3,8,9,12,86] [3,8,12] A6R2) (.seq (.reg [Zn 15 1] []) (.seq (.regh [Zm 87 12,Zm 88 15] (.har 89 22 [(Zt 87),(Zt 88)] [12]) [Zm 15 89] []) (.seq (.reg [Zn 16 1] []) (.seq (.reg [Zm 90 12,Zm 91 16,Zo 92 (.call 32 [(Zt 90),(Zt 91)]),Zm 16 92] []) (.seq (.seq (.reg [Zm 93 16,Zd 94 .lss 93 0] []) (.cond (Zt 94) (.seq (.reg [Zo 6 (.mv (.c (.b false)))] []) .ret) .skip)) (.seq (.seq (.reg [Zm 95 16,Zm 96 15,Zb 97 .neq 95 96] []) (.cond (Zt 97) (.seq (.reg [Zo 6 (.mv (.c (.b false)))] []) .ret) .skip)) (.seq (.reg [Zo 99 (.load 2 true (Zt 3)),Zo 100 (.call 15 [(Zt 99)]),Zm 101 1,Zo 102 (.call 16 [(Zt 101)]),Zm 103 2,Zo 104 (.call 31 [(Zt 100),(Zt 102),(Zt 103)]),Zm 98 104,Ze 105 98 0,Ze 106 98 1,Zm 17 105,Zm 18 106] [.s 17]) (.seq (.seqr (.reg [Zm 107 17,Zm 108 8,Zo 109 (.call 20 [(Zt 107),(Zt 108)]),Zo 110 (.un .not (Zt 109)),Zm 111 110,⟨(some 112),.mv (Zt 18),(some (111,false))⟩,⟨(some 113),.mv (Zt 9),(some (111,false))⟩,⟨(some 114),.beq true (Zt 112) (Zt 113),(some (111,false))⟩,Zo 115 (.pick (Zt 111) (.c (.b true)) (Zt 114))] []) [12,15,115] [12] A6R3) (.seq (.reg [Zn 16 1] []) (.seq (.reg [Zm 116 12,Zm 117 16,Zo 118 (.call 32 [(Zt 116),(Zt 117)]),Zm 16 118] []) (.seq (.seq (.reg [Zm 119 16,Zd 120 .lss 119 0] []) (.cond (Zt 120) (.seq (.reg [Zo 6 (.mv (.c (.b false)))] []) .ret) .skip)) (.seq (.seq (.reg [Zm 121 16,Zm 122 15,Zb 123 .neq 121 122] []) (.cond (Zt 123) (.seq (.reg [Zo 6 (.mv (.c (.b false)))] []) .ret) .skip)) (.seq (.reg [Zo 6 (.mv (.c (.b true)))] []) .ret))))))))))))))))))))))))))))))
def V6:List RV:=[.t 6]
theorem m6:mtcF Tryz.prog 6 3 A6 V6=true:=by kernel_rfl
end Vs

