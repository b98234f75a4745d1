/-
  Part of the proof that the law FnExactFailFibers returns true at every input; no condition beside the row's own.
-/
import Derived.Test.YtgpbibgbfklikaaGreatKa
set_option linter.defProp false
set_option linter.unusedSimpArgs false
set_option linter.unusedVariables false
set_option maxHeartbeats 1000000
set_option maxRecDepth 8000
namespace Vs
open Go Go.Proofs
attribute [local irreducible] AWP stOps eff awpC callA callM
theorem VT1:(∀ (f:Fl) (x:TFiber),e_TFiber f x=.agg [.i x.A,.i x.B,.i x.Length,.i x.Risk]) ∧
 (∀ (f:Fl) (x:TNetwork),e_TNetwork f x=.agg [.lst f 1 (x.Nodes.map AV.z),.lst f 4 (x.Fibers.map (e_TFiber f))]) ∧
 (∀ (f:Fl) (x:TRoute),e_TRoute f x=.agg [.i x.Start,.lst f 1 (x.Fibers.map AV.i)]) ∧
 (∀ (f:Fl) (x:TBlock),e_TBlock f x=.agg [.i x.First,.i x.Count]) ∧
 (∀ (f:Fl) (x:TLight),e_TLight f x=.agg [.i x.Id,.i x.Route.Start,.lst f 1 (x.Route.Fibers.map AV.i),.i x.Block.First,.i x.Block.Count]) ∧
 (∀ (f:Fl) (x:TPlan),e_TPlan f x=.agg [.lst f 1 (x.Network.Nodes.map AV.z),.lst f 4 (x.Network.Fibers.map (e_TFiber f)),.lst f 5 (x.Lights.map (e_TLight f))]) ∧
 (∀ (f:Fl) (x:TRestoration),e_TRestoration f x=.agg [.lst f 1 (x.Plan.Network.Nodes.map AV.z),.lst f 4 (x.Plan.Network.Fibers.map (e_TFiber f)),.lst f 5 (x.Plan.Lights.map (e_TLight f)),.lst f 5 (x.Home.map (e_TLight f)),.lst f 1 (x.Down.map AV.i)]) ∧
 (∀ (f:Fl) (x:List Int),e_Li f x=.lst f 1 (x.map AV.i)):=⟨fun _ _=>rfl,fun _ _=>rfl,fun _ _=>rfl,fun _ _=>rfl,fun _ _=>rfl,fun _ _=>rfl,fun _ _=>rfl,fun _ _=>rfl⟩
theorem VT2:(∀ (f:Fl) (x:TFiber),(e_TFiber f x).nrm=e_TFiber .o x) ∧
 (∀ (f:Fl) (xs:List TFiber),(xs.map (e_TFiber f)).map AV.nrm=xs.map (e_TFiber .o)) ∧
 (∀ (f:Fl) (x:TFiber),(e_TFiber f x).als=e_TFiber f.als x) ∧
 (∀ (f:Fl) (xs:List TFiber),(xs.map (e_TFiber f)).map AV.als=xs.map (e_TFiber f.als)) ∧
 (∀ (f:Fl),AV.als ∘ e_TFiber f=e_TFiber f.als) ∧
 (∀ (f:Fl) (x:TFiber),(e_TFiber f x).fix=e_TFiber f.fix x) ∧
 (∀ (f:Fl) (xs:List TFiber),(xs.map (e_TFiber f)).map AV.fix=xs.map (e_TFiber f.fix)) ∧
 (∀ (f:Fl) (x:TNetwork),(e_TNetwork f x).nrm=e_TNetwork .o x) ∧
 (∀ (f:Fl) (xs:List TNetwork),(xs.map (e_TNetwork f)).map AV.nrm=xs.map (e_TNetwork .o)) ∧
 (∀ (f:Fl) (x:TNetwork),(e_TNetwork f x).als=e_TNetwork f.als x) ∧
 (∀ (f:Fl) (xs:List TNetwork),(xs.map (e_TNetwork f)).map AV.als=xs.map (e_TNetwork f.als)) ∧
 (∀ (f:Fl),AV.als ∘ e_TNetwork f=e_TNetwork f.als) ∧
 (∀ (f:Fl) (x:TNetwork),(e_TNetwork f x).fix=e_TNetwork f.fix x) ∧
 (∀ (f:Fl) (xs:List TNetwork),(xs.map (e_TNetwork f)).map AV.fix=xs.map (e_TNetwork f.fix)) ∧
 (∀ (f:Fl) (x:TRoute),(e_TRoute f x).nrm=e_TRoute .o x) ∧
 (∀ (f:Fl) (xs:List TRoute),(xs.map (e_TRoute f)).map AV.nrm=xs.map (e_TRoute .o)) ∧
 (∀ (f:Fl) (x:TRoute),(e_TRoute f x).als=e_TRoute f.als x) ∧
 (∀ (f:Fl) (xs:List TRoute),(xs.map (e_TRoute f)).map AV.als=xs.map (e_TRoute f.als)) ∧
 (∀ (f:Fl),AV.als ∘ e_TRoute f=e_TRoute f.als) ∧
 (∀ (f:Fl) (x:TRoute),(e_TRoute f x).fix=e_TRoute f.fix x) ∧
 (∀ (f:Fl) (xs:List TRoute),(xs.map (e_TRoute f)).map AV.fix=xs.map (e_TRoute f.fix)) ∧
 (∀ (f:Fl) (x:TBlock),(e_TBlock f x).nrm=e_TBlock .o x) ∧
 (∀ (f:Fl) (xs:List TBlock),(xs.map (e_TBlock f)).map AV.nrm=xs.map (e_TBlock .o)) ∧
 (∀ (f:Fl) (x:TBlock),(e_TBlock f x).als=e_TBlock f.als x) ∧
 (∀ (f:Fl) (xs:List TBlock),(xs.map (e_TBlock f)).map AV.als=xs.map (e_TBlock f.als)) ∧
 (∀ (f:Fl),AV.als ∘ e_TBlock f=e_TBlock f.als) ∧
 (∀ (f:Fl) (x:TBlock),(e_TBlock f x).fix=e_TBlock f.fix x) ∧
 (∀ (f:Fl) (xs:List TBlock),(xs.map (e_TBlock f)).map AV.fix=xs.map (e_TBlock f.fix)) ∧
 (∀ (f:Fl) (x:TLight),(e_TLight f x).nrm=e_TLight .o x) ∧
 (∀ (f:Fl) (xs:List TLight),(xs.map (e_TLight f)).map AV.nrm=xs.map (e_TLight .o)) ∧
 (∀ (f:Fl) (x:TLight),(e_TLight f x).als=e_TLight f.als x) ∧
 (∀ (f:Fl) (xs:List TLight),(xs.map (e_TLight f)).map AV.als=xs.map (e_TLight f.als)) ∧
 (∀ (f:Fl),AV.als ∘ e_TLight f=e_TLight f.als) ∧
 (∀ (f:Fl) (x:TLight),(e_TLight f x).fix=e_TLight f.fix x) ∧
 (∀ (f:Fl) (xs:List TLight),(xs.map (e_TLight f)).map AV.fix=xs.map (e_TLight f.fix)) ∧
 (∀ (f:Fl) (x:TPlan),(e_TPlan f x).nrm=e_TPlan .o x) ∧
 (∀ (f:Fl) (xs:List TPlan),(xs.map (e_TPlan f)).map AV.nrm=xs.map (e_TPlan .o)) ∧
 (∀ (f:Fl) (x:TPlan),(e_TPlan f x).als=e_TPlan f.als x) ∧
 (∀ (f:Fl) (xs:List TPlan),(xs.map (e_TPlan f)).map AV.als=xs.map (e_TPlan f.als)) ∧
 (∀ (f:Fl),AV.als ∘ e_TPlan f=e_TPlan f.als) ∧
 (∀ (f:Fl) (x:TPlan),(e_TPlan f x).fix=e_TPlan f.fix x) ∧
 (∀ (f:Fl) (xs:List TPlan),(xs.map (e_TPlan f)).map AV.fix=xs.map (e_TPlan f.fix)) ∧
 (∀ (f:Fl) (x:TRestoration),(e_TRestoration f x).nrm=e_TRestoration .o x) ∧
 (∀ (f:Fl) (xs:List TRestoration),(xs.map (e_TRestoration f)).map AV.nrm=xs.map (e_TRestoration .o)) ∧
 (∀ (f:Fl) (x:TRestoration),(e_TRestoration f x).als=e_TRestoration f.als x) ∧
 (∀ (f:Fl) (xs:List TRestoration),(xs.map (e_TRestoration f)).map AV.als=xs.map (e_TRestoration f.als)) ∧
 (∀ (f:Fl),AV.als ∘ e_TRestoration f=e_TRestoration f.als) ∧
 (∀ (f:Fl) (x:TRestoration),(e_TRestoration f x).fix=e_TRestoration f.fix x) ∧
 (∀ (f:Fl) (xs:List TRestoration),(xs.map (e_TRestoration f)).map AV.fix=xs.map (e_TRestoration f.fix)) ∧
 (∀ (f:Fl) (x:List Int),(e_Li f x).nrm=e_Li .o x) ∧
 (∀ (f:Fl) (xs:List (List Int)),(xs.map (e_Li f)).map AV.nrm=xs.map (e_Li .o)) ∧
 (∀ (f:Fl) (x:List Int),(e_Li f x).als=e_Li f.als x) ∧
 (∀ (f:Fl) (xs:List (List Int)),(xs.map (e_Li f)).map AV.als=xs.map (e_Li f.als)) ∧
 (∀ (f:Fl),AV.als ∘ e_Li f=e_Li f.als) ∧
 (∀ (f:Fl) (x:List Int),(e_Li f x).fix=e_Li f.fix x) ∧
 (∀ (f:Fl) (xs:List (List Int)),(xs.map (e_Li f)).map AV.fix=xs.map (e_Li f.fix)) ∧
 (∀ {H:World→Prop} {α:Type} {E:Fl→α→AV} {k:Nat} (t:Tok H E k),(tokE t).als=tokE t) ∧
 (∀ {H:World→Prop} {α:Type} {E:Fl→α→AV} {k:Nat} (t:Tok H E k),(tokE t).nrm=tokE t) ∧
 (∀ {H:World→Prop} {α:Type} {E:Fl→α→AV} {k:Nat} (l:List (Tok H E k)),(l.map tokE).map AV.als=l.map tokE) ∧
 (∀ {H:World→Prop} {α:Type} {E:Fl→α→AV} {k:Nat} (l:List (Tok H E k)),alsL (l.map tokE)=l.map tokE) ∧
 (∀ {H:World→Prop} {α:Type} {E:Fl→α→AV} {k:Nat} (t:Tok H E k),(tokE t).width=k) ∧
 (∀ {H:World→Prop} {α:Type} {E:Fl→α→AV} {k:Nat} (t:Tok H E k),(tokE t).isAgg=true) ∧
 (∀ {H:World→Prop} {α:Type} {E:Fl→α→AV} {k:Nat} (t:Tok H E k),(tokE t).ments=[]) ∧
 (∀ {H:World→Prop} {α:Type} {E:Fl→α→AV} {k:Nat} (t:Tok H E k),part (tokE t) 0 k true=some (tokE t)) ∧
 (∀ {H:World→Prop} {α:Type} {E:Fl→α→AV} {k:Nat} (ρ:Nat→Option Row) (j:Nat) (t:Tok H E k),lift ρ (j+2) (tokE t)=tokE t) ∧
 (∀ {H:World→Prop} {α:Type} {E:Fl→α→AV} {k:Nat} (ρ:Nat→Option Row) (j:Nat) (t:Tok H E k),snp ρ (j+2) (tokE t)=tokE t) ∧
 (∀ {H:World→Prop} {α:Type} {E:Fl→α→AV} {k:Nat} (u t:Tok H E k),setPart (tokE u) 0 (tokE t)=some (tokE t)) ∧
 (∀ {H:World→Prop} {α:Type} {E:Fl→α→AV} {k:Nat} (h:Nat→Nat) (t:Tok H E k),(tokE t).rg h=tokE t) ∧
 (∀ {H:World→Prop} {α:Type} {E:Fl→α→AV} {k:Nat} (r d:Nat) (t:Tok H E k),(tokE t).ren r d=tokE t) ∧
 (∀ {H:World→Prop} {α:Type} {E:Fl→α→AV} {k:Nat} (r:Nat) (t:Tok H E k),(tokE t).hush r=tokE t) ∧
 (∀ {H:World→Prop} {α:Type} {E:Fl→α→AV} {k:Nat} (t:Tok H E k),(tokE t).cells.length=k) ∧
 (∀ {H:World→Prop} {α:Type} {E:Fl→α→AV} (a b:AV) (t:Tok H E 2),setPart (.agg [a,b]) 0 (tokE t)=some (tokE t)) ∧
 (∀ {H:World→Prop} {α:Type} {E:Fl→α→AV} (a b c d e:AV) (t:Tok H E 5),setPart (.agg [a,b,c,d,e]) 0 (tokE t)=some (tokE t)) ∧
 (∀ {H:World→Prop} {α:Type} {E:Fl→α→AV} (a b c d e f g h i j:AV) (t:Tok H E 10),setPart (.agg [a,b,c,d,e,f,g,h,i,j]) 0 (tokE t)=some (tokE t)) :=
 ⟨@e_TFiber_nrm,@e_TFiber_nrmm,@e_TFiber_als,@e_TFiber_alsm,@e_TFiber_alsc,@e_TFiber_fix,@e_TFiber_fixm,@e_TNetwork_nrm,@e_TNetwork_nrmm,@e_TNetwork_als,@e_TNetwork_alsm,@e_TNetwork_alsc,@e_TNetwork_fix,@e_TNetwork_fixm,@e_TRoute_nrm,@e_TRoute_nrmm,@e_TRoute_als,@e_TRoute_alsm,@e_TRoute_alsc,@e_TRoute_fix,@e_TRoute_fixm,@e_TBlock_nrm,@e_TBlock_nrmm,@e_TBlock_als,@e_TBlock_alsm,@e_TBlock_alsc,@e_TBlock_fix,@e_TBlock_fixm,@e_TLight_nrm,@e_TLight_nrmm,@e_TLight_als,@e_TLight_alsm,@e_TLight_alsc,@e_TLight_fix,@e_TLight_fixm,@e_TPlan_nrm,@e_TPlan_nrmm,@e_TPlan_als,@e_TPlan_alsm,@e_TPlan_alsc,@e_TPlan_fix,@e_TPlan_fixm,@e_TRestoration_nrm,@e_TRestoration_nrmm,@e_TRestoration_als,@e_TRestoration_alsm,@e_TRestoration_alsc,@e_TRestoration_fix,@e_TRestoration_fixm,@e_Li_nrm,@e_Li_nrmm,@e_Li_als,@e_Li_alsm,@e_Li_alsc,@e_Li_fix,@e_Li_fixm,@tokE_als,@tokE_nrm,@tokE_alsm,@tokE_alsL,@tokE_width,@tokE_isAgg,@tokE_ments,@tokE_part,@tokE_lift,@tokE_snp,@tokE_set2,@tokE_rg,@tokE_ren,@tokE_hush,@tokE_cells,@tokE_setB,@tokE_setE,@tokE_setJ⟩
theorem VF1:(∀ (f:Fl) (x:TFiber),(e_TFiber f x).fix=e_TFiber f.fix x) ∧
 (∀ (f:Fl) (xs:List TFiber),(xs.map (e_TFiber f)).map AV.fix=xs.map (e_TFiber f.fix)) ∧
 (∀ (f:Fl) (x:TNetwork),(e_TNetwork f x).fix=e_TNetwork f.fix x) ∧
 (∀ (f:Fl) (xs:List TNetwork),(xs.map (e_TNetwork f)).map AV.fix=xs.map (e_TNetwork f.fix)) ∧
 (∀ (f:Fl) (x:TRoute),(e_TRoute f x).fix=e_TRoute f.fix x) ∧
 (∀ (f:Fl) (xs:List TRoute),(xs.map (e_TRoute f)).map AV.fix=xs.map (e_TRoute f.fix)) ∧
 (∀ (f:Fl) (x:TBlock),(e_TBlock f x).fix=e_TBlock f.fix x) ∧
 (∀ (f:Fl) (xs:List TBlock),(xs.map (e_TBlock f)).map AV.fix=xs.map (e_TBlock f.fix)) ∧
 (∀ (f:Fl) (x:TLight),(e_TLight f x).fix=e_TLight f.fix x) ∧
 (∀ (f:Fl) (xs:List TLight),(xs.map (e_TLight f)).map AV.fix=xs.map (e_TLight f.fix)) ∧
 (∀ (f:Fl) (x:TPlan),(e_TPlan f x).fix=e_TPlan f.fix x) ∧
 (∀ (f:Fl) (xs:List TPlan),(xs.map (e_TPlan f)).map AV.fix=xs.map (e_TPlan f.fix)) ∧
 (∀ (f:Fl) (x:TRestoration),(e_TRestoration f x).fix=e_TRestoration f.fix x) ∧
 (∀ (f:Fl) (xs:List TRestoration),(xs.map (e_TRestoration f)).map AV.fix=xs.map (e_TRestoration f.fix)) ∧
 (∀ (f:Fl) (x:List Int),(e_Li f x).fix=e_Li f.fix x) ∧
 (∀ (f:Fl) (xs:List (List Int)),(xs.map (e_Li f)).map AV.fix=xs.map (e_Li f.fix)) :=
 ⟨@e_TFiber_fix,@e_TFiber_fixm,@e_TNetwork_fix,@e_TNetwork_fixm,@e_TRoute_fix,@e_TRoute_fixm,@e_TBlock_fix,@e_TBlock_fixm,@e_TLight_fix,@e_TLight_fixm,@e_TPlan_fix,@e_TPlan_fixm,@e_TRestoration_fix,@e_TRestoration_fixm,@e_Li_fix,@e_Li_fixm⟩
theorem VZ1:(∀ (x:TFiber),(e_TFiber .o x).fz=true) ∧
 (∀ (xs:List TFiber),fzL (xs.map (e_TFiber .o))=true) ∧
 (∀ (x:TFiber),(e_TFiber .u x).ouB=true) ∧
 (∀ (xs:List TFiber),ouBL (xs.map (e_TFiber .u))=true) ∧
 (∀ (x:TNetwork),(e_TNetwork .o x).fz=true) ∧
 (∀ (xs:List TNetwork),fzL (xs.map (e_TNetwork .o))=true) ∧
 (∀ (x:TNetwork),(e_TNetwork .u x).ouB=true) ∧
 (∀ (xs:List TNetwork),ouBL (xs.map (e_TNetwork .u))=true) ∧
 (∀ (x:TRoute),(e_TRoute .o x).fz=true) ∧
 (∀ (xs:List TRoute),fzL (xs.map (e_TRoute .o))=true) ∧
 (∀ (x:TRoute),(e_TRoute .u x).ouB=true) ∧
 (∀ (xs:List TRoute),ouBL (xs.map (e_TRoute .u))=true) ∧
 (∀ (x:TBlock),(e_TBlock .o x).fz=true) ∧
 (∀ (xs:List TBlock),fzL (xs.map (e_TBlock .o))=true) ∧
 (∀ (x:TBlock),(e_TBlock .u x).ouB=true) ∧
 (∀ (xs:List TBlock),ouBL (xs.map (e_TBlock .u))=true) ∧
 (∀ (x:TLight),(e_TLight .o x).fz=true) ∧
 (∀ (xs:List TLight),fzL (xs.map (e_TLight .o))=true) ∧
 (∀ (x:TLight),(e_TLight .u x).ouB=true) ∧
 (∀ (xs:List TLight),ouBL (xs.map (e_TLight .u))=true) ∧
 (∀ (x:TPlan),(e_TPlan .o x).fz=true) ∧
 (∀ (xs:List TPlan),fzL (xs.map (e_TPlan .o))=true) ∧
 (∀ (x:TPlan),(e_TPlan .u x).ouB=true) ∧
 (∀ (xs:List TPlan),ouBL (xs.map (e_TPlan .u))=true) ∧
 (∀ (x:TRestoration),(e_TRestoration .o x).fz=true) ∧
 (∀ (xs:List TRestoration),fzL (xs.map (e_TRestoration .o))=true) ∧
 (∀ (x:TRestoration),(e_TRestoration .u x).ouB=true) ∧
 (∀ (xs:List TRestoration),ouBL (xs.map (e_TRestoration .u))=true) ∧
 (∀ (x:List Int),(e_Li .o x).fz=true) ∧
 (∀ (xs:List (List Int)),fzL (xs.map (e_Li .o))=true) ∧
 (∀ (x:List Int),(e_Li .u x).ouB=true) ∧
 (∀ (xs:List (List Int)),ouBL (xs.map (e_Li .u))=true) :=
 ⟨@e_TFiber_fz,@e_TFiber_fzm,@e_TFiber_ou,@e_TFiber_oum,@e_TNetwork_fz,@e_TNetwork_fzm,@e_TNetwork_ou,@e_TNetwork_oum,@e_TRoute_fz,@e_TRoute_fzm,@e_TRoute_ou,@e_TRoute_oum,@e_TBlock_fz,@e_TBlock_fzm,@e_TBlock_ou,@e_TBlock_oum,@e_TLight_fz,@e_TLight_fzm,@e_TLight_ou,@e_TLight_oum,@e_TPlan_fz,@e_TPlan_fzm,@e_TPlan_ou,@e_TPlan_oum,@e_TRestoration_fz,@e_TRestoration_fzm,@e_TRestoration_ou,@e_TRestoration_oum,@e_Li_fz,@e_Li_fzm,@e_Li_ou,@e_Li_oum⟩
theorem VE1:e_TFiber .o=e_TFiber .u∧e_TFiber .m=e_TFiber .u∧e_TFiber .s=e_TFiber .u∧e_TBlock .o=e_TBlock .u∧e_TBlock .m=e_TBlock .u∧e_TBlock .s=e_TBlock .u:=⟨rfl,rfl,rfl,rfl,rfl,rfl⟩
theorem Zr {α:Type} (n:Nat) (a:α):(List.replicate n a).length=n:=List.length_replicate
theorem ZA {A B:Prop} (a:A) (b:B):A∧B:=⟨a,b⟩
theorem ZF {A:Prop} (a:A) {P Q:Prop} (k:Q) (e:A→P=Q:=by intro a; simp only [VS1,VS2,VS3,VS4,VS5,VS6,VT1,VT2,finM_ret,finM_nrm,decide_true,decide_false,List.nodup_nil,List.nodup_cons,oks_p,oks_m,oks_h,ne_eq,not_false_eq_true,Int.reduceEq,Int.reduceNe,true_and,false_and,Nat.reduceSub,Nat.reduceMul,↓reduceIte,reduceCtorEq,Nat.reduceEqDiff,Nat.reduceAdd,Nat.reduceLeDiff,Int.reduceLE,a]; exact Eq.refl _):P:=(e a).mpr k
theorem ZG {P Q:Prop} (k:Q) (e:P=Q:=by simp only [VA,VF1,↓reduceIte,Nat.reduceEqDiff,Nat.reduceAdd,Nat.reduceMul,Nat.reduceSub,Nat.reduceLeDiff]; exact Eq.refl _):P:=e.mpr k
theorem ZL {A:Prop} (a:A) {B:Prop} (b:B) {P:Prop} (e:A→B→P:=by intro a b; (try simp only [VS1,VS2,VS3,VS4,VS5,VS6,VT1,VT2,finM_ret,finM_nrm,decide_true,decide_false,List.nodup_nil,List.nodup_cons,oks_p,oks_m,oks_h,ne_eq,not_false_eq_true,Int.reduceEq,Int.reduceNe,true_and,false_and,Nat.reduceSub,Nat.reduceMul,↓reduceIte,reduceCtorEq,Nat.reduceEqDiff,Nat.reduceAdd,Nat.reduceLeDiff,Int.reduceLE,a]); all_goals first | (simp [qL,qJ,qJ0,qS,qX,qR,qM,Shp,sub,tupd,finM_ret,finM_nrm,VS1,VS2,VS3,VS4,VS5,VS6,VT1,VT2,b]; done) | simp [qL,qJ,qJ0,qS,qX,qR,qM,Shp,sub,tupd,finM_ret,finM_nrm,VS1,VS2,VS3,VS4,VS5,VS6,VT1,VT2,VE1,b]):P:=e a b
theorem ZK {B:Prop} (b:B) {P:Prop} (e:B→P:=by intro b; simp [qL,qJ,qJ0,qS,qX,qR,qM,Shp,sub,tupd,finM_ret,finM_nrm,VS1,VS2,VS3,VS4,VS5,VS6,VT1,VT2,b]):P:=e b
theorem ZS {A:Prop} (a:A) {W:Prop} (w:W) {ok:Oks} {ρ:Nat→Option Row} {d f:Nat} {args:List AV} {K:AV→List (Nat×Row)→Prop} {v:Value} (hk:K (.sc v) [])
 (e:A→W→ok.p f (args.map (snp ρ 4)) (.sc v):=by intro a w; simp only [VS1,VS2,VS3,VS4,VS5,VS6,VT1,VT2,finM_ret,finM_nrm,decide_true,decide_false,List.nodup_nil,List.nodup_cons,oks_p,oks_m,oks_h,ne_eq,not_false_eq_true,Int.reduceEq,Int.reduceNe,true_and,false_and,Nat.reduceSub,Nat.reduceMul,↓reduceIte,reduceCtorEq,Nat.reduceEqDiff,Nat.reduceAdd,Nat.reduceLeDiff,Int.reduceLE,a]; exact w):callA ok ρ d f args K:=call_s (e a w) hk
theorem ZU {A:Prop} (a:A) {W:Prop} (w:W) {ok:Oks} {ρ:Nat→Option Row} {d f:Nat} {args:List AV} {K:AV→List (Nat×Row)→Prop} {res:AV} (hk:K (adopt 4 d res).1 (adopt 4 d res).2.1)
 (e:A→W→ok.p f (args.map (snp ρ 4)) res:=by intro a w; simp only [VS1,VS2,VS3,VS4,VS5,VS6,VT1,VT2,finM_ret,finM_nrm,decide_true,decide_false,List.nodup_nil,List.nodup_cons,oks_p,oks_m,oks_h,ne_eq,not_false_eq_true,Int.reduceEq,Int.reduceNe,true_and,false_and,Nat.reduceSub,Nat.reduceMul,↓reduceIte,reduceCtorEq,Nat.reduceEqDiff,Nat.reduceAdd,Nat.reduceLeDiff,Int.reduceLE,a]; exact w) (hu:res.allU:=by simp [AV.allU,allUL,allUL_iff,VT1,VT2]) (hn:∀ p∈(adopt 4 d res).2.1,ρ p.1=none∧p.1 < 1000000000:=by simp only [VS1,VS2,VS3,VS4,VS5,VS6,VT1,VT2,finM_ret,finM_nrm,decide_true,decide_false,List.nodup_nil,List.nodup_cons,oks_p,oks_m,oks_h,ne_eq,not_false_eq_true,Int.reduceEq,Int.reduceNe,true_and,false_and,Nat.reduceSub,Nat.reduceMul,↓reduceIte,reduceCtorEq,Nat.reduceEqDiff,Nat.reduceAdd,Nat.reduceLeDiff,Int.reduceLE,Nat.reduceLT]):callA ok ρ d f args K:=call_u (e a w) hu hn hk
theorem ZQ {P:Prop} (e:P:=by simp [VS1,VS2,VS3,VS4,VS5,VS6,VT1,VT2]):P:=e
theorem ZW {A:Prop} (a:A) {W:Prop} (w:W) {ok:Oks} {ρ:Nat→Option Row} {d f:Nat} {args:List AV} {rs:List Nat} {K:AV→List (Nat×Row)→Prop} {res:AV} {outs:List (Nat×Row)}
 (e:A→W→ok.m f (args.map (AV.rg (cnm rs))) (rs.map (rowIn ρ rs)) res outs:=by intro a w; simp only [VS1,VS2,VS3,VS4,VS5,VS6,VT1,VT2,finM_ret,finM_nrm,decide_true,decide_false,List.nodup_nil,List.nodup_cons,oks_p,oks_m,oks_h,ne_eq,not_false_eq_true,Int.reduceEq,Int.reduceNe,true_and,false_and,Nat.reduceSub,Nat.reduceMul,↓reduceIte,reduceCtorEq,Nat.reduceEqDiff,Nat.reduceAdd,Nat.reduceLeDiff,Int.reduceLE,a]; first | exact w | (simp only [VS1,VS2,VS3,VS4,VS5,VS6,VT1,VT2,finM_ret,finM_nrm,decide_true,decide_false,List.nodup_nil,List.nodup_cons,oks_p,oks_m,oks_h,ne_eq,not_false_eq_true,Int.reduceEq,Int.reduceNe,true_and,false_and,Nat.reduceSub,Nat.reduceMul,↓reduceIte,reduceCtorEq,Nat.reduceEqDiff,Nat.reduceAdd,Nat.reduceLeDiff,Int.reduceLE,a] at w; exact w))
 (h1:rs.Nodup∧(∀ r∈rs,isLive (ρ r))∧(∀ r∈rs,∀ q∈oments (ρ r),q∈rs)∧(∀ r∈mentsL args,r∈rs):=by simp [VS1,VS2,VS3,VS4,VS5,VS6,VT1,VT2])
 (h2:(outs.map fun p=>bkn d rs p.1).Nodup∧(∀ p∈outs,1000000000≤p.1→p.1 - 1000000000 < rs.length)∧(∀ p∈outs,p.1 < 1000000000→ρ (bkn d rs p.1)=none∧bkn d rs p.1 < 1000000000))
 (hk:K (res.rg (bkn d rs)) (gone rs++outs.map (rowBk d rs))):callM ok ρ d f args rs K:=call_m (e a w) h1 h2 hk
def S_s (aZ0:List ByteArray) (v:Int×Int):St:=⟨[(0,.lst .o 1 (aZ0.map AV.z)),(1,.i v.1),(5,.i v.2)],[]⟩
def SX_s (v:Int):St:=⟨[(1,.i v)],[]⟩
theorem w_s (aZ0:List ByteArray) (sZ2:Int×Int) (o:(Int×Int) ⊕ (Int ⊕ Int)) (h:M_s aZ0 sZ2=some o):AWP (OkS Tryz.prog) A85L1 (qL [0,1,5] [] (S_s aZ0) (qS (qX 0 [1] [] (SX_s)) (qR V85 (fun r=>.i r))) o) (S_s aZ0 sZ2):=by
 unfold M_s at h
 simp only [ZC,S_s,A85L1]
 obtain ⟨cZ3,h⟩ | ⟨cZ3,h⟩:=cond_s h
 · obtain ⟨yZ4,hyZ4,h⟩:=bind_s h
   obtain ⟨hyZ4a,hyZ4b⟩:=geti_s hyZ4
   obtain ⟨cZ5,h⟩ | ⟨cZ5,h⟩:=cond_s h
   · cases h
     exact ZL (ZA cZ3 (ZA hyZ4a (ZA hyZ4b cZ5))) @V85.eq_1
   · cases h
     exact ZL (ZA cZ3 (ZA hyZ4a (ZA hyZ4b cZ5))) (ZA @S_s.eq_1 @SX_s.eq_1)
 · cases h
   exact ZL cZ3 (ZA @S_s.eq_1 @SX_s.eq_1)
theorem w_dr (aZ0:List ByteArray) (leftZ0:Int) {r:Int} (h:M_dr aZ0 leftZ0=some r):Ok Tryz.prog 85 [.lst .o 1 (aZ0.map AV.z),.i leftZ0] ((fun r=>.i r) r):=by
 refine ok_of_body hmix m85 rfl ?_
 unfold M_dr at h
 simp only [ZC,A85,V85,body_eq]
 obtain ⟨cZ1,h⟩ | ⟨cZ1,h⟩:=cond_s h
 · cases h
   exact ZL cZ1 @V85.eq_1
 · obtain ⟨oZ6,hoZ6,h⟩:=bind_s h
   try refine ZF cZ1 ?_
   refine join_rule (o:=oZ6) (blk_rule sideR (loop_rule (w_s aZ0) hoZ6 ?_)) (fun vZ7 hv=>?_) (fun xZ8 hv e τ hne hq=>?_)
   · exact ZK (ZA @S_s.eq_1 @SX_s.eq_1)
   · subst hv
     simp only [] at h
     simp only [ZC,SX_s,A85R2]
     cases h
     exact ZL cZ1 @V85.eq_1
   · subst hv
     simp only [] at h
     obtain ⟨rfl,qZ9⟩:=hq
     cases h
     exact qZ9
theorem w_ds (aZ0:List TFiber) (leftZ0:Int) {r:Int} (h:M_ds aZ0 leftZ0=some r):Ok Tryz.prog 86 [.lst .o 4 (aZ0.map (e_TFiber .o)),.i leftZ0] ((fun r=>.i r) r):=by
 refine ok_of_body hmix m86 rfl ?_
 unfold M_ds at h
 simp only [ZC,A86,V86,body_eq]
 obtain ⟨cZ1,h⟩ | ⟨cZ1,h⟩:=cond_s h
 · cases h
   exact ZL cZ1 @V86.eq_1
 · cases h
   exact ZL cZ1 @V86.eq_1
theorem w_dt (aZ0:TNetwork) (leftZ0:Int) {r:Int} (h:M_dt aZ0 leftZ0=some r):Ok Tryz.prog 34 [.agg [.lst .o 1 (aZ0.Nodes.map AV.z),.lst .o 4 (aZ0.Fibers.map (e_TFiber .o))],.i leftZ0] ((fun r=>.i r) r):=by
 refine ok_of_body hmix m34 rfl ?_
 unfold M_dt at h
 simp only [ZC,A34,V34,body_eq]
 obtain ⟨rZ1,hrZ1,h⟩:=bind_s h
 refine ZF trivial ?_
 refine ZS trivial (w_dr _ _ hrZ1) ?_
 refine ZG ?_
 obtain ⟨cZ2,h⟩ | ⟨cZ2,h⟩:=cond_s h
 · cases h
   exact ZL cZ2 @V34.eq_1
 · obtain ⟨rZ3,hrZ3,h⟩:=bind_s h
   refine ZF cZ2 ?_
   refine ZS cZ2 (w_ds _ _ hrZ3) ?_
   refine ZG ?_
   obtain ⟨cZ4,h⟩ | ⟨cZ4,h⟩:=cond_s h
   · cases h
     exact ZL (ZA cZ2 cZ4) @V34.eq_1
   · cases h
     exact ZL (ZA cZ2 cZ4) @V34.eq_1
theorem w_cg (aZ0:List Int) (leftZ0:Int) {r:Int} (h:M_cg aZ0 leftZ0=some r):Ok Tryz.prog 60 [.lst .o 1 (aZ0.map AV.i),.i leftZ0] ((fun r=>.i r) r):=by
 refine ok_of_body hmix m60 rfl ?_
 unfold M_cg at h
 simp only [ZC,A60,V60,body_eq]
 obtain ⟨cZ1,h⟩ | ⟨cZ1,h⟩:=cond_s h
 · cases h
   exact ZL cZ1 @V60.eq_1
 · cases h
   exact ZL cZ1 @V60.eq_1
theorem w_du (aZ0:TRoute) (leftZ0:Int) {r:Int} (h:M_du aZ0 leftZ0=some r):Ok Tryz.prog 147 [.agg [.i aZ0.Start,.lst .o 1 (aZ0.Fibers.map AV.i)],.i leftZ0] ((fun r=>.i r) r):=by
 refine ok_of_body hmix m147 rfl ?_
 unfold M_du at h
 simp only [ZC,A147,V147,body_eq]
 obtain ⟨rZ1,hrZ1,h⟩:=bind_s h
 refine ZF trivial ?_
 refine ZS trivial (w_cg _ _ hrZ1) ?_
 refine ZG ?_
 obtain ⟨cZ2,h⟩ | ⟨cZ2,h⟩:=cond_s h
 · cases h
   exact ZL cZ2 @V147.eq_1
 · cases h
   exact ZL cZ2 @V147.eq_1
theorem w_dv (aZ0:TLight) (leftZ0:Int) {r:Int} (h:M_dv aZ0 leftZ0=some r):Ok Tryz.prog 124 [.agg [.i aZ0.Id,.i aZ0.Route.Start,.lst .o 1 (aZ0.Route.Fibers.map AV.i),.i aZ0.Block.First,.i aZ0.Block.Count],.i leftZ0] ((fun r=>.i r) r):=by
 refine ok_of_body hmix m124 rfl ?_
 unfold M_dv at h
 simp only [ZC,A124,V124,body_eq]
 obtain ⟨rZ1,hrZ1,h⟩:=bind_s h
 refine ZF trivial ?_
 refine ZS trivial (w_du _ _ hrZ1) ?_
 refine ZG ?_
 obtain ⟨cZ2,h⟩ | ⟨cZ2,h⟩:=cond_s h
 · cases h
   exact ZL cZ2 @V124.eq_1
 · cases h
   exact ZL cZ2 @V124.eq_1
def S_t (aZ0:List TLight) (v:Int×Int):St:=⟨[(0,.lst .o 5 (aZ0.map (e_TLight .o))),(1,.i v.1),(5,.i v.2)],[]⟩
def SX_t (v:Int):St:=⟨[(1,.i v)],[]⟩
theorem w_t (aZ0:List TLight) (sZ2:Int×Int) (o:(Int×Int) ⊕ (Int ⊕ Int)) (h:M_t aZ0 sZ2=some o):AWP (OkS Tryz.prog) A59L1 (qL [0,1,5] [] (S_t aZ0) (qS (qX 0 [1] [] (SX_t)) (qR V59 (fun r=>.i r))) o) (S_t aZ0 sZ2):=by
 unfold M_t at h
 simp only [ZC,S_t,A59L1]
 obtain ⟨cZ3,h⟩ | ⟨cZ3,h⟩:=cond_s h
 · obtain ⟨yZ4,hyZ4,h⟩:=bind_s h
   obtain ⟨hyZ4a,hyZ4b⟩:=geti_s hyZ4
   obtain ⟨rZ5,hrZ5,h⟩:=bind_s h
   refine ZF (ZA cZ3 (ZA hyZ4a hyZ4b)) ?_
   refine ZS (ZA cZ3 (ZA hyZ4a hyZ4b)) (w_dv _ _ hrZ5) ?_
   refine ZG ?_
   obtain ⟨cZ6,h⟩ | ⟨cZ6,h⟩:=cond_s h
   · cases h
     exact ZL (ZA cZ3 (ZA hyZ4a (ZA hyZ4b cZ6))) @V59.eq_1
   · cases h
     exact ZL (ZA cZ3 (ZA hyZ4a (ZA hyZ4b cZ6))) (ZA @S_t.eq_1 @SX_t.eq_1)
 · cases h
   exact ZL cZ3 (ZA @S_t.eq_1 @SX_t.eq_1)
theorem w_ch (aZ0:List TLight) (leftZ0:Int) {r:Int} (h:M_ch aZ0 leftZ0=some r):Ok Tryz.prog 59 [.lst .o 5 (aZ0.map (e_TLight .o)),.i leftZ0] ((fun r=>.i r) r):=by
 refine ok_of_body hmix m59 rfl ?_
 unfold M_ch at h
 simp only [ZC,A59,V59,body_eq]
 obtain ⟨cZ1,h⟩ | ⟨cZ1,h⟩:=cond_s h
 · cases h
   exact ZL cZ1 @V59.eq_1
 · obtain ⟨oZ7,hoZ7,h⟩:=bind_s h
   try refine ZF cZ1 ?_
   refine join_rule (o:=oZ7) (blk_rule sideR (loop_rule (w_t aZ0) hoZ7 ?_)) (fun vZ8 hv=>?_) (fun xZ9 hv e τ hne hq=>?_)
   · exact ZK (ZA @S_t.eq_1 @SX_t.eq_1)
   · subst hv
     simp only [] at h
     simp only [ZC,SX_t,A59R2]
     cases h
     exact ZL cZ1 @V59.eq_1
   · subst hv
     simp only [] at h
     obtain ⟨rfl,qZ10⟩:=hq
     cases h
     exact qZ10
theorem w_dw (aZ0:TPlan) (leftZ0:Int) {r:Int} (h:M_dw aZ0 leftZ0=some r):Ok Tryz.prog 24 [.agg [.lst .o 1 (aZ0.Network.Nodes.map AV.z),.lst .o 4 (aZ0.Network.Fibers.map (e_TFiber .o)),.lst .o 5 (aZ0.Lights.map (e_TLight .o))],.i leftZ0] ((fun r=>.i r) r):=by
 refine ok_of_body hmix m24 rfl ?_
 unfold M_dw at h
 simp only [ZC,A24,V24,body_eq]
 obtain ⟨rZ1,hrZ1,h⟩:=bind_s h
 refine ZF trivial ?_
 refine ZS trivial (w_dt _ _ hrZ1) ?_
 refine ZG ?_
 obtain ⟨cZ2,h⟩ | ⟨cZ2,h⟩:=cond_s h
 · cases h
   exact ZL cZ2 @V24.eq_1
 · obtain ⟨rZ3,hrZ3,h⟩:=bind_s h
   refine ZF cZ2 ?_
   refine ZS cZ2 (w_ch _ _ hrZ3) ?_
   refine ZG ?_
   obtain ⟨cZ4,h⟩ | ⟨cZ4,h⟩:=cond_s h
   · cases h
     exact ZL (ZA cZ2 cZ4) @V24.eq_1
   · cases h
     exact ZL (ZA cZ2 cZ4) @V24.eq_1
theorem w_dx (aZ0:TRestoration) (leftZ0:Int) {r:Int} (h:M_dx aZ0 leftZ0=some r):Ok Tryz.prog 13 [.agg [.lst .o 1 (aZ0.Plan.Network.Nodes.map AV.z),.lst .o 4 (aZ0.Plan.Network.Fibers.map (e_TFiber .o)),.lst .o 5 (aZ0.Plan.Lights.map (e_TLight .o)),.lst .o 5 (aZ0.Home.map (e_TLight .o)),.lst .o 1 (aZ0.Down.map AV.i)],.i leftZ0] ((fun r=>.i r) r):=by
 refine ok_of_body hmix m13 rfl ?_
 unfold M_dx at h
 simp only [ZC,A13,V13,body_eq]
 obtain ⟨rZ1,hrZ1,h⟩:=bind_s h
 refine ZF trivial ?_
 refine ZS trivial (w_dw _ _ hrZ1) ?_
 refine ZG ?_
 obtain ⟨cZ2,h⟩ | ⟨cZ2,h⟩:=cond_s h
 · cases h
   exact ZL cZ2 @V13.eq_1
 · obtain ⟨rZ3,hrZ3,h⟩:=bind_s h
   refine ZF cZ2 ?_
   refine ZS cZ2 (w_ch _ _ hrZ3) ?_
   refine ZG ?_
   obtain ⟨cZ4,h⟩ | ⟨cZ4,h⟩:=cond_s h
   · cases h
     exact ZL (ZA cZ2 cZ4) @V13.eq_1
   · obtain ⟨rZ5,hrZ5,h⟩:=bind_s h
     refine ZF (ZA cZ2 cZ4) ?_
     refine ZS (ZA cZ2 cZ4) (w_cg _ _ hrZ5) ?_
     refine ZG ?_
     obtain ⟨cZ6,h⟩ | ⟨cZ6,h⟩:=cond_s h
     · cases h
       exact ZL (ZA cZ2 (ZA cZ4 cZ6)) @V13.eq_1
     · cases h
       exact ZL (ZA cZ2 (ZA cZ4 cZ6)) @V13.eq_1
def S_u (aZ0:List ByteArray) (v:Int×List ByteArray):St:=⟨[(0,.lst .o 1 (aZ0.map AV.z)),(3,.sl 3 0 v.2.length),(4,.i v.1)],[(3,.arr 1 (v.2.map AV.z))]⟩
def SX_u (v:List ByteArray):St:=⟨[(3,.sl 3 0 v.length)],[(3,.arr 1 (v.map AV.z))]⟩
theorem w_u (aZ0:List ByteArray) (sZ4:Int×List ByteArray) (o:(Int×List ByteArray) ⊕ (List ByteArray)) (h:M_u aZ0 sZ4=some o):AWP (OkS Tryz.prog) A91L1 (qL [0,3,4] [3] (S_u aZ0) (qX 0 [3] [3] (SX_u)) o) (S_u aZ0 sZ4):=by
 unfold M_u at h
 simp only [ZC,S_u,A91L1]
 obtain ⟨cZ5,h⟩ | ⟨cZ5,h⟩:=cond_s h
 · obtain ⟨yZ6,hyZ6,h⟩:=bind_s h
   obtain ⟨hyZ6a,hyZ6b⟩:=geti_s hyZ6
   obtain ⟨kZ7,hkZ7,h⟩:=bind_s h
   obtain ⟨hkZ7a,hkZ7b⟩:=grd_s hkZ7
   obtain ⟨yZ8,hyZ8,h⟩:=bind_s h
   obtain ⟨lZ9,hlZ9,h⟩:=bnd_s h
   have eZ10:(sZ4.2.map AV.z).set (Int.toNat sZ4.1) (.z yZ6)=lZ9.map AV.z:=by rw [← hlZ9,List.map_set]
   cases h
   exact ZL (ZA cZ5 (ZA hyZ6a (ZA hyZ6b (ZA hkZ7a (ZA hkZ7b (ZA hyZ8 eZ10)))))) (ZA @S_u.eq_1 (ZA @SX_u.eq_1 hlZ9.symm))
 · cases h
   exact ZL cZ5 (ZA @S_u.eq_1 @SX_u.eq_1)
theorem w_dy (aZ0:List ByteArray) {r:List ByteArray} (h:M_dy aZ0=some r):Ok Tryz.prog 91 [.lst .o 1 (aZ0.map AV.z)] ((fun r=>.lst .u 1 (r.map AV.z)) r):=by
 refine ok_of_body hmix m91 rfl ?_
 unfold M_dy at h
 simp only [ZC,A91,V91,body_eq]
 obtain ⟨uZ1,huZ1,h⟩:=bind_s h
 obtain ⟨huZ11,huZ12,huZ13,huZ14⟩:=grd_s huZ1
 obtain ⟨lZ2,hlZ2,h⟩:=bnd_s h
 have eZ3:List.replicate (Int.toNat (aZ0.length:Int)) (.z (⟨#[]⟩:ByteArray):AV)=lZ2.map AV.z:=by rw [← hlZ2,List.map_replicate]
 obtain ⟨oZ11,hoZ11,h⟩:=bind_s h
 try refine ZF (ZA huZ11 (ZA huZ12 (ZA huZ13 (ZA huZ14 eZ3)))) ?_
 refine join_rule0 (blk_rule0 (loop_rule (w_u aZ0) hoZ11 ?_)) ?_
 · exact ZK (ZA @S_u.eq_1 (ZA @SX_u.eq_1 (ZA hlZ2.symm @Zr)))
 · simp only [ZC,SX_u,A91R2]
   cases h
   exact ZL (ZA huZ11 (ZA huZ12 (ZA huZ13 (ZA huZ14 eZ3)))) @V91.eq_1
theorem w_db (aZ0:TFiber) {r:TFiber} (h:M_db aZ0=some r):Ok Tryz.prog 150 [.agg [.i aZ0.A,.i aZ0.B,.i aZ0.Length,.i aZ0.Risk]] ((fun r=>.agg [.i r.A,.i r.B,.i r.Length,.i r.Risk]) r):=by
 refine ok_of_body hmix m150 rfl ?_
 unfold M_db at h
 simp only [ZC,A150,V150,body_eq]
 cases h
 exact ZL trivial @V150.eq_1
def S_v (aZ0:List TFiber) (v:Int×List TFiber):St:=⟨[(0,.lst .o 4 (aZ0.map (e_TFiber .o))),(3,.sl 3 0 v.2.length),(4,.i v.1)],[(3,.arr 4 (v.2.map (e_TFiber .u)))]⟩
def SX_v (v:List TFiber):St:=⟨[(3,.sl 3 0 v.length)],[(3,.arr 4 (v.map (e_TFiber .u)))]⟩
theorem w_v (aZ0:List TFiber) (sZ4:Int×List TFiber) (o:(Int×List TFiber) ⊕ (List TFiber)) (h:M_v aZ0 sZ4=some o):AWP (OkS Tryz.prog) A92L1 (qL [0,3,4] [3] (S_v aZ0) (qX 0 [3] [3] (SX_v)) o) (S_v aZ0 sZ4):=by
 unfold M_v at h
 simp only [ZC,S_v,A92L1]
 obtain ⟨cZ5,h⟩ | ⟨cZ5,h⟩:=cond_s h
 · obtain ⟨yZ6,hyZ6,h⟩:=bind_s h
   obtain ⟨hyZ6a,hyZ6b⟩:=geti_s hyZ6
   obtain ⟨rZ7,hrZ7,h⟩:=bind_s h
   refine ZF (ZA cZ5 (ZA hyZ6a hyZ6b)) ?_
   refine ZU (ZA cZ5 (ZA hyZ6a hyZ6b)) (w_db _ hrZ7) ?_
   refine ZG ?_
   obtain ⟨kZ8,hkZ8,h⟩:=bind_s h
   obtain ⟨hkZ8a,hkZ8b⟩:=grd_s hkZ8
   obtain ⟨yZ9,hyZ9,h⟩:=bind_s h
   obtain ⟨lZ10,hlZ10,h⟩:=bnd_s h
   have eZ11:(sZ4.2.map (e_TFiber .u)).set (Int.toNat sZ4.1) (.agg [.i rZ7.A,.i rZ7.B,.i rZ7.Length,.i rZ7.Risk])=lZ10.map (e_TFiber .u):=by rw [← hlZ10,List.map_set]; rfl
   cases h
   exact ZL (ZA cZ5 (ZA hyZ6a (ZA hyZ6b (ZA hkZ8a (ZA hkZ8b (ZA hyZ9 eZ11)))))) (ZA @S_v.eq_1 (ZA @SX_v.eq_1 hlZ10.symm))
 · cases h
   exact ZL cZ5 (ZA @S_v.eq_1 @SX_v.eq_1)
theorem w_dz (aZ0:List TFiber) {r:List TFiber} (h:M_dz aZ0=some r):Ok Tryz.prog 92 [.lst .o 4 (aZ0.map (e_TFiber .o))] ((fun r=>.lst .u 4 (r.map (e_TFiber .u))) r):=by
 refine ok_of_body hmix m92 rfl ?_
 unfold M_dz at h
 simp only [ZC,A92,V92,body_eq]
 obtain ⟨uZ1,huZ1,h⟩:=bind_s h
 obtain ⟨huZ11,huZ12,huZ13,huZ14⟩:=grd_s huZ1
 obtain ⟨lZ2,hlZ2,h⟩:=bnd_s h
 have eZ3:List.replicate (Int.toNat (aZ0.length:Int)) (.agg [.i 0,.i 0,.i 0,.i 0]:AV)=lZ2.map (e_TFiber .u):=by rw [← hlZ2,List.map_replicate]; rfl
 obtain ⟨oZ12,hoZ12,h⟩:=bind_s h
 try refine ZF (ZA huZ11 (ZA huZ12 (ZA huZ13 (ZA huZ14 eZ3)))) ?_
 refine join_rule0 (blk_rule0 (loop_rule (w_v aZ0) hoZ12 ?_)) ?_
 · exact ZK (ZA @S_v.eq_1 (ZA @SX_v.eq_1 (ZA hlZ2.symm @Zr)))
 · simp only [ZC,SX_v,A92R2]
   cases h
   exact ZL (ZA huZ11 (ZA huZ12 (ZA huZ13 (ZA huZ14 eZ3)))) @V92.eq_1
theorem w_ea (aZ0:TNetwork) {r:TNetwork} (h:M_ea aZ0=some r):Ok Tryz.prog 37 [.agg [.lst .o 1 (aZ0.Nodes.map AV.z),.lst .o 4 (aZ0.Fibers.map (e_TFiber .o))]] ((fun r=>.agg [.lst .u 1 (r.Nodes.map AV.z),.lst .u 4 (r.Fibers.map (e_TFiber .u))]) r):=by
 refine ok_of_body hmix m37 rfl ?_
 unfold M_ea at h
 simp only [ZC,A37,V37,body_eq]
 obtain ⟨rZ1,hrZ1,h⟩:=bind_s h
 refine ZF trivial ?_
 refine ZU trivial (w_dy _ hrZ1) ?_
 refine ZG ?_
 obtain ⟨rZ2,hrZ2,h⟩:=bind_s h
 refine ZF trivial ?_
 refine ZU trivial (w_dz _ hrZ2) ?_
 refine ZG ?_
 cases h
 exact ZL trivial @V37.eq_1
def S_w (aZ0:List Int) (v:Int×List Int):St:=⟨[(0,.lst .o 1 (aZ0.map AV.i)),(3,.sl 3 0 v.2.length),(4,.i v.1)],[(3,.arr 1 (v.2.map AV.i))]⟩
def SX_w (v:List Int):St:=⟨[(3,.sl 3 0 v.length)],[(3,.arr 1 (v.map AV.i))]⟩
theorem w_w (aZ0:List Int) (sZ4:Int×List Int) (o:(Int×List Int) ⊕ (List Int)) (h:M_w aZ0 sZ4=some o):AWP (OkS Tryz.prog) A32L1 (qL [0,3,4] [3] (S_w aZ0) (qX 0 [3] [3] (SX_w)) o) (S_w aZ0 sZ4):=by
 unfold M_w at h
 simp only [ZC,S_w,A32L1]
 obtain ⟨cZ5,h⟩ | ⟨cZ5,h⟩:=cond_s h
 · obtain ⟨yZ6,hyZ6,h⟩:=bind_s h
   obtain ⟨hyZ6a,hyZ6b⟩:=geti_s hyZ6
   obtain ⟨kZ7,hkZ7,h⟩:=bind_s h
   obtain ⟨hkZ7a,hkZ7b⟩:=grd_s hkZ7
   obtain ⟨yZ8,hyZ8,h⟩:=bind_s h
   obtain ⟨lZ9,hlZ9,h⟩:=bnd_s h
   have eZ10:(sZ4.2.map AV.i).set (Int.toNat sZ4.1) (.i yZ6)=lZ9.map AV.i:=by rw [← hlZ9,List.map_set]
   cases h
   exact ZL (ZA cZ5 (ZA hyZ6a (ZA hyZ6b (ZA hkZ7a (ZA hkZ7b (ZA hyZ8 eZ10)))))) (ZA @S_w.eq_1 (ZA @SX_w.eq_1 hlZ9.symm))
 · cases h
   exact ZL cZ5 (ZA @S_w.eq_1 @SX_w.eq_1)
theorem w_bj (aZ0:List Int) {r:List Int} (h:M_bj aZ0=some r):Ok Tryz.prog 32 [.lst .o 1 (aZ0.map AV.i)] ((fun r=>.lst .u 1 (r.map AV.i)) r):=by
 refine ok_of_body hmix m32 rfl ?_
 unfold M_bj at h
 simp only [ZC,A32,V32,body_eq]
 obtain ⟨uZ1,huZ1,h⟩:=bind_s h
 obtain ⟨huZ11,huZ12,huZ13,huZ14⟩:=grd_s huZ1
 obtain ⟨lZ2,hlZ2,h⟩:=bnd_s h
 have eZ3:List.replicate (Int.toNat (aZ0.length:Int)) (.i 0:AV)=lZ2.map AV.i:=by rw [← hlZ2,List.map_replicate]
 obtain ⟨oZ11,hoZ11,h⟩:=bind_s h
 try refine ZF (ZA huZ11 (ZA huZ12 (ZA huZ13 (ZA huZ14 eZ3)))) ?_
 refine join_rule0 (blk_rule0 (loop_rule (w_w aZ0) hoZ11 ?_)) ?_
 · exact ZK (ZA @S_w.eq_1 (ZA @SX_w.eq_1 (ZA hlZ2.symm @Zr)))
 · simp only [ZC,SX_w,A32R2]
   cases h
   exact ZL (ZA huZ11 (ZA huZ12 (ZA huZ13 (ZA huZ14 eZ3)))) @V32.eq_1
theorem w_eb (aZ0:TRoute) {r:TRoute} (h:M_eb aZ0=some r):Ok Tryz.prog 151 [.agg [.i aZ0.Start,.lst .o 1 (aZ0.Fibers.map AV.i)]] ((fun r=>.agg [.i r.Start,.lst .u 1 (r.Fibers.map AV.i)]) r):=by
 refine ok_of_body hmix m151 rfl ?_
 unfold M_eb at h
 simp only [ZC,A151,V151,body_eq]
 obtain ⟨rZ1,hrZ1,h⟩:=bind_s h
 refine ZF trivial ?_
 refine ZU trivial (w_bj _ hrZ1) ?_
 refine ZG ?_
 cases h
 exact ZL trivial @V151.eq_1
theorem w_ec (aZ0:TBlock) {r:TBlock} (h:M_ec aZ0=some r):Ok Tryz.prog 152 [.agg [.i aZ0.First,.i aZ0.Count]] ((fun r=>.agg [.i r.First,.i r.Count]) r):=by
 refine ok_of_body hmix m152 rfl ?_
 unfold M_ec at h
 simp only [ZC,A152,V152,body_eq]
 cases h
 exact ZL trivial @V152.eq_1
theorem w_dc (aZ0:TLight) {r:TLight} (h:M_dc aZ0=some r):Ok Tryz.prog 127 [.agg [.i aZ0.Id,.i aZ0.Route.Start,.lst .o 1 (aZ0.Route.Fibers.map AV.i),.i aZ0.Block.First,.i aZ0.Block.Count]] ((fun r=>.agg [.i r.Id,.i r.Route.Start,.lst .u 1 (r.Route.Fibers.map AV.i),.i r.Block.First,.i r.Block.Count]) r):=by
 refine ok_of_body hmix m127 rfl ?_
 unfold M_dc at h
 simp only [ZC,A127,V127,body_eq]
 obtain ⟨rZ1,hrZ1,h⟩:=bind_s h
 refine ZF trivial ?_
 refine ZU trivial (w_eb _ hrZ1) ?_
 refine ZG ?_
 obtain ⟨rZ2,hrZ2,h⟩:=bind_s h
 refine ZF trivial ?_
 refine ZU trivial (w_ec _ hrZ2) ?_
 refine ZG ?_
 cases h
 exact ZL trivial @V127.eq_1
def S_x (aZ0:List TLight) (v:Int×List TLight):St:=⟨[(0,.lst .o 5 (aZ0.map (e_TLight .o))),(3,.sl 3 0 v.2.length),(4,.i v.1)],[(3,.arr 5 (v.2.map (e_TLight .u)))]⟩
def SX_x (v:List TLight):St:=⟨[(3,.sl 3 0 v.length)],[(3,.arr 5 (v.map (e_TLight .u)))]⟩
theorem w_x (aZ0:List TLight) (sZ4:Int×List TLight) (o:(Int×List TLight) ⊕ (List TLight)) (h:M_x aZ0 sZ4=some o):AWP (OkS Tryz.prog) A62L1 (qL [0,3,4] [3] (S_x aZ0) (qX 0 [3] [3] (SX_x)) o) (S_x aZ0 sZ4):=by
 unfold M_x at h
 simp only [ZC,S_x,A62L1]
 obtain ⟨cZ5,h⟩ | ⟨cZ5,h⟩:=cond_s h
 · obtain ⟨yZ6,hyZ6,h⟩:=bind_s h
   obtain ⟨hyZ6a,hyZ6b⟩:=geti_s hyZ6
   obtain ⟨rZ7,hrZ7,h⟩:=bind_s h
   refine ZF (ZA cZ5 (ZA hyZ6a hyZ6b)) ?_
   refine ZU (ZA cZ5 (ZA hyZ6a hyZ6b)) (w_dc _ hrZ7) ?_
   refine ZG ?_
   obtain ⟨kZ8,hkZ8,h⟩:=bind_s h
   obtain ⟨hkZ8a,hkZ8b⟩:=grd_s hkZ8
   obtain ⟨yZ9,hyZ9,h⟩:=bind_s h
   obtain ⟨lZ10,hlZ10,h⟩:=bnd_s h
   have eZ11:(sZ4.2.map (e_TLight .u)).set (Int.toNat sZ4.1) (.agg [.i rZ7.Id,.i rZ7.Route.Start,.lst .u 1 (rZ7.Route.Fibers.map AV.i),.i rZ7.Block.First,.i rZ7.Block.Count])=lZ10.map (e_TLight .u):=by rw [← hlZ10,List.map_set]; rfl
   cases h
   exact ZL (ZA cZ5 (ZA hyZ6a (ZA hyZ6b (ZA hkZ8a (ZA hkZ8b (ZA hyZ9 eZ11)))))) (ZA @S_x.eq_1 (ZA @SX_x.eq_1 hlZ10.symm))
 · cases h
   exact ZL cZ5 (ZA @S_x.eq_1 @SX_x.eq_1)
theorem w_ci (aZ0:List TLight) {r:List TLight} (h:M_ci aZ0=some r):Ok Tryz.prog 62 [.lst .o 5 (aZ0.map (e_TLight .o))] ((fun r=>.lst .u 5 (r.map (e_TLight .u))) r):=by
 refine ok_of_body hmix m62 rfl ?_
 unfold M_ci at h
 simp only [ZC,A62,V62,body_eq]
 obtain ⟨uZ1,huZ1,h⟩:=bind_s h
 obtain ⟨huZ11,huZ12,huZ13,huZ14⟩:=grd_s huZ1
 obtain ⟨lZ2,hlZ2,h⟩:=bnd_s h
 have eZ3:List.replicate (Int.toNat (aZ0.length:Int)) (.agg [.i 0,.i 0,.lst .u 1 [],.i 0,.i 0]:AV)=lZ2.map (e_TLight .u):=by rw [← hlZ2,List.map_replicate]; rfl
 obtain ⟨oZ12,hoZ12,h⟩:=bind_s h
 try refine ZF (ZA huZ11 (ZA huZ12 (ZA huZ13 (ZA huZ14 eZ3)))) ?_
 refine join_rule0 (blk_rule0 (loop_rule (w_x aZ0) hoZ12 ?_)) ?_
 · exact ZK (ZA @S_x.eq_1 (ZA @SX_x.eq_1 (ZA hlZ2.symm @Zr)))
 · simp only [ZC,SX_x,A62R2]
   cases h
   exact ZL (ZA huZ11 (ZA huZ12 (ZA huZ13 (ZA huZ14 eZ3)))) @V62.eq_1
theorem w_ed (aZ0:TPlan) {r:TPlan} (h:M_ed aZ0=some r):Ok Tryz.prog 26 [.agg [.lst .o 1 (aZ0.Network.Nodes.map AV.z),.lst .o 4 (aZ0.Network.Fibers.map (e_TFiber .o)),.lst .o 5 (aZ0.Lights.map (e_TLight .o))]] ((fun r=>.agg [.lst .u 1 (r.Network.Nodes.map AV.z),.lst .u 4 (r.Network.Fibers.map (e_TFiber .u)),.lst .u 5 (r.Lights.map (e_TLight .u))]) r):=by
 refine ok_of_body hmix m26 rfl ?_
 unfold M_ed at h
 simp only [ZC,A26,V26,body_eq]
 obtain ⟨rZ1,hrZ1,h⟩:=bind_s h
 refine ZF trivial ?_
 refine ZU trivial (w_ea _ hrZ1) ?_
 refine ZG ?_
 obtain ⟨rZ2,hrZ2,h⟩:=bind_s h
 refine ZF trivial ?_
 refine ZU trivial (w_ci _ hrZ2) ?_
 refine ZG ?_
 cases h
 exact ZL trivial @V26.eq_1
theorem w_bn (aZ0:TRestoration) {r:TRestoration} (h:M_bn aZ0=some r):Ok Tryz.prog 15 [.agg [.lst .o 1 (aZ0.Plan.Network.Nodes.map AV.z),.lst .o 4 (aZ0.Plan.Network.Fibers.map (e_TFiber .o)),.lst .o 5 (aZ0.Plan.Lights.map (e_TLight .o)),.lst .o 5 (aZ0.Home.map (e_TLight .o)),.lst .o 1 (aZ0.Down.map AV.i)]] ((fun r=>.agg [.lst .u 1 (r.Plan.Network.Nodes.map AV.z),.lst .u 4 (r.Plan.Network.Fibers.map (e_TFiber .u)),.lst .u 5 (r.Plan.Lights.map (e_TLight .u)),.lst .u 5 (r.Home.map (e_TLight .u)),.lst .u 1 (r.Down.map AV.i)]) r):=by
 refine ok_of_body hmix m15 rfl ?_
 unfold M_bn at h
 simp only [ZC,A15,V15,body_eq]
 obtain ⟨rZ1,hrZ1,h⟩:=bind_s h
 refine ZF trivial ?_
 refine ZU trivial (w_ed _ hrZ1) ?_
 refine ZG ?_
 obtain ⟨rZ2,hrZ2,h⟩:=bind_s h
 refine ZF trivial ?_
 refine ZU trivial (w_ci _ hrZ2) ?_
 refine ZG ?_
 obtain ⟨rZ3,hrZ3,h⟩:=bind_s h
 refine ZF trivial ?_
 refine ZU trivial (w_bj _ hrZ3) ?_
 refine ZG ?_
 cases h
 exact ZL trivial @V15.eq_1
theorem w_b (xZ0:Int) (aZ0:Int) (bZ0:Int) {r:Bool} (h:M_b xZ0 aZ0 bZ0=some r):Ok Tryz.prog 178 [.i xZ0,.i aZ0,.i bZ0] ((fun r=>.b r) r):=by
 refine ok_of_body hmix m178 rfl ?_
 unfold M_b at h
 simp only [ZC,A178,V178,body_eq]
 obtain ⟨cZ1,h⟩ | ⟨cZ1,h⟩:=cond_s h
 · cases h
   exact ZL cZ1 @V178.eq_1
 · cases h
   exact ZL cZ1 @V178.eq_1
theorem w_ee (bZ0:Int) {r:Bool} (h:M_ee bZ0=some r):Ok Tryz.prog 224 [.sc (.int .u8 bZ0)] ((fun r=>.b r) r):=by
 refine ok_of_body hmix m224 rfl ?_
 unfold M_ee at h
 simp only [ZC,A224,V224,body_eq]
 obtain ⟨cZ1,h⟩ | ⟨cZ1,h⟩:=cond_s h
 · obtain ⟨cZ2,h⟩ | ⟨cZ2,h⟩:=cond_s h
   · cases h
     exact ZL (ZA cZ1 cZ2) @V224.eq_1
   · obtain ⟨cZ3,h⟩ | ⟨cZ3,h⟩:=cond_s h
     · cases h
       exact ZL (ZA cZ1 (ZA cZ2 cZ3)) @V224.eq_1
     · cases h
       exact ZL (ZA cZ1 (ZA cZ2 cZ3)) @V224.eq_1
 · obtain ⟨cZ4,h⟩ | ⟨cZ4,h⟩:=cond_s h
   · cases h
     exact ZL (ZA cZ1 cZ4) @V224.eq_1
   · cases h
     exact ZL (ZA cZ1 cZ4) @V224.eq_1
def S_y (sZ0:ByteArray) (v:Int):St:=⟨[(0,.z sZ0),(3,.i v)],[]⟩
def SX_y (v:Unit):St:=⟨[],[]⟩
theorem w_y (sZ0:ByteArray) (sZ7:Int) (o:Int ⊕ (Unit ⊕ Bool)) (h:M_y sZ0 sZ7=some o):AWP (OkS Tryz.prog) A187L2 (qL [0,3] [] (S_y sZ0) (qS (qX 0 [] [] (SX_y)) (qR V187 (fun r=>.b r))) o) (S_y sZ0 sZ7):=by
 unfold M_y at h
 simp only [ZC,S_y,A187L2]
 obtain ⟨cZ8,h⟩ | ⟨cZ8,h⟩:=cond_s h
 · obtain ⟨yZ9,hyZ9,h⟩:=bind_s h
   obtain ⟨hyZ9a,hyZ9b⟩:=getz_s hyZ9
   obtain ⟨rZ10,hrZ10,h⟩:=bind_s h
   refine ZF (ZA cZ8 (ZA hyZ9a hyZ9b)) ?_
   refine ZS (ZA cZ8 (ZA hyZ9a hyZ9b)) (w_ee _ hrZ10) ?_
   refine ZG ?_
   obtain ⟨cZ11,h⟩ | ⟨cZ11,h⟩:=cond_s h
   · cases h
     exact ZL (ZA cZ8 (ZA hyZ9a (ZA hyZ9b cZ11))) @V187.eq_1
   · cases h
     exact ZL (ZA cZ8 (ZA hyZ9a (ZA hyZ9b cZ11))) (ZA @S_y.eq_1 @SX_y.eq_1)
 · cases h
   exact ZL cZ8 (ZA @S_y.eq_1 @SX_y.eq_1)
theorem w_ef (sZ0:ByteArray) {r:Bool} (h:M_ef sZ0=some r):Ok Tryz.prog 187 [.z sZ0] ((fun r=>.b r) r):=by
 refine ok_of_body hmix m187 rfl ?_
 unfold M_ef at h
 simp only [ZC,A187,V187,body_eq]
 obtain ⟨oZ5,hoZ5,h⟩:=bind_s h
 try refine ZF trivial ?_
 refine join_rule0 (sh:=(fun v=>⟨[(0,.z sZ0),(17,.b v)],[]⟩)) (s:=oZ5) ?_ ?_
 · replace h:=hoZ5
   obtain ⟨rZ1,hrZ1,h⟩:=bind_s h
   refine ZF trivial ?_
   refine ZS trivial (w_b _ _ _ hrZ1) ?_
   refine ZG ?_
   obtain ⟨cZ2,h⟩ | ⟨cZ2,h⟩:=cond_s h
   · cases h
     exact ZL cZ2 trivial
   · obtain ⟨yZ3,hyZ3,h⟩:=bind_s h
     obtain ⟨hyZ3a,hyZ3b⟩:=getz_s hyZ3
     obtain ⟨cZ4,h⟩ | ⟨cZ4,h⟩:=cond_s h
     · cases h
       exact ZL (ZA cZ2 (ZA hyZ3a (ZA hyZ3b cZ4))) trivial
     · cases h
       exact ZL (ZA cZ2 (ZA hyZ3a (ZA hyZ3b cZ4))) trivial
 · simp only [ZC,A187R1]
   obtain ⟨cZ6,h⟩ | ⟨cZ6,h⟩:=cond_s h
   · cases h
     exact ZL cZ6 @V187.eq_1
   · obtain ⟨oZ12,hoZ12,h⟩:=bind_s h
     try refine ZF cZ6 ?_
     refine join_rule (o:=oZ12) (blk_rule sideR (loop_rule (w_y sZ0) hoZ12 ?_)) (fun vZ13 hv=>?_) (fun xZ14 hv e τ hne hq=>?_)
     · exact ZK (ZA @S_y.eq_1 @SX_y.eq_1)
     · subst hv
       simp only [] at h
       simp only [ZC,SX_y,A187R3]
       cases h
       exact ZL cZ6 @V187.eq_1
     · subst hv
       simp only [] at h
       obtain ⟨rfl,qZ15⟩:=hq
       cases h
       exact qZ15
def S_z (listZ0:List ByteArray) (nameZ0:ByteArray) (v:Int):St:=⟨[(0,.lst .o 1 (listZ0.map AV.z)),(1,.z nameZ0),(5,.i v)],[]⟩
def SX_z (v:Unit):St:=⟨[],[]⟩
theorem w_z (listZ0:List ByteArray) (nameZ0:ByteArray) (sZ1:Int) (o:Int ⊕ (Unit ⊕ Int)) (h:M_z listZ0 nameZ0 sZ1=some o):AWP (OkS Tryz.prog) A188L1 (qL [0,1,5] [] (S_z listZ0 nameZ0) (qS (qX 0 [] [] (SX_z)) (qR V188 (fun r=>.i r))) o) (S_z listZ0 nameZ0 sZ1):=by
 unfold M_z at h
 simp only [ZC,S_z,A188L1]
 obtain ⟨cZ2,h⟩ | ⟨cZ2,h⟩:=cond_s h
 · obtain ⟨yZ3,hyZ3,h⟩:=bind_s h
   obtain ⟨hyZ3a,hyZ3b⟩:=geti_s hyZ3
   obtain ⟨cZ4,h⟩ | ⟨cZ4,h⟩:=cond_s h
   · cases h
     exact ZL (ZA cZ2 (ZA hyZ3a (ZA hyZ3b cZ4))) @V188.eq_1
   · cases h
     exact ZL (ZA cZ2 (ZA hyZ3a (ZA hyZ3b cZ4))) (ZA @S_z.eq_1 @SX_z.eq_1)
 · cases h
   exact ZL cZ2 (ZA @S_z.eq_1 @SX_z.eq_1)
theorem w_eg (listZ0:List ByteArray) (nameZ0:ByteArray) {r:Int} (h:M_eg listZ0 nameZ0=some r):Ok Tryz.prog 188 [.lst .o 1 (listZ0.map AV.z),.z nameZ0] ((fun r=>.i r) r):=by
 refine ok_of_body hmix m188 rfl ?_
 unfold M_eg at h
 simp only [ZC,A188,V188,body_eq]
 obtain ⟨oZ5,hoZ5,h⟩:=bind_s h
 try refine ZF trivial ?_
 refine join_rule (o:=oZ5) (blk_rule sideR (loop_rule (w_z listZ0 nameZ0) hoZ5 ?_)) (fun vZ6 hv=>?_) (fun xZ7 hv e τ hne hq=>?_)
 · exact ZK (ZA @S_z.eq_1 @SX_z.eq_1)
 · subst hv
   simp only [] at h
   simp only [ZC,SX_z,A188R2]
   cases h
   exact ZL trivial @V188.eq_1
 · subst hv
   simp only [] at h
   obtain ⟨rfl,qZ8⟩:=hq
   cases h
   exact qZ8
theorem w_eh (fZ0:TFiber) (nodesZ0:Int) {r:Bool} (h:M_eh fZ0 nodesZ0=some r):Ok Tryz.prog 189 [.agg [.i fZ0.A,.i fZ0.B,.i fZ0.Length,.i fZ0.Risk],.i nodesZ0] ((fun r=>.b r) r):=by
 refine ok_of_body hmix m189 rfl ?_
 unfold M_eh at h
 simp only [ZC,A189,V189,body_eq]
 obtain ⟨rZ1,hrZ1,h⟩:=bind_s h
 refine ZF trivial ?_
 refine ZS trivial (w_b _ _ _ hrZ1) ?_
 refine ZG ?_
 obtain ⟨cZ2,h⟩ | ⟨cZ2,h⟩:=cond_s h
 · obtain ⟨rZ3,hrZ3,h⟩:=bind_s h
   refine ZF cZ2 ?_
   refine ZS cZ2 (w_b _ _ _ hrZ3) ?_
   refine ZG ?_
   obtain ⟨cZ4,h⟩ | ⟨cZ4,h⟩:=cond_s h
   · obtain ⟨rZ5,hrZ5,h⟩:=bind_s h
     refine ZF (ZA cZ2 cZ4) ?_
     refine ZS (ZA cZ2 cZ4) (w_b _ _ _ hrZ5) ?_
     refine ZG ?_
     obtain ⟨cZ6,h⟩ | ⟨cZ6,h⟩:=cond_s h
     · obtain ⟨rZ7,hrZ7,h⟩:=bind_s h
       refine ZF (ZA cZ2 (ZA cZ4 cZ6)) ?_
       refine ZS (ZA cZ2 (ZA cZ4 cZ6)) (w_b _ _ _ hrZ7) ?_
       refine ZG ?_
       cases h
       exact ZL (ZA cZ2 (ZA cZ4 cZ6)) @V189.eq_1
     · cases h
       exact ZL (ZA cZ2 (ZA cZ4 cZ6)) @V189.eq_1
   · cases h
     exact ZL (ZA cZ2 cZ4) @V189.eq_1
 · cases h
   exact ZL cZ2 @V189.eq_1
theorem w_ei (fZ0:TFiber) (gZ0:TFiber) {r:Int} (h:M_ei fZ0 gZ0=some r):Ok Tryz.prog 190 [.agg [.i fZ0.A,.i fZ0.B,.i fZ0.Length,.i fZ0.Risk],.agg [.i gZ0.A,.i gZ0.B,.i gZ0.Length,.i gZ0.Risk]] ((fun r=>.i r) r):=by
 refine ok_of_body hmix m190 rfl ?_
 unfold M_ei at h
 simp only [ZC,A190,V190,body_eq]
 obtain ⟨cZ1,h⟩ | ⟨cZ1,h⟩:=cond_s h
 · cases h
   exact ZL cZ1 @V190.eq_1
 · obtain ⟨cZ2,h⟩ | ⟨cZ2,h⟩:=cond_s h
   · cases h
     exact ZL (ZA cZ1 cZ2) @V190.eq_1
   · obtain ⟨cZ3,h⟩ | ⟨cZ3,h⟩:=cond_s h
     · cases h
       exact ZL (ZA cZ1 (ZA cZ2 cZ3)) @V190.eq_1
     · cases h
       exact ZL (ZA cZ1 (ZA cZ2 cZ3)) @V190.eq_1
def S_aa (nZ0:TNetwork) (v:Int):St:=⟨[(1,.pt 1 0 0),(3,.i v)],[(1,.var (.agg [.lst .o 1 (nZ0.Nodes.map AV.z),.lst .o 4 (nZ0.Fibers.map (e_TFiber .o))]))]⟩
def SX_aa (nZ0:TNetwork) (v:Unit):St:=⟨[(1,.pt 1 0 0)],[(1,.var (.agg [.lst .o 1 (nZ0.Nodes.map AV.z),.lst .o 4 (nZ0.Fibers.map (e_TFiber .o))]))]⟩
theorem w_aa (nZ0:TNetwork) (sZ5:Int) (o:Int ⊕ (Unit ⊕ Bool)) (h:M_aa nZ0 sZ5=some o):AWP (OkS Tryz.prog) A138L3 (qL [1,3] [1] (S_aa nZ0) (qS (qX 0 [1] [1] (SX_aa nZ0)) (qR V138 (fun r=>.b r))) o) (S_aa nZ0 sZ5):=by
 unfold M_aa at h
 simp only [ZC,S_aa,A138L3]
 obtain ⟨cZ6,h⟩ | ⟨cZ6,h⟩:=cond_s h
 · obtain ⟨oZ11,hoZ11,h⟩:=bind_s h
   try refine ZF cZ6 ?_
   refine join_rule0 (sh:=(fun v=>⟨[(1,.pt 1 0 0),(3,.i sZ5),(41,.b v)],[(1,.var (.agg [.lst .o 1 (nZ0.Nodes.map AV.z),.lst .o 4 (nZ0.Fibers.map (e_TFiber .o))]))]⟩)) (s:=oZ11) ?_ ?_
   · replace h:=hoZ11
     obtain ⟨yZ7,hyZ7,h⟩:=bind_s h
     obtain ⟨hyZ7a,hyZ7b⟩:=geti_s hyZ7
     obtain ⟨rZ8,hrZ8,h⟩:=bind_s h
     refine ZF (ZA cZ6 (ZA hyZ7a hyZ7b)) ?_
     refine ZS (ZA cZ6 (ZA hyZ7a hyZ7b)) (w_ef _ hrZ8) ?_
     refine ZG ?_
     obtain ⟨cZ9,h⟩ | ⟨cZ9,h⟩:=cond_s h
     · cases h
       exact ZL (ZA cZ6 (ZA hyZ7a (ZA hyZ7b cZ9))) trivial
     · obtain ⟨rZ10,hrZ10,h⟩:=bind_s h
       refine ZF (ZA cZ6 (ZA hyZ7a (ZA hyZ7b cZ9))) ?_
       refine ZS (ZA cZ6 (ZA hyZ7a (ZA hyZ7b cZ9))) (w_eg _ _ hrZ10) ?_
       refine ZG ?_
       cases h
       exact ZL (ZA cZ6 (ZA hyZ7a (ZA hyZ7b cZ9))) trivial
   · simp only [ZC,A138R2]
     obtain ⟨cZ12,h⟩ | ⟨cZ12,h⟩:=cond_s h
     · cases h
       exact ZL (ZA cZ6 cZ12) @V138.eq_1
     · cases h
       exact ZL (ZA cZ6 cZ12) (ZA @S_aa.eq_1 @SX_aa.eq_1)
 · cases h
   exact ZL cZ6 (ZA @S_aa.eq_1 @SX_aa.eq_1)
def S_ab (nZ0:TNetwork) (v:Int):St:=⟨[(1,.pt 1 0 0),(4,.i v)],[(1,.var (.agg [.lst .o 1 (nZ0.Nodes.map AV.z),.lst .o 4 (nZ0.Fibers.map (e_TFiber .o))]))]⟩
def SX_ab (v:Unit):St:=⟨[],[]⟩
theorem w_ab (nZ0:TNetwork) (sZ16:Int) (o:Int ⊕ (Unit ⊕ Bool)) (h:M_ab nZ0 sZ16=some o):AWP (OkS Tryz.prog) A138L6 (qL [1,4] [1] (S_ab nZ0) (qS (qX 2 [] [] (SX_ab)) (qR V138 (fun r=>.b r))) o) (S_ab nZ0 sZ16):=by
 unfold M_ab at h
 simp only [ZC,S_ab,A138L6]
 obtain ⟨cZ17,h⟩ | ⟨cZ17,h⟩:=cond_s h
 · obtain ⟨oZ24,hoZ24,h⟩:=bind_s h
   try refine ZF cZ17 ?_
   refine join_rule0 (sh:=(fun v=>⟨[(1,.pt 1 0 0),(4,.i sZ16),(77,.b v)],[(1,.var (.agg [.lst .o 1 (nZ0.Nodes.map AV.z),.lst .o 4 (nZ0.Fibers.map (e_TFiber .o))]))]⟩)) (s:=oZ24) ?_ ?_
   · replace h:=hoZ24
     obtain ⟨yZ18,hyZ18,h⟩:=bind_s h
     obtain ⟨hyZ18a,hyZ18b⟩:=geti_s hyZ18
     obtain ⟨rZ19,hrZ19,h⟩:=bind_s h
     refine ZF (ZA cZ17 (ZA hyZ18a hyZ18b)) ?_
     refine ZS (ZA cZ17 (ZA hyZ18a hyZ18b)) (w_eh _ _ hrZ19) ?_
     refine ZG ?_
     obtain ⟨cZ20,h⟩ | ⟨cZ20,h⟩:=cond_s h
     · cases h
       exact ZL (ZA cZ17 (ZA hyZ18a (ZA hyZ18b cZ20))) trivial
     · obtain ⟨cZ21,h⟩ | ⟨cZ21,h⟩:=cond_s h
       · obtain ⟨yZ22,hyZ22,h⟩:=bind_s h
         obtain ⟨hyZ22a,hyZ22b⟩:=geti_s hyZ22
         obtain ⟨rZ23,hrZ23,h⟩:=bind_s h
         refine ZF (ZA cZ17 (ZA hyZ18a (ZA hyZ18b (ZA cZ20 (ZA cZ21 (ZA hyZ22a hyZ22b)))))) ?_
         refine ZS (ZA cZ17 (ZA hyZ18a (ZA hyZ18b (ZA cZ20 (ZA cZ21 (ZA hyZ22a hyZ22b)))))) (w_ei _ _ hrZ23) ?_
         refine ZG ?_
         cases h
         exact ZL (ZA cZ17 (ZA hyZ18a (ZA hyZ18b (ZA cZ20 (ZA cZ21 (ZA hyZ22a hyZ22b)))))) trivial
       · cases h
         exact ZL (ZA cZ17 (ZA hyZ18a (ZA hyZ18b (ZA cZ20 cZ21)))) trivial
   · simp only [ZC,A138R5]
     obtain ⟨cZ25,h⟩ | ⟨cZ25,h⟩:=cond_s h
     · cases h
       exact ZL (ZA cZ17 cZ25) @V138.eq_1
     · cases h
       exact ZL (ZA cZ17 cZ25) (ZA @S_ab.eq_1 @SX_ab.eq_1)
 · cases h
   exact ZL cZ17 (ZA @S_ab.eq_1 @SX_ab.eq_1)
theorem w_cj (nZ0:TNetwork) {r:Bool} (h:M_cj nZ0=some r):Ok Tryz.prog 138 [.agg [.lst .o 1 (nZ0.Nodes.map AV.z),.lst .o 4 (nZ0.Fibers.map (e_TFiber .o))]] ((fun r=>.b r) r):=by
 refine ok_of_body hmix m138 rfl ?_
 unfold M_cj at h
 simp only [ZC,A138,V138,body_eq]
 obtain ⟨oZ3,hoZ3,h⟩:=bind_s h
 try refine ZF trivial ?_
 refine join_rule0 (sh:=(fun v=>⟨[(1,.pt 1 0 0),(15,.b v)],[(1,.var (.agg [.lst .o 1 (nZ0.Nodes.map AV.z),.lst .o 4 (nZ0.Fibers.map (e_TFiber .o))]))]⟩)) (s:=oZ3) ?_ ?_
 · replace h:=hoZ3
   obtain ⟨rZ1,hrZ1,h⟩:=bind_s h
   refine ZF trivial ?_
   refine ZS trivial (w_b _ _ _ hrZ1) ?_
   refine ZG ?_
   obtain ⟨cZ2,h⟩ | ⟨cZ2,h⟩:=cond_s h
   · cases h
     exact ZL cZ2 trivial
   · cases h
     exact ZL cZ2 trivial
 · simp only [ZC,A138R1]
   obtain ⟨cZ4,h⟩ | ⟨cZ4,h⟩:=cond_s h
   · cases h
     exact ZL cZ4 @V138.eq_1
   · obtain ⟨oZ13,hoZ13,h⟩:=bind_s h
     try refine ZF cZ4 ?_
     refine join_rule (o:=oZ13) (blk_rule sideR (loop_rule (w_aa nZ0) hoZ13 ?_)) (fun vZ14 hv=>?_) (fun xZ15 hv e τ hne hq=>?_)
     · exact ZK (ZA @S_aa.eq_1 @SX_aa.eq_1)
     · subst hv
       simp only [] at h
       simp only [ZC,SX_aa,A138R4]
       obtain ⟨oZ26,hoZ26,h⟩:=bind_s h
       try refine ZF cZ4 ?_
       refine join_rule (o:=oZ26) (blk_rule sideR (loop_rule (w_ab nZ0) hoZ26 ?_)) (fun vZ27 hv=>?_) (fun xZ28 hv e τ hne hq=>?_)
       · exact ZK (ZA @S_ab.eq_1 @SX_ab.eq_1)
       · subst hv
         simp only [] at h
         simp only [ZC,SX_ab,A138R7]
         cases h
         exact ZL cZ4 @V138.eq_1
       · subst hv
         simp only [] at h
         obtain ⟨rfl,qZ29⟩:=hq
         cases h
         exact qZ29
     · subst hv
       simp only [] at h
       obtain ⟨rfl,qZ30⟩:=hq
       cases h
       exact qZ30
theorem w_ej (nZ0:TNetwork) (fiberZ0:Int) (nodeZ0:Int) {r:Int} (h:M_ej nZ0 fiberZ0 nodeZ0=some r):Ok Tryz.prog 246 [.agg [.lst .o 1 (nZ0.Nodes.map AV.z),.lst .o 4 (nZ0.Fibers.map (e_TFiber .o))],.i fiberZ0,.i nodeZ0] ((fun r=>.i r) r):=by
 refine ok_of_body hmix m246 rfl ?_
 unfold M_ej at h
 simp only [ZC,A246,V246,body_eq]
 obtain ⟨yZ1,hyZ1,h⟩:=bind_s h
 obtain ⟨hyZ1a,hyZ1b⟩:=geti_s hyZ1
 obtain ⟨cZ2,h⟩ | ⟨cZ2,h⟩:=cond_s h
 · cases h
   exact ZL (ZA hyZ1a (ZA hyZ1b cZ2)) @V246.eq_1
 · obtain ⟨cZ3,h⟩ | ⟨cZ3,h⟩:=cond_s h
   · cases h
     exact ZL (ZA hyZ1a (ZA hyZ1b (ZA cZ2 cZ3))) @V246.eq_1
   · cases h
     exact ZL (ZA hyZ1a (ZA hyZ1b (ZA cZ2 cZ3))) @V246.eq_1
def S_ac (lZ0:List Int) (nZ0:Int) (v:Int):St:=⟨[(0,.lst .o 1 (lZ0.map AV.i)),(1,.i nZ0),(5,.i v)],[]⟩
def SX_ac (v:Unit):St:=⟨[],[]⟩
theorem w_ac (lZ0:List Int) (nZ0:Int) (sZ1:Int) (o:Int ⊕ (Unit ⊕ Bool)) (h:M_ac lZ0 nZ0 sZ1=some o):AWP (OkS Tryz.prog) A144L1 (qL [0,1,5] [] (S_ac lZ0 nZ0) (qS (qX 0 [] [] (SX_ac)) (qR V144 (fun r=>.b r))) o) (S_ac lZ0 nZ0 sZ1):=by
 unfold M_ac at h
 simp only [ZC,S_ac,A144L1]
 obtain ⟨cZ2,h⟩ | ⟨cZ2,h⟩:=cond_s h
 · obtain ⟨yZ3,hyZ3,h⟩:=bind_s h
   obtain ⟨hyZ3a,hyZ3b⟩:=geti_s hyZ3
   obtain ⟨cZ4,h⟩ | ⟨cZ4,h⟩:=cond_s h
   · cases h
     exact ZL (ZA cZ2 (ZA hyZ3a (ZA hyZ3b cZ4))) @V144.eq_1
   · cases h
     exact ZL (ZA cZ2 (ZA hyZ3a (ZA hyZ3b cZ4))) (ZA @S_ac.eq_1 @SX_ac.eq_1)
 · cases h
   exact ZL cZ2 (ZA @S_ac.eq_1 @SX_ac.eq_1)
theorem w_ck (lZ0:List Int) (nZ0:Int) {r:Bool} (h:M_ck lZ0 nZ0=some r):Ok Tryz.prog 144 [.lst .o 1 (lZ0.map AV.i),.i nZ0] ((fun r=>.b r) r):=by
 refine ok_of_body hmix m144 rfl ?_
 unfold M_ck at h
 simp only [ZC,A144,V144,body_eq]
 obtain ⟨oZ5,hoZ5,h⟩:=bind_s h
 try refine ZF trivial ?_
 refine join_rule (o:=oZ5) (blk_rule sideR (loop_rule (w_ac lZ0 nZ0) hoZ5 ?_)) (fun vZ6 hv=>?_) (fun xZ7 hv e τ hne hq=>?_)
 · exact ZK (ZA @S_ac.eq_1 @SX_ac.eq_1)
 · subst hv
   simp only [] at h
   simp only [ZC,SX_ac,A144R2]
   cases h
   exact ZL trivial @V144.eq_1
 · subst hv
   simp only [] at h
   obtain ⟨rfl,qZ8⟩:=hq
   cases h
   exact qZ8
def S_ad (nZ0:TNetwork) (rZ0:TRoute) (v:Int×List Int):St:=⟨[(2,.pt 2 0 0),(3,.pt 3 0 0),(6,.sl 6 0 v.2.length),(7,.i v.1)],[(2,.var (.agg [.lst .o 1 (nZ0.Nodes.map AV.z),.lst .o 4 (nZ0.Fibers.map (e_TFiber .o))])),(3,.var (.agg [.i rZ0.Start,.lst .o 1 (rZ0.Fibers.map AV.i)])),(6,.arr 1 (v.2.map AV.i))]⟩
def SX_ad (v:List Int):St:=⟨[(6,.sl 6 0 v.length)],[(6,.arr 1 (v.map AV.i))]⟩
theorem w_ad (nZ0:TNetwork) (rZ0:TRoute) (sZ8:Int×List Int) (o:(Int×List Int) ⊕ ((List Int) ⊕ (List Int×Bool))) (h:M_ad nZ0 rZ0 sZ8=some o):AWP (OkS Tryz.prog) A220L3 (qL [2,3,6,7] [2,3,6] (S_ad nZ0 rZ0) (qS (qX 0 [6] [6] (SX_ad)) (qR V220 (fun r=>.tup [.lst .u 1 (r.1.map AV.i),.b r.2]))) o) (S_ad nZ0 rZ0 sZ8):=by
 unfold M_ad at h
 simp only [ZC,S_ad,A220L3]
 obtain ⟨cZ9,h⟩ | ⟨cZ9,h⟩:=cond_s h
 · obtain ⟨yZ10,hyZ10,h⟩:=bind_s h
   obtain ⟨hyZ10a,hyZ10b⟩:=geti_s hyZ10
   obtain ⟨rZ11,hrZ11,h⟩:=bind_s h
   refine ZF (ZA cZ9 (ZA hyZ10a hyZ10b)) ?_
   refine ZS (ZA cZ9 (ZA hyZ10a hyZ10b)) (w_b _ _ _ hrZ11) ?_
   refine ZG ?_
   obtain ⟨cZ12,h⟩ | ⟨cZ12,h⟩:=cond_s h
   · cases h
     exact ZL (ZA cZ9 (ZA hyZ10a (ZA hyZ10b cZ12))) @V220.eq_1
   · obtain ⟨kZ13,hkZ13,h⟩:=bind_s h
     obtain ⟨hkZ13a,hkZ13b⟩:=grd_s hkZ13
     obtain ⟨yZ14,hyZ14,h⟩:=bind_s h
     obtain ⟨rZ15,hrZ15,h⟩:=bind_s h
     refine ZF (ZA cZ9 (ZA hyZ10a (ZA hyZ10b (ZA cZ12 (ZA hkZ13a (ZA hkZ13b hyZ14)))))) ?_
     refine ZS (ZA cZ9 (ZA hyZ10a (ZA hyZ10b (ZA cZ12 (ZA hkZ13a (ZA hkZ13b hyZ14)))))) (w_ej _ _ _ hrZ15) ?_
     refine ZG ?_
     obtain ⟨oZ18,hoZ18,h⟩:=bind_s h
     try refine ZF (ZA cZ9 (ZA hyZ10a (ZA hyZ10b (ZA cZ12 (ZA hkZ13a (ZA hkZ13b hyZ14)))))) ?_
     refine join_rule0 (sh:=(fun v=>⟨[(2,.pt 2 0 0),(3,.pt 3 0 0),(6,.sl 6 0 sZ8.2.length),(7,.i sZ8.1),(8,.i rZ15),(65,.b v)],[(2,.var (.agg [.lst .o 1 (nZ0.Nodes.map AV.z),.lst .o 4 (nZ0.Fibers.map (e_TFiber .o))])),(3,.var (.agg [.i rZ0.Start,.lst .o 1 (rZ0.Fibers.map AV.i)])),(6,.arr 1 (sZ8.2.map AV.i))]⟩)) (s:=oZ18) ?_ ?_
     · replace h:=hoZ18
       obtain ⟨cZ16,h⟩ | ⟨cZ16,h⟩:=cond_s h
       · cases h
         exact ZL (ZA cZ9 (ZA hyZ10a (ZA hyZ10b (ZA cZ12 (ZA hkZ13a (ZA hkZ13b (ZA hyZ14 cZ16))))))) trivial
       · obtain ⟨rZ17,hrZ17,h⟩:=bind_s h
         refine ZF (ZA cZ9 (ZA hyZ10a (ZA hyZ10b (ZA cZ12 (ZA hkZ13a (ZA hkZ13b (ZA hyZ14 cZ16))))))) ?_
         refine ZS (ZA cZ9 (ZA hyZ10a (ZA hyZ10b (ZA cZ12 (ZA hkZ13a (ZA hkZ13b (ZA hyZ14 cZ16))))))) (w_ck _ _ hrZ17) ?_
         refine ZG ?_
         cases h
         exact ZL (ZA cZ9 (ZA hyZ10a (ZA hyZ10b (ZA cZ12 (ZA hkZ13a (ZA hkZ13b (ZA hyZ14 cZ16))))))) trivial
     · simp only [ZC,A220R2]
       obtain ⟨cZ19,h⟩ | ⟨cZ19,h⟩:=cond_s h
       · cases h
         exact ZL (ZA cZ9 (ZA hyZ10a (ZA hyZ10b (ZA cZ12 (ZA hkZ13a (ZA hkZ13b (ZA hyZ14 cZ19))))))) @V220.eq_1
       · obtain ⟨lZ20,hlZ20,h⟩:=bnd_s h
         have eZ21:Row.arr 1 [(.i rZ15:AV)]=Row.arr 1 (lZ20.map AV.i):=by rw [← hlZ20]; rfl
         have jjZ22:lZ20.length=1:=by rw [← hlZ20]; rfl
         obtain ⟨uZ23,huZ23,h⟩:=bind_s h
         have huZ23g:=grd_s huZ23
         obtain ⟨lZ24,hlZ24,h⟩:=bnd_s h
         have eZ25:sZ8.2.map AV.i++lZ20.map AV.i=lZ24.map AV.i:=by rw [← hlZ24,List.map_append]
         have eZ26:sZ8.2.length+1=lZ24.length:=by simp [← hlZ20,← hlZ24] <;> omega
         rw [eZ26] at huZ23g
         cases h
         exact ZL (ZA cZ9 (ZA hyZ10a (ZA hyZ10b (ZA cZ12 (ZA hkZ13a (ZA hkZ13b (ZA hyZ14 (ZA cZ19 (ZA eZ21 (ZA jjZ22 (ZA huZ23g (ZA eZ25 eZ26)))))))))))) (ZA @S_ad.eq_1 (ZA @SX_ad.eq_1 (ZA hlZ20.symm (ZA hlZ24.symm jjZ22))))
 · cases h
   exact ZL cZ9 (ZA @S_ad.eq_1 @SX_ad.eq_1)
theorem w_cl (nZ0:TNetwork) (rZ0:TRoute) {r:List Int×Bool} (h:M_cl nZ0 rZ0=some r):Ok Tryz.prog 220 [.agg [.lst .o 1 (nZ0.Nodes.map AV.z),.lst .o 4 (nZ0.Fibers.map (e_TFiber .o))],.agg [.i rZ0.Start,.lst .o 1 (rZ0.Fibers.map AV.i)]] ((fun r=>.tup [.lst .u 1 (r.1.map AV.i),.b r.2]) r):=by
 refine ok_of_body hmix m220 rfl ?_
 unfold M_cl at h
 simp only [ZC,A220,V220,body_eq]
 obtain ⟨lZ1,hlZ1,h⟩:=bnd_s h
 have eZ2:Row.arr 1 [(.i rZ0.Start:AV)]=Row.arr 1 (lZ1.map AV.i):=by rw [← hlZ1]; rfl
 have jjZ3:lZ1.length=1:=by rw [← hlZ1]; rfl
 obtain ⟨oZ6,hoZ6,h⟩:=bind_s h
 try refine ZF (ZA eZ2 jjZ3) ?_
 refine join_rule0 (sh:=(fun v=>⟨[(2,.pt 2 0 0),(3,.pt 3 0 0),(6,.sl 6 0 lZ1.length),(25,.b v)],[(2,.var (.agg [.lst .o 1 (nZ0.Nodes.map AV.z),.lst .o 4 (nZ0.Fibers.map (e_TFiber .o))])),(3,.var (.agg [.i rZ0.Start,.lst .o 1 (rZ0.Fibers.map AV.i)])),(6,.arr 1 (lZ1.map AV.i))]⟩)) (s:=oZ6) ?_ ?_
 · replace h:=hoZ6
   obtain ⟨rZ4,hrZ4,h⟩:=bind_s h
   refine ZF (ZA eZ2 jjZ3) ?_
   refine ZS (ZA eZ2 jjZ3) (w_b _ _ _ hrZ4) ?_
   refine ZG ?_
   obtain ⟨cZ5,h⟩ | ⟨cZ5,h⟩:=cond_s h
   · cases h
     exact ZL (ZA eZ2 (ZA jjZ3 cZ5)) (ZA hlZ1.symm jjZ3)
   · cases h
     exact ZL (ZA eZ2 (ZA jjZ3 cZ5)) (ZA hlZ1.symm jjZ3)
 · simp only [ZC,A220R1]
   obtain ⟨cZ7,h⟩ | ⟨cZ7,h⟩:=cond_s h
   · cases h
     exact ZL (ZA eZ2 (ZA jjZ3 cZ7)) (ZA @V220.eq_1 jjZ3)
   · obtain ⟨oZ27,hoZ27,h⟩:=bind_s h
     try refine ZF (ZA eZ2 (ZA jjZ3 cZ7)) ?_
     refine join_rule (o:=oZ27) (blk_rule sideR (loop_rule (w_ad nZ0 rZ0) hoZ27 ?_)) (fun vZ28 hv=>?_) (fun xZ29 hv e τ hne hq=>?_)
     · exact ZK (ZA @S_ad.eq_1 (ZA @SX_ad.eq_1 jjZ3))
     · subst hv
       simp only [] at h
       simp only [ZC,SX_ad,A220R4]
       cases h
       exact ZL (ZA eZ2 (ZA jjZ3 cZ7)) (ZA @V220.eq_1 jjZ3)
     · subst hv
       simp only [] at h
       obtain ⟨rfl,qZ30⟩:=hq
       cases h
       exact qZ30
theorem w_dd (nZ0:TNetwork) (rZ0:TRoute) {r:Bool} (h:M_dd nZ0 rZ0=some r):Ok Tryz.prog 191 [.agg [.lst .o 1 (nZ0.Nodes.map AV.z),.lst .o 4 (nZ0.Fibers.map (e_TFiber .o))],.agg [.i rZ0.Start,.lst .o 1 (rZ0.Fibers.map AV.i)]] ((fun r=>.b r) r):=by
 refine ok_of_body hmix m191 rfl ?_
 unfold M_dd at h
 simp only [ZC,A191,V191,body_eq]
 obtain ⟨rZ1,hrZ1,h⟩:=bind_s h
 refine ZF trivial ?_
 refine ZS trivial (w_cj _ hrZ1) ?_
 refine ZG ?_
 obtain ⟨cZ2,h⟩ | ⟨cZ2,h⟩:=cond_s h
 · cases h
   exact ZL cZ2 @V191.eq_1
 · obtain ⟨rZ3,hrZ3,h⟩:=bind_s h
   refine ZF cZ2 ?_
   refine ZU cZ2 (w_cl _ _ hrZ3) ?_
   refine ZG ?_
   cases h
   exact ZL cZ2 @V191.eq_1
theorem w_ek (bZ0:TBlock) {r:Bool} (h:M_ek bZ0=some r):Ok Tryz.prog 192 [.agg [.i bZ0.First,.i bZ0.Count]] ((fun r=>.b r) r):=by
 refine ok_of_body hmix m192 rfl ?_
 unfold M_ek at h
 simp only [ZC,A192,V192,body_eq]
 obtain ⟨rZ1,hrZ1,h⟩:=bind_s h
 refine ZF trivial ?_
 refine ZS trivial (w_b _ _ _ hrZ1) ?_
 refine ZG ?_
 obtain ⟨cZ2,h⟩ | ⟨cZ2,h⟩:=cond_s h
 · obtain ⟨rZ3,hrZ3,h⟩:=bind_s h
   refine ZF cZ2 ?_
   refine ZS cZ2 (w_b _ _ _ hrZ3) ?_
   refine ZG ?_
   cases h
   exact ZL cZ2 @V192.eq_1
 · cases h
   exact ZL cZ2 @V192.eq_1
theorem w_el (nZ0:TNetwork) (xZ0:TLight) {r:Bool} (h:M_el nZ0 xZ0=some r):Ok Tryz.prog 139 [.agg [.lst .o 1 (nZ0.Nodes.map AV.z),.lst .o 4 (nZ0.Fibers.map (e_TFiber .o))],.agg [.i xZ0.Id,.i xZ0.Route.Start,.lst .o 1 (xZ0.Route.Fibers.map AV.i),.i xZ0.Block.First,.i xZ0.Block.Count]] ((fun r=>.b r) r):=by
 refine ok_of_body hmix m139 rfl ?_
 unfold M_el at h
 simp only [ZC,A139,V139,body_eq]
 obtain ⟨rZ1,hrZ1,h⟩:=bind_s h
 refine ZF trivial ?_
 refine ZS trivial (w_b _ _ _ hrZ1) ?_
 refine ZG ?_
 obtain ⟨cZ2,h⟩ | ⟨cZ2,h⟩:=cond_s h
 · obtain ⟨rZ3,hrZ3,h⟩:=bind_s h
   refine ZF cZ2 ?_
   refine ZS cZ2 (w_dd _ _ hrZ3) ?_
   refine ZG ?_
   obtain ⟨cZ4,h⟩ | ⟨cZ4,h⟩:=cond_s h
   · obtain ⟨rZ5,hrZ5,h⟩:=bind_s h
     refine ZF (ZA cZ2 cZ4) ?_
     refine ZS (ZA cZ2 cZ4) (w_ek _ hrZ5) ?_
     refine ZG ?_
     cases h
     exact ZL (ZA cZ2 cZ4) @V139.eq_1
   · cases h
     exact ZL (ZA cZ2 cZ4) @V139.eq_1
 · cases h
   exact ZL cZ2 @V139.eq_1
def S_ae (rZ0:TRoute) (groupZ0:List Int) (v:Int):St:=⟨[(1,.lst .o 1 (groupZ0.map AV.i)),(2,.pt 2 0 0),(5,.i v)],[(2,.var (.agg [.i rZ0.Start,.lst .o 1 (rZ0.Fibers.map AV.i)]))]⟩
def SX_ae (v:Unit):St:=⟨[],[]⟩
theorem w_ae (rZ0:TRoute) (groupZ0:List Int) (sZ1:Int) (o:Int ⊕ (Unit ⊕ Bool)) (h:M_ae rZ0 groupZ0 sZ1=some o):AWP (OkS Tryz.prog) A125L1 (qL [1,2,5] [2] (S_ae rZ0 groupZ0) (qS (qX 0 [] [] (SX_ae)) (qR V125 (fun r=>.b r))) o) (S_ae rZ0 groupZ0 sZ1):=by
 unfold M_ae at h
 simp only [ZC,S_ae,A125L1]
 obtain ⟨cZ2,h⟩ | ⟨cZ2,h⟩:=cond_s h
 · obtain ⟨yZ3,hyZ3,h⟩:=bind_s h
   obtain ⟨hyZ3a,hyZ3b⟩:=geti_s hyZ3
   obtain ⟨rZ4,hrZ4,h⟩:=bind_s h
   refine ZF (ZA cZ2 (ZA hyZ3a hyZ3b)) ?_
   refine ZS (ZA cZ2 (ZA hyZ3a hyZ3b)) (w_ck _ _ hrZ4) ?_
   refine ZG ?_
   obtain ⟨cZ5,h⟩ | ⟨cZ5,h⟩:=cond_s h
   · cases h
     exact ZL (ZA cZ2 (ZA hyZ3a (ZA hyZ3b cZ5))) @V125.eq_1
   · cases h
     exact ZL (ZA cZ2 (ZA hyZ3a (ZA hyZ3b cZ5))) (ZA @S_ae.eq_1 @SX_ae.eq_1)
 · cases h
   exact ZL cZ2 (ZA @S_ae.eq_1 @SX_ae.eq_1)
theorem w_bs (rZ0:TRoute) (groupZ0:List Int) {r:Bool} (h:M_bs rZ0 groupZ0=some r):Ok Tryz.prog 125 [.agg [.i rZ0.Start,.lst .o 1 (rZ0.Fibers.map AV.i)],.lst .o 1 (groupZ0.map AV.i)] ((fun r=>.b r) r):=by
 refine ok_of_body hmix m125 rfl ?_
 unfold M_bs at h
 simp only [ZC,A125,V125,body_eq]
 obtain ⟨oZ6,hoZ6,h⟩:=bind_s h
 try refine ZF trivial ?_
 refine join_rule (o:=oZ6) (blk_rule sideR (loop_rule (w_ae rZ0 groupZ0) hoZ6 ?_)) (fun vZ7 hv=>?_) (fun xZ8 hv e τ hne hq=>?_)
 · exact ZK (ZA @S_ae.eq_1 @SX_ae.eq_1)
 · subst hv
   simp only [] at h
   simp only [ZC,SX_ae,A125R2]
   cases h
   exact ZL trivial @V125.eq_1
 · subst hv
   simp only [] at h
   obtain ⟨rfl,qZ9⟩:=hq
   cases h
   exact qZ9
theorem w_cm (bZ0:TBlock) {r:Int} (h:M_cm bZ0=some r):Ok Tryz.prog 167 [.agg [.i bZ0.First,.i bZ0.Count]] ((fun r=>.i r) r):=by
 refine ok_of_body hmix m167 rfl ?_
 unfold M_cm at h
 simp only [ZC,A167,V167,body_eq]
 obtain ⟨uZ1,huZ1,h⟩:=bind_s h
 have huZ1g:=grd_s huZ1
 obtain ⟨uZ2,huZ2,h⟩:=bind_s h
 have huZ2g:=grd_s huZ2
 cases h
 exact ZL (ZA huZ1g huZ2g) @V167.eq_1
theorem w_em (xZ0:TLight) (yZ0:TLight) {r:Bool} (h:M_em xZ0 yZ0=some r):Ok Tryz.prog 140 [.agg [.i xZ0.Id,.i xZ0.Route.Start,.lst .o 1 (xZ0.Route.Fibers.map AV.i),.i xZ0.Block.First,.i xZ0.Block.Count],.agg [.i yZ0.Id,.i yZ0.Route.Start,.lst .o 1 (yZ0.Route.Fibers.map AV.i),.i yZ0.Block.First,.i yZ0.Block.Count]] ((fun r=>.b r) r):=by
 refine ok_of_body hmix m140 rfl ?_
 unfold M_em at h
 simp only [ZC,A140,V140,body_eq]
 obtain ⟨rZ1,hrZ1,h⟩:=bind_s h
 refine ZF trivial ?_
 refine ZS trivial (w_bs _ _ hrZ1) ?_
 refine ZG ?_
 obtain ⟨cZ2,h⟩ | ⟨cZ2,h⟩:=cond_s h
 · obtain ⟨rZ3,hrZ3,h⟩:=bind_s h
   refine ZF cZ2 ?_
   refine ZS cZ2 (w_cm _ hrZ3) ?_
   refine ZG ?_
   obtain ⟨rZ4,hrZ4,h⟩:=bind_s h
   refine ZF cZ2 ?_
   refine ZS cZ2 (w_cm _ hrZ4) ?_
   refine ZG ?_
   cases h
   exact ZL cZ2 @V140.eq_1
 · cases h
   exact ZL cZ2 @V140.eq_1
def S_h (pZ0:TPlan) (sZ5:Int) (v:Int):St:=⟨[(1,.pt 1 0 0),(3,.i sZ5),(4,.i v)],[(1,.var (.agg [.lst .o 1 (pZ0.Network.Nodes.map AV.z),.lst .o 4 (pZ0.Network.Fibers.map (e_TFiber .o)),.lst .o 5 (pZ0.Lights.map (e_TLight .o))]))]⟩
def SX_h (pZ0:TPlan) (sZ5:Int) (v:Unit):St:=⟨[(1,.pt 1 0 0),(3,.i sZ5)],[(1,.var (.agg [.lst .o 1 (pZ0.Network.Nodes.map AV.z),.lst .o 4 (pZ0.Network.Fibers.map (e_TFiber .o)),.lst .o 5 (pZ0.Lights.map (e_TLight .o))]))]⟩
theorem w_h (pZ0:TPlan) (sZ5:Int) (sZ14:Int) (o:Int ⊕ (Unit ⊕ Bool)) (h:M_h pZ0 sZ5 sZ14=some o):AWP (OkS Tryz.prog) A74L3 (qL [1,3,4] [1] (S_h pZ0 sZ5) (qS (qX 2 [1,3] [1] (SX_h pZ0 sZ5)) (qR V74 (fun r=>.b r))) o) (S_h pZ0 sZ5 sZ14):=by
 unfold M_h at h
 simp only [ZC,S_h,A74L3]
 obtain ⟨cZ15,h⟩ | ⟨cZ15,h⟩:=cond_s h
 · obtain ⟨yZ16,hyZ16,h⟩:=bind_s h
   obtain ⟨hyZ16a,hyZ16b⟩:=geti_s hyZ16
   obtain ⟨yZ17,hyZ17,h⟩:=bind_s h
   obtain ⟨hyZ17a,hyZ17b⟩:=geti_s hyZ17
   obtain ⟨rZ18,hrZ18,h⟩:=bind_s h
   refine ZF (ZA cZ15 (ZA hyZ16a (ZA hyZ16b (ZA hyZ17a hyZ17b)))) ?_
   refine ZS (ZA cZ15 (ZA hyZ16a (ZA hyZ16b (ZA hyZ17a hyZ17b)))) (w_em _ _ hrZ18) ?_
   refine ZG ?_
   obtain ⟨cZ19,h⟩ | ⟨cZ19,h⟩:=cond_s h
   · cases h
     exact ZL (ZA cZ15 (ZA hyZ16a (ZA hyZ16b (ZA hyZ17a (ZA hyZ17b cZ19))))) @V74.eq_1
   · cases h
     exact ZL (ZA cZ15 (ZA hyZ16a (ZA hyZ16b (ZA hyZ17a (ZA hyZ17b cZ19))))) (ZA @S_h.eq_1 @SX_h.eq_1)
 · cases h
   exact ZL cZ15 (ZA @S_h.eq_1 @SX_h.eq_1)
def S_af (pZ0:TPlan) (v:Int):St:=⟨[(1,.pt 1 0 0),(3,.i v)],[(1,.var (.agg [.lst .o 1 (pZ0.Network.Nodes.map AV.z),.lst .o 4 (pZ0.Network.Fibers.map (e_TFiber .o)),.lst .o 5 (pZ0.Lights.map (e_TLight .o))]))]⟩
def SX_af (v:Unit):St:=⟨[],[]⟩
theorem w_af (pZ0:TPlan) (sZ5:Int) (o:Int ⊕ (Unit ⊕ Bool)) (h:M_af pZ0 sZ5=some o):AWP (OkS Tryz.prog) A74L5 (qL [1,3] [1] (S_af pZ0) (qS (qX 0 [] [] (SX_af)) (qR V74 (fun r=>.b r))) o) (S_af pZ0 sZ5):=by
 unfold M_af at h
 simp only [ZC,S_af,A74L5]
 obtain ⟨cZ6,h⟩ | ⟨cZ6,h⟩:=cond_s h
 · obtain ⟨oZ25,hoZ25,h⟩:=bind_s h
   try refine ZF cZ6 ?_
   refine join_rule (sh:=(fun v=>⟨[(1,.pt 1 0 0),(3,.i sZ5)],[(1,.var (.agg [.lst .o 1 (pZ0.Network.Nodes.map AV.z),.lst .o 4 (pZ0.Network.Fibers.map (e_TFiber .o)),.lst .o 5 (pZ0.Lights.map (e_TLight .o))]))]⟩)) (q:=(qR V74 (fun r=>.b r))) (o:=oZ25) ?_ (fun vZ26 hv=>?_) (fun xZ27 hv e τ hne hq=>?_)
   · replace h:=hoZ25
     obtain ⟨oZ12,hoZ12,h⟩:=bind_s h
     try refine ZF cZ6 ?_
     refine join_rule0 (sh:=(fun v=>⟨[(1,.pt 1 0 0),(3,.i sZ5),(50,.b v)],[(1,.var (.agg [.lst .o 1 (pZ0.Network.Nodes.map AV.z),.lst .o 4 (pZ0.Network.Fibers.map (e_TFiber .o)),.lst .o 5 (pZ0.Lights.map (e_TLight .o))]))]⟩)) (s:=oZ12) ?_ ?_
     · replace h:=hoZ12
       obtain ⟨yZ7,hyZ7,h⟩:=bind_s h
       obtain ⟨hyZ7a,hyZ7b⟩:=geti_s hyZ7
       obtain ⟨rZ8,hrZ8,h⟩:=bind_s h
       refine ZF (ZA cZ6 (ZA hyZ7a hyZ7b)) ?_
       refine ZS (ZA cZ6 (ZA hyZ7a hyZ7b)) (w_el _ _ hrZ8) ?_
       refine ZG ?_
       obtain ⟨cZ9,h⟩ | ⟨cZ9,h⟩:=cond_s h
       · cases h
         exact ZL (ZA cZ6 (ZA hyZ7a (ZA hyZ7b cZ9))) trivial
       · obtain ⟨cZ10,h⟩ | ⟨cZ10,h⟩:=cond_s h
         · obtain ⟨yZ11,hyZ11,h⟩:=bind_s h
           obtain ⟨hyZ11a,hyZ11b⟩:=geti_s hyZ11
           cases h
           exact ZL (ZA cZ6 (ZA hyZ7a (ZA hyZ7b (ZA cZ9 (ZA cZ10 (ZA hyZ11a hyZ11b)))))) trivial
         · cases h
           exact ZL (ZA cZ6 (ZA hyZ7a (ZA hyZ7b (ZA cZ9 cZ10)))) trivial
     · simp only [ZC,A74R2]
       obtain ⟨cZ13,h⟩ | ⟨cZ13,h⟩:=cond_s h
       · cases h
         exact ZL (ZA cZ6 cZ13) @V74.eq_1
       · obtain ⟨oZ20,hoZ20,h⟩:=bind_s h
         try refine ZF (ZA cZ6 cZ13) ?_
         first | refine tail_rule (o:=oZ20) (blk_rule sideR (loop_rule (w_h pZ0 sZ5) hoZ20 ?_)) (fun vZ21 hv τ qZ23=>?_) (fun xZ22 hv e τ hne hq=>?_) | refine tail_blk (o:=oZ20) sideR (loop_rule (w_h pZ0 sZ5) hoZ20 ?_) (fun vZ21 hv τ qZ23=>?_) (fun xZ22 hv e τ hne hq=>?_)
         · exact ZK (ZA @S_h.eq_1 @SX_h.eq_1)
         · subst hv
           simp only [] at h
           cases h
           try refine ZF trivial ?_
           refine ⟨rfl,Shp.sub qZ23 (by decide) (by decide) ?_⟩
           exact ZK @SX_h.eq_1
         · subst hv
           simp only [] at h
           obtain ⟨rfl,qZ24⟩:=hq
           cases h
           try refine ZF trivial ?_
           first | exact ⟨by simp,qZ24⟩ | exact ⟨by simp,rfl,qZ24⟩
   · subst hv
     simp only [] at h
     simp only [ZC,A74R4]
     cases h
     exact ZL cZ6 (ZA @S_af.eq_1 @SX_af.eq_1)
   · subst hv
     simp only [] at h
     obtain ⟨rfl,qZ28⟩:=hq
     cases h
     try refine ZF trivial ?_
     first | exact ⟨by simp,qZ28⟩ | exact ⟨by simp,rfl,qZ28⟩
 · cases h
   exact ZL cZ6 (ZA @S_af.eq_1 @SX_af.eq_1)
theorem w_ca (pZ0:TPlan) {r:Bool} (h:M_ca pZ0=some r):Ok Tryz.prog 74 [.agg [.lst .o 1 (pZ0.Network.Nodes.map AV.z),.lst .o 4 (pZ0.Network.Fibers.map (e_TFiber .o)),.lst .o 5 (pZ0.Lights.map (e_TLight .o))]] ((fun r=>.b r) r):=by
 refine ok_of_body hmix m74 rfl ?_
 unfold M_ca at h
 simp only [ZC,A74,V74,body_eq]
 obtain ⟨oZ3,hoZ3,h⟩:=bind_s h
 try refine ZF trivial ?_
 refine join_rule0 (sh:=(fun v=>⟨[(1,.pt 1 0 0),(14,.b v)],[(1,.var (.agg [.lst .o 1 (pZ0.Network.Nodes.map AV.z),.lst .o 4 (pZ0.Network.Fibers.map (e_TFiber .o)),.lst .o 5 (pZ0.Lights.map (e_TLight .o))]))]⟩)) (s:=oZ3) ?_ ?_
 · replace h:=hoZ3
   obtain ⟨rZ1,hrZ1,h⟩:=bind_s h
   refine ZF trivial ?_
   refine ZS trivial (w_cj _ hrZ1) ?_
   refine ZG ?_
   obtain ⟨cZ2,h⟩ | ⟨cZ2,h⟩:=cond_s h
   · cases h
     exact ZL cZ2 trivial
   · cases h
     exact ZL cZ2 trivial
 · simp only [ZC,A74R1]
   obtain ⟨cZ4,h⟩ | ⟨cZ4,h⟩:=cond_s h
   · cases h
     exact ZL cZ4 @V74.eq_1
   · obtain ⟨oZ29,hoZ29,h⟩:=bind_s h
     try refine ZF cZ4 ?_
     refine join_rule (o:=oZ29) (blk_rule sideR (loop_rule (w_af pZ0) hoZ29 ?_)) (fun vZ30 hv=>?_) (fun xZ31 hv e τ hne hq=>?_)
     · exact ZK (ZA @S_af.eq_1 @SX_af.eq_1)
     · subst hv
       simp only [] at h
       simp only [ZC,SX_af,A74R6]
       cases h
       exact ZL cZ4 @V74.eq_1
     · subst hv
       simp only [] at h
       obtain ⟨rfl,qZ32⟩:=hq
       cases h
       exact qZ32
def S_ag (lZ0:List Int) (loZ0:Int) (hiZ0:Int) (v:Int):St:=⟨[(0,.lst .o 1 (lZ0.map AV.i)),(1,.i loZ0),(2,.i hiZ0),(7,.i v)],[]⟩
def SX_ag (v:Unit):St:=⟨[],[]⟩
theorem w_ag (lZ0:List Int) (loZ0:Int) (hiZ0:Int) (sZ1:Int) (o:Int ⊕ (Unit ⊕ Bool)) (h:M_ag lZ0 loZ0 hiZ0 sZ1=some o):AWP (OkS Tryz.prog) A121L2 (qL [0,1,2,7] [] (S_ag lZ0 loZ0 hiZ0) (qS (qX 0 [] [] (SX_ag)) (qR V121 (fun r=>.b r))) o) (S_ag lZ0 loZ0 hiZ0 sZ1):=by
 unfold M_ag at h
 simp only [ZC,S_ag,A121L2]
 obtain ⟨cZ2,h⟩ | ⟨cZ2,h⟩:=cond_s h
 · obtain ⟨oZ8,hoZ8,h⟩:=bind_s h
   try refine ZF cZ2 ?_
   refine join_rule0 (sh:=(fun v=>⟨[(0,.lst .o 1 (lZ0.map AV.i)),(1,.i loZ0),(2,.i hiZ0),(7,.i sZ1),(37,.b v)],[]⟩)) (s:=oZ8) ?_ ?_
   · replace h:=hoZ8
     obtain ⟨yZ3,hyZ3,h⟩:=bind_s h
     obtain ⟨hyZ3a,hyZ3b⟩:=geti_s hyZ3
     obtain ⟨rZ4,hrZ4,h⟩:=bind_s h
     refine ZF (ZA cZ2 (ZA hyZ3a hyZ3b)) ?_
     refine ZS (ZA cZ2 (ZA hyZ3a hyZ3b)) (w_b _ _ _ hrZ4) ?_
     refine ZG ?_
     obtain ⟨cZ5,h⟩ | ⟨cZ5,h⟩:=cond_s h
     · cases h
       exact ZL (ZA cZ2 (ZA hyZ3a (ZA hyZ3b cZ5))) trivial
     · obtain ⟨cZ6,h⟩ | ⟨cZ6,h⟩:=cond_s h
       · obtain ⟨yZ7,hyZ7,h⟩:=bind_s h
         obtain ⟨hyZ7a,hyZ7b⟩:=geti_s hyZ7
         cases h
         exact ZL (ZA cZ2 (ZA hyZ3a (ZA hyZ3b (ZA cZ5 (ZA cZ6 (ZA hyZ7a hyZ7b)))))) trivial
       · cases h
         exact ZL (ZA cZ2 (ZA hyZ3a (ZA hyZ3b (ZA cZ5 cZ6)))) trivial
   · simp only [ZC,A121R1]
     obtain ⟨cZ9,h⟩ | ⟨cZ9,h⟩:=cond_s h
     · cases h
       exact ZL (ZA cZ2 cZ9) @V121.eq_1
     · cases h
       exact ZL (ZA cZ2 cZ9) (ZA @S_ag.eq_1 @SX_ag.eq_1)
 · cases h
   exact ZL cZ2 (ZA @S_ag.eq_1 @SX_ag.eq_1)
theorem w_cn (lZ0:List Int) (loZ0:Int) (hiZ0:Int) {r:Bool} (h:M_cn lZ0 loZ0 hiZ0=some r):Ok Tryz.prog 121 [.lst .o 1 (lZ0.map AV.i),.i loZ0,.i hiZ0] ((fun r=>.b r) r):=by
 refine ok_of_body hmix m121 rfl ?_
 unfold M_cn at h
 simp only [ZC,A121,V121,body_eq]
 obtain ⟨oZ10,hoZ10,h⟩:=bind_s h
 try refine ZF trivial ?_
 refine join_rule (o:=oZ10) (blk_rule sideR (loop_rule (w_ag lZ0 loZ0 hiZ0) hoZ10 ?_)) (fun vZ11 hv=>?_) (fun xZ12 hv e τ hne hq=>?_)
 · exact ZK (ZA @S_ag.eq_1 @SX_ag.eq_1)
 · subst hv
   simp only [] at h
   simp only [ZC,SX_ag,A121R3]
   cases h
   exact ZL trivial @V121.eq_1
 · subst hv
   simp only [] at h
   obtain ⟨rfl,qZ13⟩:=hq
   cases h
   exact qZ13
def S_ah (listZ0:List TLight) (idZ0:Int) (v:Int):St:=⟨[(0,.lst .o 5 (listZ0.map (e_TLight .o))),(1,.i idZ0),(5,.i v)],[]⟩
def SX_ah (v:Unit):St:=⟨[],[]⟩
theorem w_ah (listZ0:List TLight) (idZ0:Int) (sZ1:Int) (o:Int ⊕ (Unit ⊕ Int)) (h:M_ah listZ0 idZ0 sZ1=some o):AWP (OkS Tryz.prog) A115L1 (qL [0,1,5] [] (S_ah listZ0 idZ0) (qS (qX 0 [] [] (SX_ah)) (qR V115 (fun r=>.i r))) o) (S_ah listZ0 idZ0 sZ1):=by
 unfold M_ah at h
 simp only [ZC,S_ah,A115L1]
 obtain ⟨cZ2,h⟩ | ⟨cZ2,h⟩:=cond_s h
 · obtain ⟨yZ3,hyZ3,h⟩:=bind_s h
   obtain ⟨hyZ3a,hyZ3b⟩:=geti_s hyZ3
   obtain ⟨cZ4,h⟩ | ⟨cZ4,h⟩:=cond_s h
   · cases h
     exact ZL (ZA cZ2 (ZA hyZ3a (ZA hyZ3b cZ4))) @V115.eq_1
   · cases h
     exact ZL (ZA cZ2 (ZA hyZ3a (ZA hyZ3b cZ4))) (ZA @S_ah.eq_1 @SX_ah.eq_1)
 · cases h
   exact ZL cZ2 (ZA @S_ah.eq_1 @SX_ah.eq_1)
theorem w_en (listZ0:List TLight) (idZ0:Int) {r:Int} (h:M_en listZ0 idZ0=some r):Ok Tryz.prog 115 [.lst .o 5 (listZ0.map (e_TLight .o)),.i idZ0] ((fun r=>.i r) r):=by
 refine ok_of_body hmix m115 rfl ?_
 unfold M_en at h
 simp only [ZC,A115,V115,body_eq]
 obtain ⟨oZ5,hoZ5,h⟩:=bind_s h
 try refine ZF trivial ?_
 refine join_rule (o:=oZ5) (blk_rule sideR (loop_rule (w_ah listZ0 idZ0) hoZ5 ?_)) (fun vZ6 hv=>?_) (fun xZ7 hv e τ hne hq=>?_)
 · exact ZK (ZA @S_ah.eq_1 @SX_ah.eq_1)
 · subst hv
   simp only [] at h
   simp only [ZC,SX_ah,A115R2]
   cases h
   exact ZL trivial @V115.eq_1
 · subst hv
   simp only [] at h
   obtain ⟨rfl,qZ8⟩:=hq
   cases h
   exact qZ8
theorem w_fp (nZ0:TNetwork) (rZ0:TRoute) {r:List Int} (h:M_fp nZ0 rZ0=some r):Ok Tryz.prog 179 [.agg [.lst .o 1 (nZ0.Nodes.map AV.z),.lst .o 4 (nZ0.Fibers.map (e_TFiber .o))],.agg [.i rZ0.Start,.lst .o 1 (rZ0.Fibers.map AV.i)]] ((fun r=>.lst .u 1 (r.map AV.i)) r):=by
 refine ok_of_body hmix m179 rfl ?_
 unfold M_fp at h
 simp only [ZC,A179,V179,body_eq]
 obtain ⟨rZ1,hrZ1,h⟩:=bind_s h
 refine ZF trivial ?_
 refine ZU trivial (w_cl _ _ hrZ1) ?_
 refine ZG ?_
 cases h
 exact ZL trivial @V179.eq_1
theorem w_co (nZ0:TNetwork) (rZ0:TRoute) {r:Int} (h:M_co nZ0 rZ0=some r):Ok Tryz.prog 126 [.agg [.lst .o 1 (nZ0.Nodes.map AV.z),.lst .o 4 (nZ0.Fibers.map (e_TFiber .o))],.agg [.i rZ0.Start,.lst .o 1 (rZ0.Fibers.map AV.i)]] ((fun r=>.i r) r):=by
 refine ok_of_body hmix m126 rfl ?_
 unfold M_co at h
 simp only [ZC,A126,V126,body_eq]
 obtain ⟨rZ1,hrZ1,h⟩:=bind_s h
 refine ZF trivial ?_
 refine ZU trivial (w_fp _ _ hrZ1) ?_
 refine ZG ?_
 obtain ⟨kZ2,hkZ2,h⟩:=bind_s h
 obtain ⟨hkZ2a,hkZ2b⟩:=grd_s hkZ2
 obtain ⟨yZ3,hyZ3,h⟩:=bind_s h
 cases h
 exact ZL (ZA hkZ2a (ZA hkZ2b hyZ3)) @V126.eq_1
def S_ai (rZ0:TRestoration) (v:Int):St:=⟨[(1,.pt 1 0 0),(3,.pt 3 0 0),(4,.i v)],[(1,.var (.agg [.lst .o 1 (rZ0.Plan.Network.Nodes.map AV.z),.lst .o 4 (rZ0.Plan.Network.Fibers.map (e_TFiber .o)),.lst .o 5 (rZ0.Plan.Lights.map (e_TLight .o)),.lst .o 5 (rZ0.Home.map (e_TLight .o)),.lst .o 1 (rZ0.Down.map AV.i)])),(3,.var (.agg [.lst .o 1 (rZ0.Plan.Network.Nodes.map AV.z),.lst .o 4 (rZ0.Plan.Network.Fibers.map (e_TFiber .o))]))]⟩
def SX_ai (v:Unit):St:=⟨[],[]⟩
theorem w_ai (rZ0:TRestoration) (sZ8:Int) (o:Int ⊕ (Unit ⊕ Bool)) (h:M_ai rZ0 sZ8=some o):AWP (OkS Tryz.prog) A61L4 (qL [1,3,4] [1,3] (S_ai rZ0) (qS (qX 0 [] [] (SX_ai)) (qR V61 (fun r=>.b r))) o) (S_ai rZ0 sZ8):=by
 unfold M_ai at h
 simp only [ZC,S_ai,A61L4]
 obtain ⟨cZ9,h⟩ | ⟨cZ9,h⟩:=cond_s h
 · obtain ⟨yZ10,hyZ10,h⟩:=bind_s h
   obtain ⟨hyZ10a,hyZ10b⟩:=geti_s hyZ10
   obtain ⟨rZ11,hrZ11,h⟩:=bind_s h
   refine ZF (ZA cZ9 (ZA hyZ10a hyZ10b)) ?_
   refine ZS (ZA cZ9 (ZA hyZ10a hyZ10b)) (w_en _ _ hrZ11) ?_
   refine ZG ?_
   obtain ⟨oZ14,hoZ14,h⟩:=bind_s h
   try refine ZF (ZA cZ9 (ZA hyZ10a hyZ10b)) ?_
   refine join_rule0 (sh:=(fun v=>⟨[(1,.pt 1 0 0),(3,.pt 3 0 0),(4,.i sZ8),(5,.pt 5 0 0),(6,.i rZ11),(60,.b v)],[(1,.var (.agg [.lst .o 1 (rZ0.Plan.Network.Nodes.map AV.z),.lst .o 4 (rZ0.Plan.Network.Fibers.map (e_TFiber .o)),.lst .o 5 (rZ0.Plan.Lights.map (e_TLight .o)),.lst .o 5 (rZ0.Home.map (e_TLight .o)),.lst .o 1 (rZ0.Down.map AV.i)])),(3,.var (.agg [.lst .o 1 (rZ0.Plan.Network.Nodes.map AV.z),.lst .o 4 (rZ0.Plan.Network.Fibers.map (e_TFiber .o))])),(5,.var (.agg [.i yZ10.Id,.i yZ10.Route.Start,.lst .o 1 (yZ10.Route.Fibers.map AV.i),.i yZ10.Block.First,.i yZ10.Block.Count]))]⟩)) (s:=oZ14) ?_ ?_
   · replace h:=hoZ14
     obtain ⟨cZ12,h⟩ | ⟨cZ12,h⟩:=cond_s h
     · cases h
       exact ZL (ZA cZ9 (ZA hyZ10a (ZA hyZ10b cZ12))) trivial
     · obtain ⟨rZ13,hrZ13,h⟩:=bind_s h
       refine ZF (ZA cZ9 (ZA hyZ10a (ZA hyZ10b cZ12))) ?_
       refine ZS (ZA cZ9 (ZA hyZ10a (ZA hyZ10b cZ12))) (w_bs _ _ hrZ13) ?_
       refine ZG ?_
       cases h
       exact ZL (ZA cZ9 (ZA hyZ10a (ZA hyZ10b cZ12))) trivial
   · simp only [ZC,A61R2]
     obtain ⟨cZ15,h⟩ | ⟨cZ15,h⟩:=cond_s h
     · cases h
       exact ZL (ZA cZ9 (ZA hyZ10a (ZA hyZ10b cZ15))) @V61.eq_1
     · obtain ⟨yZ16,hyZ16,h⟩:=bind_s h
       obtain ⟨hyZ16a,hyZ16b⟩:=geti_s hyZ16
       obtain ⟨oZ21,hoZ21,h⟩:=bind_s h
       try refine ZF (ZA cZ9 (ZA hyZ10a (ZA hyZ10b (ZA cZ15 (ZA hyZ16a hyZ16b))))) ?_
       refine join_rule0 (sh:=(fun v=>⟨[(1,.pt 1 0 0),(3,.pt 3 0 0),(4,.i sZ8),(92,.b v)],[(1,.var (.agg [.lst .o 1 (rZ0.Plan.Network.Nodes.map AV.z),.lst .o 4 (rZ0.Plan.Network.Fibers.map (e_TFiber .o)),.lst .o 5 (rZ0.Plan.Lights.map (e_TLight .o)),.lst .o 5 (rZ0.Home.map (e_TLight .o)),.lst .o 1 (rZ0.Down.map AV.i)])),(3,.var (.agg [.lst .o 1 (rZ0.Plan.Network.Nodes.map AV.z),.lst .o 4 (rZ0.Plan.Network.Fibers.map (e_TFiber .o))]))]⟩)) (s:=oZ21) ?_ ?_
       · replace h:=hoZ21
         obtain ⟨cZ17,h⟩ | ⟨cZ17,h⟩:=cond_s h
         · cases h
           exact ZL (ZA cZ9 (ZA hyZ10a (ZA hyZ10b (ZA cZ15 (ZA hyZ16a (ZA hyZ16b cZ17)))))) trivial
         · obtain ⟨rZ18,hrZ18,h⟩:=bind_s h
           refine ZF (ZA cZ9 (ZA hyZ10a (ZA hyZ10b (ZA cZ15 (ZA hyZ16a (ZA hyZ16b cZ17)))))) ?_
           refine ZS (ZA cZ9 (ZA hyZ10a (ZA hyZ10b (ZA cZ15 (ZA hyZ16a (ZA hyZ16b cZ17)))))) (w_co _ _ hrZ18) ?_
           refine ZG ?_
           obtain ⟨rZ19,hrZ19,h⟩:=bind_s h
           refine ZF (ZA cZ9 (ZA hyZ10a (ZA hyZ10b (ZA cZ15 (ZA hyZ16a (ZA hyZ16b cZ17)))))) ?_
           refine ZS (ZA cZ9 (ZA hyZ10a (ZA hyZ10b (ZA cZ15 (ZA hyZ16a (ZA hyZ16b cZ17)))))) (w_co _ _ hrZ19) ?_
           refine ZG ?_
           obtain ⟨cZ20,h⟩ | ⟨cZ20,h⟩:=cond_s h
           · cases h
             exact ZL (ZA cZ9 (ZA hyZ10a (ZA hyZ10b (ZA cZ15 (ZA hyZ16a (ZA hyZ16b (ZA cZ17 cZ20))))))) trivial
           · cases h
             exact ZL (ZA cZ9 (ZA hyZ10a (ZA hyZ10b (ZA cZ15 (ZA hyZ16a (ZA hyZ16b (ZA cZ17 cZ20))))))) trivial
       · simp only [ZC,A61R3]
         obtain ⟨cZ22,h⟩ | ⟨cZ22,h⟩:=cond_s h
         · cases h
           exact ZL (ZA cZ9 (ZA hyZ10a (ZA hyZ10b (ZA cZ15 (ZA hyZ16a (ZA hyZ16b cZ22)))))) @V61.eq_1
         · cases h
           exact ZL (ZA cZ9 (ZA hyZ10a (ZA hyZ10b (ZA cZ15 (ZA hyZ16a (ZA hyZ16b cZ22)))))) (ZA @S_ai.eq_1 @SX_ai.eq_1)
 · cases h
   exact ZL cZ9 (ZA @S_ai.eq_1 @SX_ai.eq_1)
theorem w_eo (rZ0:TRestoration) {r:Bool} (h:M_eo rZ0=some r):Ok Tryz.prog 61 [.agg [.lst .o 1 (rZ0.Plan.Network.Nodes.map AV.z),.lst .o 4 (rZ0.Plan.Network.Fibers.map (e_TFiber .o)),.lst .o 5 (rZ0.Plan.Lights.map (e_TLight .o)),.lst .o 5 (rZ0.Home.map (e_TLight .o)),.lst .o 1 (rZ0.Down.map AV.i)]] ((fun r=>.b r) r):=by
 refine ok_of_body hmix m61 rfl ?_
 unfold M_eo at h
 simp only [ZC,A61,V61,body_eq]
 obtain ⟨oZ6,hoZ6,h⟩:=bind_s h
 try refine ZF trivial ?_
 refine join_rule0 (sh:=(fun v=>⟨[(1,.pt 1 0 0),(3,.pt 3 0 0),(32,.b v)],[(1,.var (.agg [.lst .o 1 (rZ0.Plan.Network.Nodes.map AV.z),.lst .o 4 (rZ0.Plan.Network.Fibers.map (e_TFiber .o)),.lst .o 5 (rZ0.Plan.Lights.map (e_TLight .o)),.lst .o 5 (rZ0.Home.map (e_TLight .o)),.lst .o 1 (rZ0.Down.map AV.i)])),(3,.var (.agg [.lst .o 1 (rZ0.Plan.Network.Nodes.map AV.z),.lst .o 4 (rZ0.Plan.Network.Fibers.map (e_TFiber .o))]))]⟩)) (s:=oZ6) ?_ ?_
 · replace h:=hoZ6
   obtain ⟨rZ1,hrZ1,h⟩:=bind_s h
   refine ZF trivial ?_
   refine ZS trivial (w_ca _ hrZ1) ?_
   refine ZG ?_
   obtain ⟨cZ2,h⟩ | ⟨cZ2,h⟩:=cond_s h
   · cases h
     exact ZL cZ2 trivial
   · obtain ⟨rZ3,hrZ3,h⟩:=bind_s h
     refine ZF cZ2 ?_
     refine ZS cZ2 (w_ca _ hrZ3) ?_
     refine ZG ?_
     obtain ⟨cZ4,h⟩ | ⟨cZ4,h⟩:=cond_s h
     · cases h
       exact ZL (ZA cZ2 cZ4) trivial
     · obtain ⟨rZ5,hrZ5,h⟩:=bind_s h
       refine ZF (ZA cZ2 cZ4) ?_
       refine ZS (ZA cZ2 cZ4) (w_cn _ _ _ hrZ5) ?_
       refine ZG ?_
       cases h
       exact ZL (ZA cZ2 cZ4) trivial
 · simp only [ZC,A61R1]
   obtain ⟨cZ7,h⟩ | ⟨cZ7,h⟩:=cond_s h
   · cases h
     exact ZL cZ7 @V61.eq_1
   · obtain ⟨oZ23,hoZ23,h⟩:=bind_s h
     try refine ZF cZ7 ?_
     refine join_rule (o:=oZ23) (blk_rule sideR (loop_rule (w_ai rZ0) hoZ23 ?_)) (fun vZ24 hv=>?_) (fun xZ25 hv e τ hne hq=>?_)
     · exact ZK (ZA @S_ai.eq_1 @SX_ai.eq_1)
     · subst hv
       simp only [] at h
       simp only [ZC,SX_ai,A61R5]
       cases h
       exact ZL cZ7 @V61.eq_1
     · subst hv
       simp only [] at h
       obtain ⟨rfl,qZ26⟩:=hq
       cases h
       exact qZ26
theorem w_da (rZ0:TRestoration) (fibersZ0:List Int) {r:Bool} (h:M_da rZ0 fibersZ0=some r):Ok Tryz.prog 79 [.agg [.lst .o 1 (rZ0.Plan.Network.Nodes.map AV.z),.lst .o 4 (rZ0.Plan.Network.Fibers.map (e_TFiber .o)),.lst .o 5 (rZ0.Plan.Lights.map (e_TLight .o)),.lst .o 5 (rZ0.Home.map (e_TLight .o)),.lst .o 1 (rZ0.Down.map AV.i)],.lst .o 1 (fibersZ0.map AV.i)] ((fun r=>.b r) r):=by
 refine ok_of_body hmix m79 rfl ?_
 unfold M_da at h
 simp only [ZC,A79,V79,body_eq]
 obtain ⟨rZ1,hrZ1,h⟩:=bind_s h
 refine ZF trivial ?_
 refine ZS trivial (w_eo _ hrZ1) ?_
 refine ZG ?_
 obtain ⟨cZ2,h⟩ | ⟨cZ2,h⟩:=cond_s h
 · obtain ⟨rZ3,hrZ3,h⟩:=bind_s h
   refine ZF cZ2 ?_
   refine ZS cZ2 (w_cn _ _ _ hrZ3) ?_
   refine ZG ?_
   cases h
   exact ZL cZ2 @V79.eq_1
 · cases h
   exact ZL cZ2 @V79.eq_1
theorem w_fq (nZ0:TNetwork) {r:TNetwork} (h:M_fq nZ0=some r):Ok Tryz.prog 89 [.agg [.lst .o 1 (nZ0.Nodes.map AV.z),.lst .o 4 (nZ0.Fibers.map (e_TFiber .o))]] ((fun r=>.agg [.lst .u 1 (r.Nodes.map AV.z),.lst .u 4 (r.Fibers.map (e_TFiber .u))]) r):=by
 refine ok_of_body hmix m89 rfl ?_
 unfold M_fq at h
 simp only [ZC,A89,V89,body_eq]
 obtain ⟨uZ1,huZ1,h⟩:=bind_s h
 have huZ1g:=grd_s huZ1
 obtain ⟨uZ2,huZ2,h⟩:=bind_s h
 have huZ2g:=grd_s huZ2
 cases h
 exact ZL (ZA huZ1g huZ2g) @V89.eq_1
theorem w_cf (lZ0:List Int) {r:List Int} (h:M_cf lZ0=some r):Ok Tryz.prog 194 [.lst .o 1 (lZ0.map AV.i)] ((fun r=>.lst .u 1 (r.map AV.i)) r):=by
 refine ok_of_body hmix m194 rfl ?_
 unfold M_cf at h
 simp only [ZC,A194,V194,body_eq]
 obtain ⟨uZ1,huZ1,h⟩:=bind_s h
 have huZ1g:=grd_s huZ1
 cases h
 exact ZL huZ1g @V194.eq_1
theorem w_fr (rZ0:TRoute) {r:TRoute} (h:M_fr rZ0=some r):Ok Tryz.prog 193 [.agg [.i rZ0.Start,.lst .o 1 (rZ0.Fibers.map AV.i)]] ((fun r=>.agg [.i r.Start,.lst .u 1 (r.Fibers.map AV.i)]) r):=by
 refine ok_of_body hmix m193 rfl ?_
 unfold M_fr at h
 simp only [ZC,A193,V193,body_eq]
 obtain ⟨rZ1,hrZ1,h⟩:=bind_s h
 refine ZF trivial ?_
 refine ZU trivial (w_cf _ hrZ1) ?_
 refine ZG ?_
 cases h
 exact ZL trivial @V193.eq_1
theorem w_cp (xZ0:TLight) {r:TLight} (h:M_cp xZ0=some r):Ok Tryz.prog 141 [.agg [.i xZ0.Id,.i xZ0.Route.Start,.lst .o 1 (xZ0.Route.Fibers.map AV.i),.i xZ0.Block.First,.i xZ0.Block.Count]] ((fun r=>.agg [.i r.Id,.i r.Route.Start,.lst .u 1 (r.Route.Fibers.map AV.i),.i r.Block.First,.i r.Block.Count]) r):=by
 refine ok_of_body hmix m141 rfl ?_
 unfold M_cp at h
 simp only [ZC,A141,V141,body_eq]
 obtain ⟨rZ1,hrZ1,h⟩:=bind_s h
 refine ZF trivial ?_
 refine ZU trivial (w_fr _ hrZ1) ?_
 refine ZG ?_
 cases h
 exact ZL trivial @V141.eq_1
def S_aj (pZ0:TPlan) (rZ1:TNetwork) (v:Int×List TLight):St:=⟨[(1,.pt 1 0 0),(2,.pt 2 0 0),(3,.pt 3 0 0),(4,.i v.1)],[(1,.var (.agg [.lst .o 1 (pZ0.Network.Nodes.map AV.z),.lst .o 4 (pZ0.Network.Fibers.map (e_TFiber .o)),.lst .o 5 (pZ0.Lights.map (e_TLight .o))])),(2,.var (.agg [.lst .u 1 [],.lst .u 4 [],.lst .u 5 []])),(3,.var (.agg [.sl 500000192 0 rZ1.Nodes.length,.sl 500000193 0 rZ1.Fibers.length,.sl 500000194 0 v.2.length])),(500000192,.arr 1 (rZ1.Nodes.map AV.z)),(500000193,.arr 4 (rZ1.Fibers.map (e_TFiber .u))),(500000194,.arr 5 (v.2.map (e_TLight .u)))]⟩
def SX_aj (rZ1:TNetwork) (v:List TLight):St:=⟨[(2,.pt 2 0 0),(3,.pt 3 0 0)],[(2,.var (.agg [.lst .u 1 [],.lst .u 4 [],.lst .u 5 []])),(3,.var (.agg [.sl 500000192 0 rZ1.Nodes.length,.sl 500000193 0 rZ1.Fibers.length,.sl 500000194 0 v.length])),(500000192,.arr 1 (rZ1.Nodes.map AV.z)),(500000193,.arr 4 (rZ1.Fibers.map (e_TFiber .u))),(500000194,.arr 5 (v.map (e_TLight .u)))]⟩
theorem w_aj (pZ0:TPlan) (rZ1:TNetwork) (sZ2:Int×List TLight) (o:(Int×List TLight) ⊕ (List TLight)) (h:M_aj pZ0 sZ2=some o):AWP (OkS Tryz.prog) A75L1 (qL [1,2,3,4] [1,2,3,500000192,500000193,500000194] (S_aj pZ0 rZ1) (qX 0 [2,3] [2,3,500000192,500000193,500000194] (SX_aj rZ1)) o) (S_aj pZ0 rZ1 sZ2):=by
 unfold M_aj at h
 simp only [ZC,S_aj,A75L1]
 obtain ⟨cZ3,h⟩ | ⟨cZ3,h⟩:=cond_s h
 · obtain ⟨yZ4,hyZ4,h⟩:=bind_s h
   obtain ⟨hyZ4a,hyZ4b⟩:=geti_s hyZ4
   obtain ⟨rZ5,hrZ5,h⟩:=bind_s h
   refine ZF (ZA cZ3 (ZA hyZ4a hyZ4b)) ?_
   refine ZU (ZA cZ3 (ZA hyZ4a hyZ4b)) (w_cp _ hrZ5) ?_
   refine ZG ?_
   obtain ⟨lZ6,hlZ6,h⟩:=bnd_s h
   have eZ7:Row.arr 5 [(.agg [.i rZ5.Id,.i rZ5.Route.Start,.lst .u 1 (rZ5.Route.Fibers.map AV.i),.i rZ5.Block.First,.i rZ5.Block.Count]:AV)]=Row.arr 5 (lZ6.map (e_TLight .u)):=by rw [← hlZ6]; rfl
   have jjZ8:lZ6.length=1:=by rw [← hlZ6]; rfl
   obtain ⟨uZ9,huZ9,h⟩:=bind_s h
   have huZ9g:=grd_s huZ9
   obtain ⟨lZ10,hlZ10,h⟩:=bnd_s h
   have eZ11:sZ2.2.map (e_TLight .u)++lZ6.map (e_TLight .u)=lZ10.map (e_TLight .u):=by rw [← hlZ10,List.map_append]
   have eZ12:sZ2.2.length+1=lZ10.length:=by simp [← hlZ6,← hlZ10] <;> omega
   rw [eZ12] at huZ9g
   cases h
   exact ZL (ZA cZ3 (ZA hyZ4a (ZA hyZ4b (ZA eZ7 (ZA jjZ8 (ZA huZ9g (ZA eZ11 eZ12))))))) (ZA @S_aj.eq_1 (ZA @SX_aj.eq_1 (ZA hlZ6.symm (ZA hlZ10.symm jjZ8))))
 · cases h
   exact ZL cZ3 (ZA @S_aj.eq_1 @SX_aj.eq_1)
theorem w_bz (pZ0:TPlan) {r:TPlan} (h:M_bz pZ0=some r):Ok Tryz.prog 75 [.agg [.lst .o 1 (pZ0.Network.Nodes.map AV.z),.lst .o 4 (pZ0.Network.Fibers.map (e_TFiber .o)),.lst .o 5 (pZ0.Lights.map (e_TLight .o))]] ((fun r=>.agg [.lst .u 1 (r.Network.Nodes.map AV.z),.lst .u 4 (r.Network.Fibers.map (e_TFiber .u)),.lst .u 5 (r.Lights.map (e_TLight .u))]) r):=by
 refine ok_of_body hmix m75 rfl ?_
 unfold M_bz at h
 simp only [ZC,A75,V75,body_eq]
 obtain ⟨rZ1,hrZ1,h⟩:=bind_s h
 refine ZF trivial ?_
 refine ZU trivial (w_fq _ hrZ1) ?_
 refine ZG ?_
 obtain ⟨oZ13,hoZ13,h⟩:=bind_s h
 try refine ZF trivial ?_
 refine join_rule0 (blk_rule0 (loop_rule (w_aj pZ0 rZ1) hoZ13 ?_)) ?_
 · exact ZK (ZA @S_aj.eq_1 @SX_aj.eq_1)
 · simp only [ZC,SX_aj,A75R2]
   cases h
   exact ZL trivial @V75.eq_1
def S_ak (listZ0:List TLight) (v:Int×List TLight):St:=⟨[(0,.lst .o 5 (listZ0.map (e_TLight .o))),(3,.sl 3 0 v.2.length),(4,.i v.1)],[(3,.arr 5 (v.2.map (e_TLight .u)))]⟩
def SX_ak (v:List TLight):St:=⟨[(3,.sl 3 0 v.length)],[(3,.arr 5 (v.map (e_TLight .u)))]⟩
theorem w_ak (listZ0:List TLight) (sZ1:Int×List TLight) (o:(Int×List TLight) ⊕ (List TLight)) (h:M_ak listZ0 sZ1=some o):AWP (OkS Tryz.prog) A76L1 (qL [0,3,4] [3] (S_ak listZ0) (qX 0 [3] [3] (SX_ak)) o) (S_ak listZ0 sZ1):=by
 unfold M_ak at h
 simp only [ZC,S_ak,A76L1]
 obtain ⟨cZ2,h⟩ | ⟨cZ2,h⟩:=cond_s h
 · obtain ⟨yZ3,hyZ3,h⟩:=bind_s h
   obtain ⟨hyZ3a,hyZ3b⟩:=geti_s hyZ3
   obtain ⟨rZ4,hrZ4,h⟩:=bind_s h
   refine ZF (ZA cZ2 (ZA hyZ3a hyZ3b)) ?_
   refine ZU (ZA cZ2 (ZA hyZ3a hyZ3b)) (w_cp _ hrZ4) ?_
   refine ZG ?_
   obtain ⟨lZ5,hlZ5,h⟩:=bnd_s h
   have eZ6:Row.arr 5 [(.agg [.i rZ4.Id,.i rZ4.Route.Start,.lst .u 1 (rZ4.Route.Fibers.map AV.i),.i rZ4.Block.First,.i rZ4.Block.Count]:AV)]=Row.arr 5 (lZ5.map (e_TLight .u)):=by rw [← hlZ5]; rfl
   have jjZ7:lZ5.length=1:=by rw [← hlZ5]; rfl
   obtain ⟨uZ8,huZ8,h⟩:=bind_s h
   have huZ8g:=grd_s huZ8
   obtain ⟨lZ9,hlZ9,h⟩:=bnd_s h
   have eZ10:sZ1.2.map (e_TLight .u)++lZ5.map (e_TLight .u)=lZ9.map (e_TLight .u):=by rw [← hlZ9,List.map_append]
   have eZ11:sZ1.2.length+1=lZ9.length:=by simp [← hlZ5,← hlZ9] <;> omega
   rw [eZ11] at huZ8g
   cases h
   exact ZL (ZA cZ2 (ZA hyZ3a (ZA hyZ3b (ZA eZ6 (ZA jjZ7 (ZA huZ8g (ZA eZ10 eZ11))))))) (ZA @S_ak.eq_1 (ZA @SX_ak.eq_1 (ZA hlZ5.symm (ZA hlZ9.symm jjZ7))))
 · cases h
   exact ZL cZ2 (ZA @S_ak.eq_1 @SX_ak.eq_1)
theorem w_ep (listZ0:List TLight) {r:List TLight} (h:M_ep listZ0=some r):Ok Tryz.prog 76 [.lst .o 5 (listZ0.map (e_TLight .o))] ((fun r=>.lst .u 5 (r.map (e_TLight .u))) r):=by
 refine ok_of_body hmix m76 rfl ?_
 unfold M_ep at h
 simp only [ZC,A76,V76,body_eq]
 obtain ⟨oZ12,hoZ12,h⟩:=bind_s h
 try refine ZF trivial ?_
 refine join_rule0 (blk_rule0 (loop_rule (w_ak listZ0) hoZ12 ?_)) ?_
 · exact ZK (ZA @S_ak.eq_1 @SX_ak.eq_1)
 · simp only [ZC,SX_ak,A76R2]
   cases h
   exact ZL trivial @V76.eq_1
theorem w_cz (rZ0:TRestoration) {r:TRestoration} (h:M_cz rZ0=some r):Ok Tryz.prog 143 [.agg [.lst .o 1 (rZ0.Plan.Network.Nodes.map AV.z),.lst .o 4 (rZ0.Plan.Network.Fibers.map (e_TFiber .o)),.lst .o 5 (rZ0.Plan.Lights.map (e_TLight .o)),.lst .o 5 (rZ0.Home.map (e_TLight .o)),.lst .o 1 (rZ0.Down.map AV.i)]] ((fun r=>.agg [.lst .u 1 (r.Plan.Network.Nodes.map AV.z),.lst .u 4 (r.Plan.Network.Fibers.map (e_TFiber .u)),.lst .u 5 (r.Plan.Lights.map (e_TLight .u)),.lst .u 5 (r.Home.map (e_TLight .u)),.lst .u 1 (r.Down.map AV.i)]) r):=by
 refine ok_of_body hmix m143 rfl ?_
 unfold M_cz at h
 simp only [ZC,A143,V143,body_eq]
 obtain ⟨rZ1,hrZ1,h⟩:=bind_s h
 refine ZF trivial ?_
 refine ZU trivial (w_bz _ hrZ1) ?_
 refine ZG ?_
 obtain ⟨rZ2,hrZ2,h⟩:=bind_s h
 refine ZF trivial ?_
 refine ZU trivial (w_ep _ hrZ2) ?_
 refine ZG ?_
 obtain ⟨rZ3,hrZ3,h⟩:=bind_s h
 refine ZF trivial ?_
 refine ZU trivial (w_cf _ hrZ3) ?_
 refine ZG ?_
 cases h
 exact ZL trivial @V143.eq_1
def S_i (aaZ0:Int) (abZ0:List Int) (v:Int):St:=⟨[(0,.sl 1000000000 0 abZ0.length),(1,.i aaZ0),(5,.i v)],[(1000000000,.arr 1 (abZ0.map AV.i))]⟩
def SX_i (aaZ0:Int) (abZ0:List Int) (v:Int):St:=⟨[(0,.sl 1000000000 0 abZ0.length),(1,.i aaZ0),(5,.i v)],[(1000000000,.arr 1 (abZ0.map AV.i))]⟩
theorem w_i (aaZ0:Int) (abZ0:List Int) (sZ1:Int) (o:Int ⊕ Int) (h:M_i aaZ0 abZ0 sZ1=some o):AWP (OkS Tryz.prog) A169M1L1 (qL [0,1,5] [1000000000] (S_i aaZ0 abZ0) (qX 0 [0,1,5] [1000000000] (SX_i aaZ0 abZ0)) o) (S_i aaZ0 abZ0 sZ1):=by
 unfold M_i at h
 simp only [ZC,S_i,A169M1L1]
 obtain ⟨cZ2,h⟩ | ⟨cZ2,h⟩:=cond_s h
 · obtain ⟨kZ3,hkZ3,h⟩:=bind_s h
   obtain ⟨hkZ3a,hkZ3b⟩:=grd_s hkZ3
   obtain ⟨yZ4,hyZ4,h⟩:=bind_s h
   obtain ⟨cZ5,h⟩ | ⟨cZ5,h⟩:=cond_s h
   · cases h
     exact ZL (ZA cZ2 (ZA hkZ3a (ZA hkZ3b (ZA hyZ4 cZ5)))) (ZA @S_i.eq_1 @SX_i.eq_1)
   · cases h
     exact ZL (ZA cZ2 (ZA hkZ3a (ZA hkZ3b (ZA hyZ4 cZ5)))) (ZA @S_i.eq_1 @SX_i.eq_1)
 · cases h
   exact ZL cZ2 (ZA @S_i.eq_1 @SX_i.eq_1)
theorem w_eq (aaZ0:Int) (abZ0:List Int) {r:List Int} (h:M_eq aaZ0 abZ0=some r):OkM Tryz.prog 169 [.sl 1000000000 0 abZ0.length,.i aaZ0] [(1000000000,.arr 1 (abZ0.map AV.i))] ((fun (r:List Int)=>.sl 4 0 r.length) r) ((fun (r:List Int)=>[(4,.arr 1 (r.map AV.i))]) r):=by
 refine okM_of_body (lr:=[4]) hmix m169M1 rfl rfl ?_
 unfold M_eq at h
 simp only [ZC,A169M1,V169M1]
 obtain ⟨oZ6,hoZ6,h⟩:=bind_s h
 try refine ZF trivial ?_
 refine join_rule0 (blk_rule0 (loop_rule (w_i aaZ0 abZ0) hoZ6 ?_)) ?_
 · exact ZK (ZA @S_i.eq_1 @SX_i.eq_1)
 · simp only [ZC,SX_i,A169M1R2]
   obtain ⟨oZ10,hoZ10,h⟩:=bind_s h
   try refine ZF trivial ?_
   refine join_rule0 (sh:=(fun v=>⟨[(0,.sl 1000000000 0 abZ0.length),(1,.i aaZ0),(5,.i oZ6),(31,.b v)],[(1000000000,.arr 1 (abZ0.map AV.i))]⟩)) (s:=oZ10) ?_ ?_
   · replace h:=hoZ10
     obtain ⟨cZ7,h⟩ | ⟨cZ7,h⟩:=cond_s h
     · obtain ⟨kZ8,hkZ8,h⟩:=bind_s h
       obtain ⟨hkZ8a,hkZ8b⟩:=grd_s hkZ8
       obtain ⟨yZ9,hyZ9,h⟩:=bind_s h
       cases h
       exact ZL (ZA cZ7 (ZA hkZ8a (ZA hkZ8b hyZ9))) trivial
     · cases h
       exact ZL cZ7 trivial
   · simp only [ZC,A169M1R3]
     obtain ⟨cZ11,h⟩ | ⟨cZ11,h⟩:=cond_s h
     · cases h
       exact ZL cZ11 @V169M1.eq_1
     · obtain ⟨uZ12,huZ12,h⟩:=bind_s h
       obtain ⟨huZ12a,huZ12b,huZ12c,huZ12d⟩:=grd_s huZ12
       obtain ⟨lZ13,hlZ13,h⟩:=bnd_s h
       have eZ14:sub (abZ0.map AV.i) 0 (Int.toNat oZ6)=lZ13.map AV.i:=by rw [sub_mapT,hlZ13]
       obtain ⟨uZ15,huZ15,h⟩:=bind_s h
       have huZ15g:=grd_s huZ15
       obtain ⟨lZ16,hlZ16,h⟩:=bnd_s h
       have eZ17:Row.arr 1 [(.i aaZ0:AV)]=Row.arr 1 (lZ16.map AV.i):=by rw [← hlZ16]; rfl
       have jjZ18:lZ16.length=1:=by rw [← hlZ16]; rfl
       obtain ⟨uZ19,huZ19,h⟩:=bind_s h
       have huZ19g:=grd_s huZ19
       obtain ⟨lZ20,hlZ20,h⟩:=bnd_s h
       have eZ21:lZ13.map AV.i++lZ16.map AV.i=lZ20.map AV.i:=by rw [← hlZ20,List.map_append]
       have eZ22:lZ13.length+1=lZ20.length:=by simp [← hlZ16,← hlZ20] <;> omega
       rw [eZ22] at huZ19g
       obtain ⟨uZ23,huZ23,h⟩:=bind_s h
       obtain ⟨huZ23a,huZ23b,huZ23c,huZ23d⟩:=grd_s huZ23
       obtain ⟨lZ24,hlZ24,h⟩:=bnd_s h
       have eZ25:sub (abZ0.map AV.i) (Int.toNat oZ6) (abZ0.length - (Int.toNat oZ6))=lZ24.map AV.i:=by rw [sub_mapT,hlZ24]
       obtain ⟨uZ26,huZ26,h⟩:=bind_s h
       have huZ26g:=grd_s huZ26
       obtain ⟨lZ27,hlZ27,h⟩:=bnd_s h
       have eZ28:lZ20.map AV.i++lZ24.map AV.i=lZ27.map AV.i:=by rw [← hlZ27,List.map_append]
       have eZ29:lZ20.length+lZ24.length=lZ27.length:=by simp [← hlZ16,← hlZ20,← hlZ27] <;> omega
       rw [eZ29] at huZ26g
       cases h
       exact ZL (ZA cZ11 (ZA huZ12a (ZA huZ12b (ZA huZ12c (ZA huZ12d (ZA eZ14 (ZA huZ15g (ZA eZ17 (ZA jjZ18 (ZA huZ19g (ZA eZ21 (ZA eZ22 (ZA huZ23a (ZA huZ23b (ZA huZ23c (ZA huZ23d (ZA eZ25 (ZA huZ26g (ZA eZ28 eZ29))))))))))))))))))) (ZA @V169M1.eq_1 (ZA hlZ16.symm (ZA hlZ20.symm (ZA hlZ27.symm jjZ18))))
def S_al (pZ0:TPlan) (idZ0:Int) (v:Int):St:=⟨[(1,.i idZ0),(2,.pt 2 0 0),(5,.i v)],[(2,.var (.agg [.lst .o 1 (pZ0.Network.Nodes.map AV.z),.lst .o 4 (pZ0.Network.Fibers.map (e_TFiber .o)),.lst .o 5 (pZ0.Lights.map (e_TLight .o))]))]⟩
def SX_al (v:Unit):St:=⟨[],[]⟩
theorem w_al (pZ0:TPlan) (idZ0:Int) (sZ1:Int) (o:Int ⊕ (Unit ⊕ Int)) (h:M_al pZ0 idZ0 sZ1=some o):AWP (OkS Tryz.prog) A116L1 (qL [1,2,5] [2] (S_al pZ0 idZ0) (qS (qX 0 [] [] (SX_al)) (qR V116 (fun r=>.i r))) o) (S_al pZ0 idZ0 sZ1):=by
 unfold M_al at h
 simp only [ZC,S_al,A116L1]
 obtain ⟨cZ2,h⟩ | ⟨cZ2,h⟩:=cond_s h
 · obtain ⟨yZ3,hyZ3,h⟩:=bind_s h
   obtain ⟨hyZ3a,hyZ3b⟩:=geti_s hyZ3
   obtain ⟨cZ4,h⟩ | ⟨cZ4,h⟩:=cond_s h
   · cases h
     exact ZL (ZA cZ2 (ZA hyZ3a (ZA hyZ3b cZ4))) @V116.eq_1
   · cases h
     exact ZL (ZA cZ2 (ZA hyZ3a (ZA hyZ3b cZ4))) (ZA @S_al.eq_1 @SX_al.eq_1)
 · cases h
   exact ZL cZ2 (ZA @S_al.eq_1 @SX_al.eq_1)
theorem w_er (pZ0:TPlan) (idZ0:Int) {r:Int} (h:M_er pZ0 idZ0=some r):Ok Tryz.prog 116 [.agg [.lst .o 1 (pZ0.Network.Nodes.map AV.z),.lst .o 4 (pZ0.Network.Fibers.map (e_TFiber .o)),.lst .o 5 (pZ0.Lights.map (e_TLight .o))],.i idZ0] ((fun r=>.i r) r):=by
 refine ok_of_body hmix m116 rfl ?_
 unfold M_er at h
 simp only [ZC,A116,V116,body_eq]
 obtain ⟨oZ5,hoZ5,h⟩:=bind_s h
 try refine ZF trivial ?_
 refine join_rule (o:=oZ5) (blk_rule sideR (loop_rule (w_al pZ0 idZ0) hoZ5 ?_)) (fun vZ6 hv=>?_) (fun xZ7 hv e τ hne hq=>?_)
 · exact ZK (ZA @S_al.eq_1 @SX_al.eq_1)
 · subst hv
   simp only [] at h
   simp only [ZC,SX_al,A116R2]
   cases h
   exact ZL trivial @V116.eq_1
 · subst hv
   simp only [] at h
   obtain ⟨rfl,qZ8⟩:=hq
   cases h
   exact qZ8
theorem w_do (aaZ0:Int) (abZ0:List ByteArray) (acZ0:List TFiber) (adZ0:List TLight) {r:List ByteArray×List TLight×List TFiber×List ByteArray×List TFiber×List TLight} (h:M_do aaZ0 abZ0 acZ0 adZ0=some r):OkM Tryz.prog 165 [.agg [.sl 1000000000 0 abZ0.length,.sl 1000000001 0 acZ0.length,.sl 1000000002 0 adZ0.length],.i aaZ0] [(1000000000,.arr 1 (abZ0.map AV.z)),(1000000001,.arr 4 (acZ0.map (e_TFiber .u))),(1000000002,.arr 5 (adZ0.map (e_TLight .m)))] ((fun (r:List ByteArray×List TLight×List TFiber×List ByteArray×List TFiber×List TLight)=>.agg [.sl 7 0 r.1.length,.sl 1007 0 r.2.2.1.length,.sl 19 0 r.2.1.length]) r) ((fun (r:List ByteArray×List TLight×List TFiber×List ByteArray×List TFiber×List TLight)=>[(7,.arr 1 (r.1.map AV.z)),(19,.arr 5 (r.2.1.map (e_TLight .m))),(1007,.arr 4 (r.2.2.1.map (e_TFiber .u))),(1000000000,.arr 1 (r.2.2.2.1.map AV.z)),(1000000001,.arr 4 (r.2.2.2.2.1.map (e_TFiber .u))),(1000000002,.arr 5 (r.2.2.2.2.2.map (e_TLight .m)))]) r):=by
 refine okM_of_body (lr:=[7,19,1007,1000000000,1000000001,1000000002]) hmix m165M2 rfl rfl ?_
 unfold M_do at h
 simp only [ZC,A165M2,V165M2]
 obtain ⟨rZ1,hrZ1,h⟩:=bind_s h
 refine ZF trivial ?_
 refine ZU trivial (w_bz _ hrZ1) ?_
 refine ZG ?_
 obtain ⟨uZ2,huZ2,h⟩:=bind_s h
 obtain ⟨huZ2a,huZ2b,huZ2c,huZ2d⟩:=grd_s huZ2
 obtain ⟨lZ3,hlZ3,h⟩:=bnd_s h
 have eZ4:sub (rZ1.Lights.map (e_TLight .u)) 0 (Int.toNat aaZ0)=lZ3.map (e_TLight .u):=by rw [sub_mapT,hlZ3]
 obtain ⟨uZ5,huZ5,h⟩:=bind_s h
 have huZ5g:=grd_s huZ5
 obtain ⟨uZ6,huZ6,h⟩:=bind_s h
 obtain ⟨huZ6a,huZ6b,huZ6c,huZ6d⟩:=grd_s huZ6
 obtain ⟨lZ7,hlZ7,h⟩:=bnd_s h
 have eZ8:sub (rZ1.Lights.map (e_TLight .u)) (Int.toNat (IntKind.wrap .i64 (aaZ0+1))) (rZ1.Lights.length - (Int.toNat (IntKind.wrap .i64 (aaZ0+1))))=lZ7.map (e_TLight .u):=by rw [sub_mapT,hlZ7]
 obtain ⟨uZ9,huZ9,h⟩:=bind_s h
 have huZ9g:=grd_s huZ9
 obtain ⟨lZ10,hlZ10,h⟩:=bnd_s h
 have eZ11:lZ3.map (e_TLight .m)++lZ7.map (e_TLight .m)=lZ10.map (e_TLight .m):=by rw [← hlZ10,List.map_append]
 have eZ12:lZ3.length+lZ7.length=lZ10.length:=by simp [← hlZ10] <;> omega
 rw [eZ12] at huZ9g
 cases h
 exact ZL (ZA huZ2a (ZA huZ2b (ZA huZ2c (ZA huZ2d (ZA eZ4 (ZA huZ5g (ZA huZ6a (ZA huZ6b (ZA huZ6c (ZA huZ6d (ZA eZ8 (ZA huZ9g (ZA eZ11 eZ12))))))))))))) (ZA @V165M2.eq_1 hlZ10.symm)
def S_q (aaZ0:List ByteArray) (abZ0:List TFiber) (acZ0:List TLight) (adZ0:List TLight) (aeZ0:List Int) (afZ0:List Int) (rZ1:TRestoration) (v:Int×List Int):St:=⟨[(1,.sl 1000000005 0 afZ0.length),(2,.pt 2 0 0),(4,.pt 4 0 0),(6,.pt 6 0 0),(7,.sl 7 0 0),(8,.i v.1)],[(2,.var (.agg [.sl 1000000000 0 aaZ0.length,.sl 1000000001 0 abZ0.length,.sl 1000000002 0 acZ0.length,.sl 1000000003 0 adZ0.length,.sl 1000000004 0 aeZ0.length])),(4,.var (.agg [.lst .u 1 [],.lst .u 4 [],.lst .u 5 [],.lst .u 5 [],.lst .u 1 []])),(6,.var (.agg [.sl 500000384 0 rZ1.Plan.Network.Nodes.length,.sl 500000385 0 rZ1.Plan.Network.Fibers.length,.sl 500000386 0 rZ1.Plan.Lights.length,.sl 500000387 0 rZ1.Home.length,.sl 500000388 0 v.2.length])),(7,.arr 1 []),(500000384,.arr 1 (rZ1.Plan.Network.Nodes.map AV.z)),(500000385,.arr 4 (rZ1.Plan.Network.Fibers.map (e_TFiber .u))),(500000386,.arr 5 (rZ1.Plan.Lights.map (e_TLight .m))),(500000387,.arr 5 (rZ1.Home.map (e_TLight .u))),(500000388,.arr 1 (v.2.map AV.i)),(1000000000,.arr 1 (aaZ0.map AV.z)),(1000000001,.arr 4 (abZ0.map (e_TFiber .u))),(1000000002,.arr 5 (acZ0.map (e_TLight .u))),(1000000003,.arr 5 (adZ0.map (e_TLight .u))),(1000000004,.arr 1 (aeZ0.map AV.i)),(1000000005,.arr 1 (afZ0.map AV.i))]⟩
def SX_q (aaZ0:List ByteArray) (abZ0:List TFiber) (acZ0:List TLight) (adZ0:List TLight) (aeZ0:List Int) (afZ0:List Int) (rZ1:TRestoration) (v:List Int):St:=⟨[(1,.sl 1000000005 0 afZ0.length),(2,.pt 2 0 0),(4,.pt 4 0 0),(6,.pt 6 0 0),(7,.sl 7 0 0)],[(2,.var (.agg [.sl 1000000000 0 aaZ0.length,.sl 1000000001 0 abZ0.length,.sl 1000000002 0 acZ0.length,.sl 1000000003 0 adZ0.length,.sl 1000000004 0 aeZ0.length])),(4,.var (.agg [.lst .u 1 [],.lst .u 4 [],.lst .u 5 [],.lst .u 5 [],.lst .u 1 []])),(6,.var (.agg [.sl 500000384 0 rZ1.Plan.Network.Nodes.length,.sl 500000385 0 rZ1.Plan.Network.Fibers.length,.sl 500000386 0 rZ1.Plan.Lights.length,.sl 500000387 0 rZ1.Home.length,.sl 500000388 0 v.length])),(7,.arr 1 []),(500000384,.arr 1 (rZ1.Plan.Network.Nodes.map AV.z)),(500000385,.arr 4 (rZ1.Plan.Network.Fibers.map (e_TFiber .u))),(500000386,.arr 5 (rZ1.Plan.Lights.map (e_TLight .m))),(500000387,.arr 5 (rZ1.Home.map (e_TLight .u))),(500000388,.arr 1 (v.map AV.i)),(1000000000,.arr 1 (aaZ0.map AV.z)),(1000000001,.arr 4 (abZ0.map (e_TFiber .u))),(1000000002,.arr 5 (acZ0.map (e_TLight .u))),(1000000003,.arr 5 (adZ0.map (e_TLight .u))),(1000000004,.arr 1 (aeZ0.map AV.i)),(1000000005,.arr 1 (afZ0.map AV.i))]⟩
theorem w_q (aaZ0:List ByteArray) (abZ0:List TFiber) (acZ0:List TLight) (adZ0:List TLight) (aeZ0:List Int) (afZ0:List Int) (rZ1:TRestoration) (sZ2:Int×List Int) (o:(Int×List Int) ⊕ (List Int)) (h:M_q afZ0 sZ2=some o):AWP (OkS Tryz.prog) A109M2L1 (qL [1,2,4,6,7,8] [2,4,6,7,500000384,500000385,500000386,500000387,500000388,1000000000,1000000001,1000000002,1000000003,1000000004,1000000005] (S_q aaZ0 abZ0 acZ0 adZ0 aeZ0 afZ0 rZ1) (qX 0 [1,2,4,6,7] [2,4,6,7,500000384,500000385,500000386,500000387,500000388,1000000000,1000000001,1000000002,1000000003,1000000004,1000000005] (SX_q aaZ0 abZ0 acZ0 adZ0 aeZ0 afZ0 rZ1)) o) (S_q aaZ0 abZ0 acZ0 adZ0 aeZ0 afZ0 rZ1 sZ2):=by
 unfold M_q at h
 simp only [ZC,S_q,A109M2L1]
 obtain ⟨cZ3,h⟩ | ⟨cZ3,h⟩:=cond_s h
 · obtain ⟨kZ4,hkZ4,h⟩:=bind_s h
   obtain ⟨hkZ4a,hkZ4b⟩:=grd_s hkZ4
   obtain ⟨yZ5,hyZ5,h⟩:=bind_s h
   obtain ⟨rZ6,hrZ6,h⟩:=bind_s h
   refine ZF (ZA cZ3 (ZA hkZ4a (ZA hkZ4b hyZ5))) ?_
   refine ZW (ZA cZ3 (ZA hkZ4a (ZA hkZ4b hyZ5))) (w_eq _ _ hrZ6) (h2:=by first | exact nm_ok [4] rfl (by decide +kernel) | exact nm_ok2 [4] [2700004] rfl (by decide +kernel) ZQ | exact ZQ) (hk:=?_)
   refine ZG ?_
   cases h
   exact ZL (ZA cZ3 (ZA hkZ4a (ZA hkZ4b hyZ5))) (ZA @S_q.eq_1 @SX_q.eq_1)
 · cases h
   exact ZL cZ3 (ZA @S_q.eq_1 @SX_q.eq_1)
def S_d (aaZ0:List ByteArray) (abZ0:List TFiber) (acZ0:List TLight) (adZ0:List TLight) (aeZ0:List Int) (afZ0:List Int) (rZ1:TRestoration) (oZ7:List Int) (v:Int×List Int×List ByteArray×List TFiber×List TLight):St:=⟨[(1,.sl 1000000005 0 afZ0.length),(2,.pt 2 0 0),(4,.pt 4 0 0),(6,.pt 6 0 0),(7,.sl 7 0 v.2.1.length),(9,.i v.1)],[(2,.var (.agg [.sl 1000000000 0 aaZ0.length,.sl 1000000001 0 abZ0.length,.sl 1000000002 0 acZ0.length,.sl 1000000003 0 adZ0.length,.sl 1000000004 0 aeZ0.length])),(4,.var (.agg [.lst .u 1 [],.lst .u 4 [],.lst .u 5 [],.lst .u 5 [],.lst .u 1 []])),(6,.var (.agg [.sl 500000384 0 v.2.2.1.length,.sl 500000385 0 v.2.2.2.1.length,.sl 500000386 0 v.2.2.2.2.length,.sl 500000387 0 rZ1.Home.length,.sl 500000388 0 oZ7.length])),(7,.arr 1 (v.2.1.map AV.i)),(500000384,.arr 1 (v.2.2.1.map AV.z)),(500000385,.arr 4 (v.2.2.2.1.map (e_TFiber .u))),(500000386,.arr 5 (v.2.2.2.2.map (e_TLight .m))),(500000387,.arr 5 (rZ1.Home.map (e_TLight .u))),(500000388,.arr 1 (oZ7.map AV.i)),(1000000000,.arr 1 (aaZ0.map AV.z)),(1000000001,.arr 4 (abZ0.map (e_TFiber .u))),(1000000002,.arr 5 (acZ0.map (e_TLight .u))),(1000000003,.arr 5 (adZ0.map (e_TLight .u))),(1000000004,.arr 1 (aeZ0.map AV.i)),(1000000005,.arr 1 (afZ0.map AV.i))]⟩
def SX_d (aaZ0:List ByteArray) (abZ0:List TFiber) (acZ0:List TLight) (adZ0:List TLight) (aeZ0:List Int) (afZ0:List Int) (rZ1:TRestoration) (oZ7:List Int) (v:List Int×List ByteArray×List TFiber×List TLight):St:=⟨[(4,.pt 4 0 0),(6,.pt 6 0 0),(7,.sl 7 0 v.1.length)],[(4,.var (.agg [.lst .u 1 [],.lst .u 4 [],.lst .u 5 [],.lst .u 5 [],.lst .u 1 []])),(6,.var (.agg [.sl 500000384 0 v.2.1.length,.sl 500000385 0 v.2.2.1.length,.sl 500000386 0 v.2.2.2.length,.sl 500000387 0 rZ1.Home.length,.sl 500000388 0 oZ7.length])),(7,.arr 1 (v.1.map AV.i)),(500000384,.arr 1 (v.2.1.map AV.z)),(500000385,.arr 4 (v.2.2.1.map (e_TFiber .u))),(500000386,.arr 5 (v.2.2.2.map (e_TLight .m))),(500000387,.arr 5 (rZ1.Home.map (e_TLight .u))),(500000388,.arr 1 (oZ7.map AV.i)),(1000000000,.arr 1 (aaZ0.map AV.z)),(1000000001,.arr 4 (abZ0.map (e_TFiber .u))),(1000000002,.arr 5 (acZ0.map (e_TLight .u))),(1000000003,.arr 5 (adZ0.map (e_TLight .u))),(1000000004,.arr 1 (aeZ0.map AV.i)),(1000000005,.arr 1 (afZ0.map AV.i))]⟩
theorem w_d (aaZ0:List ByteArray) (abZ0:List TFiber) (acZ0:List TLight) (adZ0:List TLight) (aeZ0:List Int) (afZ0:List Int) (rZ1:TRestoration) (oZ7:List Int) (sZ8:Int×List Int×List ByteArray×List TFiber×List TLight) (o:(Int×List Int×List ByteArray×List TFiber×List TLight) ⊕ (List Int×List ByteArray×List TFiber×List TLight)) (h:M_d acZ0 afZ0 sZ8=some o):AWP (OkS Tryz.prog) A109M2L3 (qL [1,2,4,6,7,9] [2,4,6,7,500000384,500000385,500000386,500000387,500000388,1000000000,1000000001,1000000002,1000000003,1000000004,1000000005] (S_d aaZ0 abZ0 acZ0 adZ0 aeZ0 afZ0 rZ1 oZ7) (qX 2 [4,6,7] [4,6,7,500000384,500000385,500000386,500000387,500000388,1000000000,1000000001,1000000002,1000000003,1000000004,1000000005] (SX_d aaZ0 abZ0 acZ0 adZ0 aeZ0 afZ0 rZ1 oZ7)) o) (S_d aaZ0 abZ0 acZ0 adZ0 aeZ0 afZ0 rZ1 oZ7 sZ8):=by
 unfold M_d at h
 simp only [ZC,S_d,A109M2L3]
 obtain ⟨cZ9,h⟩ | ⟨cZ9,h⟩:=cond_s h
 · obtain ⟨kZ10,hkZ10,h⟩:=bind_s h
   obtain ⟨hkZ10a,hkZ10b⟩:=grd_s hkZ10
   obtain ⟨yZ11,hyZ11,h⟩:=bind_s h
   obtain ⟨rZ12,hrZ12,h⟩:=bind_s h
   refine ZF (ZA cZ9 (ZA hkZ10a (ZA hkZ10b hyZ11))) ?_
   refine ZS (ZA cZ9 (ZA hkZ10a (ZA hkZ10b hyZ11))) (w_bs _ _ hrZ12) ?_
   refine ZG ?_
   obtain ⟨cZ13,h⟩ | ⟨cZ13,h⟩:=cond_s h
   · obtain ⟨lZ14,hlZ14,h⟩:=bnd_s h
     have eZ15:Row.arr 1 [(.i yZ11.Id:AV)]=Row.arr 1 (lZ14.map AV.i):=by rw [← hlZ14]; rfl
     have jjZ16:lZ14.length=1:=by rw [← hlZ14]; rfl
     obtain ⟨uZ17,huZ17,h⟩:=bind_s h
     have huZ17g:=grd_s huZ17
     obtain ⟨lZ18,hlZ18,h⟩:=bnd_s h
     have eZ19:sZ8.2.1.map AV.i++lZ14.map AV.i=lZ18.map AV.i:=by rw [← hlZ18,List.map_append]
     have eZ20:sZ8.2.1.length+1=lZ18.length:=by simp [← hlZ14,← hlZ18] <;> omega
     rw [eZ20] at huZ17g
     obtain ⟨rZ21,hrZ21,h⟩:=bind_s h
     refine ZF (ZA cZ9 (ZA hkZ10a (ZA hkZ10b (ZA hyZ11 (ZA cZ13 (ZA eZ15 (ZA jjZ16 (ZA huZ17g (ZA eZ19 eZ20))))))))) ?_
     refine ZS (ZA cZ9 (ZA hkZ10a (ZA hkZ10b (ZA hyZ11 (ZA cZ13 (ZA eZ15 (ZA jjZ16 (ZA huZ17g (ZA eZ19 eZ20))))))))) (w_er _ _ hrZ21) ?_
     refine ZG ?_
     obtain ⟨rZ22,hrZ22,h⟩:=bind_s h
     refine ZF (ZA cZ9 (ZA hkZ10a (ZA hkZ10b (ZA hyZ11 (ZA cZ13 (ZA eZ15 (ZA jjZ16 (ZA huZ17g (ZA eZ19 eZ20))))))))) ?_
     refine ZW (ZA cZ9 (ZA hkZ10a (ZA hkZ10b (ZA hyZ11 (ZA cZ13 (ZA eZ15 (ZA jjZ16 (ZA huZ17g (ZA eZ19 eZ20))))))))) (w_do _ _ _ _ hrZ22) (h2:=by first | exact nm_ok [7,19,1007,1000000000,1000000001,1000000002] rfl (by decide +kernel) | exact nm_ok2 [7,19,1007,1000000000,1000000001,1000000002] [5900007,5900019,5901007] rfl (by decide +kernel) ZQ | exact ZQ) (hk:=?_)
     refine ZG ?_
     cases h
     exact ZL (ZA cZ9 (ZA hkZ10a (ZA hkZ10b (ZA hyZ11 (ZA cZ13 (ZA eZ15 (ZA jjZ16 (ZA huZ17g (ZA eZ19 eZ20))))))))) (ZA @S_d.eq_1 (ZA @SX_d.eq_1 (ZA hlZ14.symm (ZA hlZ18.symm jjZ16))))
   · cases h
     exact ZL (ZA cZ9 (ZA hkZ10a (ZA hkZ10b (ZA hyZ11 cZ13)))) (ZA @S_d.eq_1 @SX_d.eq_1)
 · cases h
   exact ZL cZ9 (ZA @S_d.eq_1 @SX_d.eq_1)
theorem w_dp (aaZ0:List ByteArray) (abZ0:List TFiber) (acZ0:List TLight) (adZ0:List TLight) (aeZ0:List Int) (afZ0:List Int) {r:List Int×List ByteArray×List TFiber×List TLight×List TLight×List Int×List ByteArray×List TFiber×List TLight×List TLight×List Int×List Int} (h:M_dp aaZ0 abZ0 acZ0 adZ0 aeZ0 afZ0=some r):OkM Tryz.prog 109 [.agg [.sl 1000000000 0 aaZ0.length,.sl 1000000001 0 abZ0.length,.sl 1000000002 0 acZ0.length,.sl 1000000003 0 adZ0.length,.sl 1000000004 0 aeZ0.length],.sl 1000000005 0 afZ0.length] [(1000000000,.arr 1 (aaZ0.map AV.z)),(1000000001,.arr 4 (abZ0.map (e_TFiber .u))),(1000000002,.arr 5 (acZ0.map (e_TLight .u))),(1000000003,.arr 5 (adZ0.map (e_TLight .u))),(1000000004,.arr 1 (aeZ0.map AV.i)),(1000000005,.arr 1 (afZ0.map AV.i))] ((fun (r:List Int×List ByteArray×List TFiber×List TLight×List TLight×List Int×List ByteArray×List TFiber×List TLight×List TLight×List Int×List Int)=>.tup [.agg [.sl 500000256 0 r.2.1.length,.sl 500000257 0 r.2.2.1.length,.sl 500000258 0 r.2.2.2.1.length,.sl 500000259 0 r.2.2.2.2.1.length,.sl 500000260 0 r.2.2.2.2.2.1.length],.sl 5 0 r.1.length]) r) ((fun (r:List Int×List ByteArray×List TFiber×List TLight×List TLight×List Int×List ByteArray×List TFiber×List TLight×List TLight×List Int×List Int)=>[(5,.arr 1 (r.1.map AV.i)),(500000256,.arr 1 (r.2.1.map AV.z)),(500000257,.arr 4 (r.2.2.1.map (e_TFiber .u))),(500000258,.arr 5 (r.2.2.2.1.map (e_TLight .m))),(500000259,.arr 5 (r.2.2.2.2.1.map (e_TLight .u))),(500000260,.arr 1 (r.2.2.2.2.2.1.map AV.i)),(1000000000,.arr 1 (r.2.2.2.2.2.2.1.map AV.z)),(1000000001,.arr 4 (r.2.2.2.2.2.2.2.1.map (e_TFiber .u))),(1000000002,.arr 5 (r.2.2.2.2.2.2.2.2.1.map (e_TLight .u))),(1000000003,.arr 5 (r.2.2.2.2.2.2.2.2.2.1.map (e_TLight .u))),(1000000004,.arr 1 (r.2.2.2.2.2.2.2.2.2.2.1.map AV.i)),(1000000005,.arr 1 (r.2.2.2.2.2.2.2.2.2.2.2.map AV.i))]) r):=by
 refine okM_of_body (lr:=[5,500000256,500000257,500000258,500000259,500000260,1000000000,1000000001,1000000002,1000000003,1000000004,1000000005]) hmix m109M2 rfl rfl ?_
 unfold M_dp at h
 simp only [ZC,A109M2,V109M2]
 obtain ⟨rZ1,hrZ1,h⟩:=bind_s h
 refine ZF trivial ?_
 refine ZU trivial (w_cz _ hrZ1) ?_
 refine ZG ?_
 obtain ⟨oZ7,hoZ7,h⟩:=bind_s h
 try refine ZF trivial ?_
 refine join_rule0 (blk_rule0 (loop_rule (w_q aaZ0 abZ0 acZ0 adZ0 aeZ0 afZ0 rZ1) hoZ7 ?_)) ?_
 · exact ZK (ZA @S_q.eq_1 @SX_q.eq_1)
 · simp only [ZC,SX_q,A109M2R2]
   obtain ⟨oZ23,hoZ23,h⟩:=bind_s h
   try refine ZF trivial ?_
   refine join_rule0 (blk_rule0 (loop_rule (w_d aaZ0 abZ0 acZ0 adZ0 aeZ0 afZ0 rZ1 oZ7) hoZ23 ?_)) ?_
   · exact ZK (ZA @S_d.eq_1 @SX_d.eq_1)
   · simp only [ZC,SX_d,A109M2R4]
     cases h
     exact ZL trivial @V109M2.eq_1
theorem w_dq (aaZ0:List ByteArray) (abZ0:List TFiber) (acZ0:List TLight) (adZ0:List TLight) (aeZ0:List Int) (afZ0:List Int) {r:Bool×List Int×List ByteArray×List TFiber×List TLight×List TLight×List Int×List ByteArray×List TFiber×List TLight×List TLight×List Int×List Int} (h:M_dq aaZ0 abZ0 acZ0 adZ0 aeZ0 afZ0=some r):OkM Tryz.prog 47 [.agg [.sl 1000000000 0 aaZ0.length,.sl 1000000001 0 abZ0.length,.sl 1000000002 0 acZ0.length,.sl 1000000003 0 adZ0.length,.sl 1000000004 0 aeZ0.length],.sl 1000000005 0 afZ0.length] [(1000000000,.arr 1 (aaZ0.map AV.z)),(1000000001,.arr 4 (abZ0.map (e_TFiber .u))),(1000000002,.arr 5 (acZ0.map (e_TLight .u))),(1000000003,.arr 5 (adZ0.map (e_TLight .u))),(1000000004,.arr 1 (aeZ0.map AV.i)),(1000000005,.arr 1 (afZ0.map AV.i))] ((fun (r:Bool×List Int×List ByteArray×List TFiber×List TLight×List TLight×List Int×List ByteArray×List TFiber×List TLight×List TLight×List Int×List Int)=>.tup [.agg [.sl 500000256 0 r.2.2.1.length,.sl 500000257 0 r.2.2.2.1.length,.sl 500000258 0 r.2.2.2.2.1.length,.sl 500000259 0 r.2.2.2.2.2.1.length,.sl 500000260 0 r.2.2.2.2.2.2.1.length],.sl 5 0 r.2.1.length,.b r.1]) r) ((fun (r:Bool×List Int×List ByteArray×List TFiber×List TLight×List TLight×List Int×List ByteArray×List TFiber×List TLight×List TLight×List Int×List Int)=>[(5,.arr 1 (r.2.1.map AV.i)),(500000256,.arr 1 (r.2.2.1.map AV.z)),(500000257,.arr 4 (r.2.2.2.1.map (e_TFiber .u))),(500000258,.arr 5 (r.2.2.2.2.1.map (e_TLight .m))),(500000259,.arr 5 (r.2.2.2.2.2.1.map (e_TLight .u))),(500000260,.arr 1 (r.2.2.2.2.2.2.1.map AV.i)),(1000000000,.arr 1 (r.2.2.2.2.2.2.2.1.map AV.z)),(1000000001,.arr 4 (r.2.2.2.2.2.2.2.2.1.map (e_TFiber .u))),(1000000002,.arr 5 (r.2.2.2.2.2.2.2.2.2.1.map (e_TLight .u))),(1000000003,.arr 5 (r.2.2.2.2.2.2.2.2.2.2.1.map (e_TLight .u))),(1000000004,.arr 1 (r.2.2.2.2.2.2.2.2.2.2.2.1.map AV.i)),(1000000005,.arr 1 (r.2.2.2.2.2.2.2.2.2.2.2.2.map AV.i))]) r):=by
 refine okM_of_body (lr:=[5,500000256,500000257,500000258,500000259,500000260,1000000000,1000000001,1000000002,1000000003,1000000004,1000000005]) hmix m47M1 rfl rfl ?_
 unfold M_dq at h
 simp only [ZC,A47M1,V47M1]
 obtain ⟨rZ1,hrZ1,h⟩:=bind_s h
 refine ZF trivial ?_
 refine ZS trivial (w_da _ _ hrZ1) ?_
 refine ZG ?_
 obtain ⟨cZ2,h⟩ | ⟨cZ2,h⟩:=cond_s h
 · cases h
   exact ZL cZ2 @V47M1.eq_1
 · obtain ⟨rZ3,hrZ3,h⟩:=bind_s h
   refine ZF cZ2 ?_
   refine ZW cZ2 (w_dp _ _ _ _ _ _ hrZ3) (h2:=by first | exact nm_ok [5,500000256,500000257,500000258,500000259,500000260,1000000000,1000000001,1000000002,1000000003,1000000004,1000000005] rfl (by decide +kernel) | exact nm_ok2 [5,500000256,500000257,500000258,500000259,500000260,1000000000,1000000001,1000000002,1000000003,1000000004,1000000005] [1900005,501900256,501900257,501900258,501900259,501900260] rfl (by decide +kernel) ZQ | exact ZQ) (hk:=?_)
   refine ZG ?_
   cases h
   exact ZL cZ2 @V47M1.eq_1
theorem w_j (nZ0:Int) (lowZ0:Int) (highZ0:Int) {r:Bool} (h:M_j nZ0 lowZ0 highZ0=some r):Ok Tryz.prog 132 [.i nZ0,.i lowZ0,.i highZ0] ((fun r=>.b r) r):=by
 refine ok_of_body hmix m132 rfl ?_
 unfold M_j at h
 simp only [ZC,A132,V132,body_eq]
 obtain ⟨cZ1,h⟩ | ⟨cZ1,h⟩:=cond_s h
 · cases h
   exact ZL cZ1 @V132.eq_1
 · cases h
   exact ZL cZ1 @V132.eq_1
def S_k (sZ0:ByteArray) (v:Int):St:=⟨[(0,.z sZ0),(7,.i (sZ0.size:Int)),(8,.i v)],[]⟩
def SX_k (sZ0:ByteArray) (v:Unit):St:=⟨[(0,.z sZ0)],[]⟩
theorem w_k (sZ0:ByteArray) (sZ1:Int) (o:Int ⊕ (Unit ⊕ Bool)) (h:M_k sZ0 sZ1=some o):AWP (OkS Tryz.prog) A180L2 (qL [0,7,8] [] (S_k sZ0) (qS (qX 0 [0] [] (SX_k sZ0)) (qR V180 (fun r=>.b r))) o) (S_k sZ0 sZ1):=by
 unfold M_k at h
 simp only [ZC,S_k,A180L2]
 obtain ⟨cZ2,h⟩ | ⟨cZ2,h⟩:=cond_s h
 · obtain ⟨oZ7,hoZ7,h⟩:=bind_s h
   try refine ZF cZ2 ?_
   refine join_rule0 (sh:=(fun v=>⟨[(0,.z sZ0),(3,.i sZ1),(4,.b v.1),(5,.b v.2),(7,.i (sZ0.size:Int)),(8,.i sZ1)],[]⟩)) (s:=oZ7) ?_ ?_
   · replace h:=hoZ7
     obtain ⟨yZ3,hyZ3,h⟩:=bind_s h
     obtain ⟨hyZ3a,hyZ3b⟩:=getz_s hyZ3
     obtain ⟨cZ4,h⟩ | ⟨cZ4,h⟩:=cond_s h
     · obtain ⟨cZ5,h⟩ | ⟨cZ5,h⟩:=cond_s h
       · cases h
         exact ZL (ZA cZ2 (ZA hyZ3a (ZA hyZ3b (ZA cZ4 cZ5)))) trivial
       · cases h
         exact ZL (ZA cZ2 (ZA hyZ3a (ZA hyZ3b (ZA cZ4 cZ5)))) trivial
     · obtain ⟨cZ6,h⟩ | ⟨cZ6,h⟩:=cond_s h
       · cases h
         exact ZL (ZA cZ2 (ZA hyZ3a (ZA hyZ3b (ZA cZ4 cZ6)))) trivial
       · cases h
         exact ZL (ZA cZ2 (ZA hyZ3a (ZA hyZ3b (ZA cZ4 cZ6)))) trivial
   · simp only [ZC,A180R1]
     obtain ⟨cZ8,h⟩ | ⟨cZ8,h⟩:=cond_s h
     · obtain ⟨cZ9,h⟩ | ⟨cZ9,h⟩:=cond_s h
       · cases h
         exact ZL (ZA cZ2 (ZA cZ8 cZ9)) @V180.eq_1
       · obtain ⟨cZ10,h⟩ | ⟨cZ10,h⟩:=cond_s h
         · cases h
           exact ZL (ZA cZ2 (ZA cZ8 (ZA cZ9 cZ10))) @V180.eq_1
         · cases h
           exact ZL (ZA cZ2 (ZA cZ8 (ZA cZ9 cZ10))) (ZA @S_k.eq_1 @SX_k.eq_1)
     · cases h
       exact ZL (ZA cZ2 cZ8) (ZA @S_k.eq_1 @SX_k.eq_1)
 · cases h
   exact ZL cZ2 (ZA @S_k.eq_1 @SX_k.eq_1)
theorem w_es (sZ0:ByteArray) {r:Bool} (h:M_es sZ0=some r):Ok Tryz.prog 180 [.z sZ0] ((fun r=>.b r) r):=by
 refine ok_of_body hmix m180 rfl ?_
 unfold M_es at h
 simp only [ZC,A180,V180,body_eq]
 obtain ⟨oZ11,hoZ11,h⟩:=bind_s h
 try refine ZF trivial ?_
 refine join_rule (o:=oZ11) (blk_rule sideR (loop_rule (w_k sZ0) hoZ11 ?_)) (fun vZ12 hv=>?_) (fun xZ13 hv e τ hne hq=>?_)
 · exact ZK (ZA @S_k.eq_1 @SX_k.eq_1)
 · subst hv
   simp only [] at h
   simp only [ZC,SX_k,A180R3]
   obtain ⟨rZ14,hrZ14,h⟩:=bind_s h
   refine ZF trivial ?_
   refine ZS trivial (w_j _ _ _ hrZ14) ?_
   refine ZG ?_
   cases h
   exact ZL trivial @V180.eq_1
 · subst hv
   simp only [] at h
   obtain ⟨rfl,qZ15⟩:=hq
   cases h
   exact qZ15
def S_am (sZ0:List ByteArray) (vZ0:ByteArray) (v:Int):St:=⟨[(0,.lst .o 1 (sZ0.map AV.z)),(1,.z vZ0),(7,.i (sZ0.length:Int)),(8,.i v)],[]⟩
def SX_am (v:Unit):St:=⟨[],[]⟩
theorem w_am (sZ0:List ByteArray) (vZ0:ByteArray) (sZ1:Int) (o:Int ⊕ (Unit ⊕ Int)) (h:M_am sZ0 vZ0 sZ1=some o):AWP (OkS Tryz.prog) A221L1 (qL [0,1,7,8] [] (S_am sZ0 vZ0) (qS (qX 0 [] [] (SX_am)) (qR V221 (fun r=>.i r))) o) (S_am sZ0 vZ0 sZ1):=by
 unfold M_am at h
 simp only [ZC,S_am,A221L1]
 obtain ⟨cZ2,h⟩ | ⟨cZ2,h⟩:=cond_s h
 · obtain ⟨yZ3,hyZ3,h⟩:=bind_s h
   obtain ⟨hyZ3a,hyZ3b⟩:=geti_s hyZ3
   obtain ⟨cZ4,h⟩ | ⟨cZ4,h⟩:=cond_s h
   · cases h
     exact ZL (ZA cZ2 (ZA hyZ3a (ZA hyZ3b cZ4))) @V221.eq_1
   · cases h
     exact ZL (ZA cZ2 (ZA hyZ3a (ZA hyZ3b cZ4))) (ZA @S_am.eq_1 @SX_am.eq_1)
 · cases h
   exact ZL cZ2 (ZA @S_am.eq_1 @SX_am.eq_1)
theorem w_fs (sZ0:List ByteArray) (vZ0:ByteArray) {r:Int} (h:M_fs sZ0 vZ0=some r):Ok Tryz.prog 221 [.lst .o 1 (sZ0.map AV.z),.z vZ0] ((fun r=>.i r) r):=by
 refine ok_of_body hmix m221 rfl ?_
 unfold M_fs at h
 simp only [ZC,A221,V221,body_eq]
 obtain ⟨oZ5,hoZ5,h⟩:=bind_s h
 try refine ZF trivial ?_
 refine join_rule (o:=oZ5) (blk_rule sideR (loop_rule (w_am sZ0 vZ0) hoZ5 ?_)) (fun vZ6 hv=>?_) (fun xZ7 hv e τ hne hq=>?_)
 · exact ZK (ZA @S_am.eq_1 @SX_am.eq_1)
 · subst hv
   simp only [] at h
   simp only [ZC,SX_am,A221R2]
   cases h
   exact ZL trivial @V221.eq_1
 · subst hv
   simp only [] at h
   obtain ⟨rfl,qZ8⟩:=hq
   cases h
   exact qZ8
theorem w_et (sZ0:List ByteArray) (vZ0:ByteArray) {r:Bool} (h:M_et sZ0 vZ0=some r):Ok Tryz.prog 181 [.lst .o 1 (sZ0.map AV.z),.z vZ0] ((fun r=>.b r) r):=by
 refine ok_of_body hmix m181 rfl ?_
 unfold M_et at h
 simp only [ZC,A181,V181,body_eq]
 obtain ⟨rZ1,hrZ1,h⟩:=bind_s h
 refine ZF trivial ?_
 refine ZS trivial (w_fs _ _ hrZ1) ?_
 refine ZG ?_
 cases h
 exact ZL trivial @V181.eq_1
theorem w_de (xZ0:Int) {r:Bool} (h:M_de xZ0=some r):Ok Tryz.prog 233 [.i xZ0] ((fun r=>.b r) r):=by
 refine ok_of_body hmix m233 rfl ?_
 unfold M_de at h
 simp only [ZC,A233,V233,body_eq]
 cases h
 exact ZL trivial @V233.eq_1
theorem w_bo (xZ0:Int) (yZ0:Int) {r:Int} (h:M_bo xZ0 yZ0=some r):Ok Tryz.prog 223 [.i xZ0,.i yZ0] ((fun r=>.i r) r):=by
 refine ok_of_body hmix m223 rfl ?_
 unfold M_bo at h
 simp only [ZC,A223,V223,body_eq]
 obtain ⟨rZ1,hrZ1,h⟩:=bind_s h
 refine ZF trivial ?_
 refine ZS trivial (w_de _ hrZ1) ?_
 refine ZG ?_
 obtain ⟨rZ2,hrZ2,h⟩:=bind_s h
 refine ZF trivial ?_
 refine ZS trivial (w_de _ hrZ2) ?_
 refine ZG ?_
 obtain ⟨cZ3,h⟩ | ⟨cZ3,h⟩:=cond_s h
 · obtain ⟨cZ4,h⟩ | ⟨cZ4,h⟩:=cond_s h
   · cases h
     exact ZL (ZA cZ3 cZ4) @V223.eq_1
   · cases h
     exact ZL (ZA cZ3 cZ4) @V223.eq_1
 · obtain ⟨cZ5,h⟩ | ⟨cZ5,h⟩:=cond_s h
   · cases h
     exact ZL (ZA cZ3 cZ5) @V223.eq_1
   · obtain ⟨cZ6,h⟩ | ⟨cZ6,h⟩:=cond_s h
     · cases h
       exact ZL (ZA cZ3 (ZA cZ5 cZ6)) @V223.eq_1
     · obtain ⟨cZ7,h⟩ | ⟨cZ7,h⟩:=cond_s h
       · cases h
         exact ZL (ZA cZ3 (ZA cZ5 (ZA cZ6 cZ7))) @V223.eq_1
       · cases h
         exact ZL (ZA cZ3 (ZA cZ5 (ZA cZ6 cZ7))) @V223.eq_1
def S_an (valsZ0:List Int) (v:Int):St:=⟨[(3,.i 0),(6,.lst .o 1 (valsZ0.map AV.i)),(7,.i (valsZ0.length:Int)),(8,.i v)],[]⟩
def SX_an (v:Unit):St:=⟨[(3,.i 0)],[]⟩
theorem w_an (valsZ0:List Int) (sZ1:Int) (o:Int ⊕ (Unit ⊕ Int)) (h:M_an valsZ0 sZ1=some o):AWP (OkS Tryz.prog) A222L1 (qL [3,6,7,8] [] (S_an valsZ0) (qS (qX 0 [3] [] (SX_an)) (qR V222 (fun r=>.i r))) o) (S_an valsZ0 sZ1):=by
 unfold M_an at h
 simp only [ZC,S_an,A222L1]
 obtain ⟨cZ2,h⟩ | ⟨cZ2,h⟩:=cond_s h
 · obtain ⟨yZ3,hyZ3,h⟩:=bind_s h
   obtain ⟨hyZ3a,hyZ3b⟩:=geti_s hyZ3
   obtain ⟨cZ4,h⟩ | ⟨cZ4,h⟩:=cond_s h
   · cases h
     exact ZL (ZA cZ2 (ZA hyZ3a (ZA hyZ3b cZ4))) @V222.eq_1
   · cases h
     exact ZL (ZA cZ2 (ZA hyZ3a (ZA hyZ3b cZ4))) (ZA @S_an.eq_1 @SX_an.eq_1)
 · cases h
   exact ZL cZ2 (ZA @S_an.eq_1 @SX_an.eq_1)
theorem w_ft (valsZ0:List Int) {r:Int} (h:M_ft valsZ0=some r):Ok Tryz.prog 222 [.lst .o 1 (valsZ0.map AV.i)] ((fun r=>.i r) r):=by
 refine ok_of_body hmix m222 rfl ?_
 unfold M_ft at h
 simp only [ZC,A222,V222,body_eq]
 obtain ⟨oZ5,hoZ5,h⟩:=bind_s h
 try refine ZF trivial ?_
 refine join_rule (o:=oZ5) (blk_rule sideR (loop_rule (w_an valsZ0) hoZ5 ?_)) (fun vZ6 hv=>?_) (fun xZ7 hv e τ hne hq=>?_)
 · exact ZK (ZA @S_an.eq_1 @SX_an.eq_1)
 · subst hv
   simp only [] at h
   simp only [ZC,SX_an,A222R2]
   cases h
   exact ZL trivial @V222.eq_1
 · subst hv
   simp only [] at h
   obtain ⟨rfl,qZ8⟩:=hq
   cases h
   exact qZ8
theorem w_eu (aZ0:TFiber) (bZ0:TFiber) {r:Int} (h:M_eu aZ0 bZ0=some r):Ok Tryz.prog 182 [.agg [.i aZ0.A,.i aZ0.B,.i aZ0.Length,.i aZ0.Risk],.agg [.i bZ0.A,.i bZ0.B,.i bZ0.Length,.i bZ0.Risk]] ((fun r=>.i r) r):=by
 refine ok_of_body hmix m182 rfl ?_
 unfold M_eu at h
 simp only [ZC,A182,V182,body_eq]
 obtain ⟨rZ1,hrZ1,h⟩:=bind_s h
 refine ZF trivial ?_
 refine ZS trivial (w_bo _ _ hrZ1) ?_
 refine ZG ?_
 obtain ⟨rZ2,hrZ2,h⟩:=bind_s h
 refine ZF trivial ?_
 refine ZS trivial (w_bo _ _ hrZ2) ?_
 refine ZG ?_
 obtain ⟨rZ3,hrZ3,h⟩:=bind_s h
 refine ZF trivial ?_
 refine ZS trivial (w_bo _ _ hrZ3) ?_
 refine ZG ?_
 obtain ⟨rZ4,hrZ4,h⟩:=bind_s h
 refine ZF trivial ?_
 refine ZS trivial (w_bo _ _ hrZ4) ?_
 refine ZG ?_
 obtain ⟨lZ5,hlZ5,h⟩:=bnd_s h
 have eZ6:Row.arr 1 [(.i rZ1:AV),(.i rZ2:AV),(.i rZ3:AV),(.i rZ4:AV)]=Row.arr 1 (lZ5.map AV.i):=by rw [← hlZ5]; rfl
 have jjZ7:lZ5.length=4:=by rw [← hlZ5]; rfl
 have nZ8:sub (lZ5.map AV.i) 0 4=lZ5.map AV.i:=sub_n _ (by simp [← hlZ5])
 obtain ⟨rZ9,hrZ9,h⟩:=bind_s h
 refine ZF (ZA eZ6 (ZA jjZ7 nZ8)) ?_
 refine ZS (ZA eZ6 (ZA jjZ7 nZ8)) (w_ft _ hrZ9) ?_
 refine ZG ?_
 cases h
 exact ZL (ZA eZ6 (ZA jjZ7 nZ8)) (ZA @V182.eq_1 (ZA hlZ5.symm jjZ7))
def S_ao (nZ0:TNetwork) (v:Int):St:=⟨[(1,.pt 1 0 0),(8,.lst .o 1 (nZ0.Nodes.map AV.z)),(9,.i (nZ0.Nodes.length:Int)),(10,.i v)],[(1,.var (.agg [.lst .o 1 (nZ0.Nodes.map AV.z),.lst .o 4 (nZ0.Fibers.map (e_TFiber .o))]))]⟩
def SX_ao (nZ0:TNetwork) (v:Unit):St:=⟨[(1,.pt 1 0 0)],[(1,.var (.agg [.lst .o 1 (nZ0.Nodes.map AV.z),.lst .o 4 (nZ0.Fibers.map (e_TFiber .o))]))]⟩
theorem w_ao (nZ0:TNetwork) (sZ1:Int) (o:Int ⊕ (Unit ⊕ Bool)) (h:M_ao nZ0 sZ1=some o):AWP (OkS Tryz.prog) A128L1 (qL [1,8,9,10] [1] (S_ao nZ0) (qS (qX 0 [1] [1] (SX_ao nZ0)) (qR V128 (fun r=>.b r))) o) (S_ao nZ0 sZ1):=by
 unfold M_ao at h
 simp only [ZC,S_ao,A128L1]
 obtain ⟨cZ2,h⟩ | ⟨cZ2,h⟩:=cond_s h
 · obtain ⟨yZ3,hyZ3,h⟩:=bind_s h
   obtain ⟨hyZ3a,hyZ3b⟩:=geti_s hyZ3
   obtain ⟨rZ4,hrZ4,h⟩:=bind_s h
   refine ZF (ZA cZ2 (ZA hyZ3a hyZ3b)) ?_
   refine ZS (ZA cZ2 (ZA hyZ3a hyZ3b)) (w_es _ hrZ4) ?_
   refine ZG ?_
   obtain ⟨cZ5,h⟩ | ⟨cZ5,h⟩:=cond_s h
   · cases h
     exact ZL (ZA cZ2 (ZA hyZ3a (ZA hyZ3b cZ5))) @V128.eq_1
   · obtain ⟨lZ6,hlZ6,h⟩:=bind_s h
     obtain ⟨hlZ6a,hlZ6b,hlZ6c,hlZ6d,hlZ6e⟩:=slT_s AV.z hlZ6
     obtain ⟨rZ7,hrZ7,h⟩:=bind_s h
     refine ZF (ZA cZ2 (ZA hyZ3a (ZA hyZ3b (ZA cZ5 (ZA hlZ6a (ZA hlZ6b (ZA hlZ6c (ZA hlZ6d hlZ6e)))))))) ?_
     refine ZS (ZA cZ2 (ZA hyZ3a (ZA hyZ3b (ZA cZ5 (ZA hlZ6a (ZA hlZ6b (ZA hlZ6c (ZA hlZ6d hlZ6e)))))))) (w_et _ _ hrZ7) ?_
     refine ZG ?_
     obtain ⟨cZ8,h⟩ | ⟨cZ8,h⟩:=cond_s h
     · cases h
       exact ZL (ZA cZ2 (ZA hyZ3a (ZA hyZ3b (ZA cZ5 (ZA hlZ6a (ZA hlZ6b (ZA hlZ6c (ZA hlZ6d (ZA hlZ6e cZ8))))))))) @V128.eq_1
     · cases h
       exact ZL (ZA cZ2 (ZA hyZ3a (ZA hyZ3b (ZA cZ5 (ZA hlZ6a (ZA hlZ6b (ZA hlZ6c (ZA hlZ6d (ZA hlZ6e cZ8))))))))) (ZA @S_ao.eq_1 @SX_ao.eq_1)
 · cases h
   exact ZL cZ2 (ZA @S_ao.eq_1 @SX_ao.eq_1)
def S_l (nZ0:TNetwork) (v:Int):St:=⟨[(1,.pt 1 0 0),(28,.lst .o 4 (nZ0.Fibers.map (e_TFiber .o))),(29,.i (nZ0.Fibers.length:Int)),(30,.i v)],[(1,.var (.agg [.lst .o 1 (nZ0.Nodes.map AV.z),.lst .o 4 (nZ0.Fibers.map (e_TFiber .o))]))]⟩
def SX_l (nZ0:TNetwork) (v:Unit):St:=⟨[(1,.pt 1 0 0)],[(1,.var (.agg [.lst .o 1 (nZ0.Nodes.map AV.z),.lst .o 4 (nZ0.Fibers.map (e_TFiber .o))]))]⟩
theorem w_l (nZ0:TNetwork) (sZ12:Int) (o:Int ⊕ (Unit ⊕ Bool)) (h:M_l nZ0 sZ12=some o):AWP (OkS Tryz.prog) A128L3 (qL [1,28,29,30] [1] (S_l nZ0) (qS (qX 2 [1] [1] (SX_l nZ0)) (qR V128 (fun r=>.b r))) o) (S_l nZ0 sZ12):=by
 unfold M_l at h
 simp only [ZC,S_l,A128L3]
 obtain ⟨cZ13,h⟩ | ⟨cZ13,h⟩:=cond_s h
 · obtain ⟨yZ14,hyZ14,h⟩:=bind_s h
   obtain ⟨hyZ14a,hyZ14b⟩:=geti_s hyZ14
   obtain ⟨cZ15,h⟩ | ⟨cZ15,h⟩:=cond_s h
   · cases h
     exact ZL (ZA cZ13 (ZA hyZ14a (ZA hyZ14b cZ15))) @V128.eq_1
   · obtain ⟨cZ16,h⟩ | ⟨cZ16,h⟩:=cond_s h
     · cases h
       exact ZL (ZA cZ13 (ZA hyZ14a (ZA hyZ14b (ZA cZ15 cZ16)))) @V128.eq_1
     · obtain ⟨cZ17,h⟩ | ⟨cZ17,h⟩:=cond_s h
       · cases h
         exact ZL (ZA cZ13 (ZA hyZ14a (ZA hyZ14b (ZA cZ15 (ZA cZ16 cZ17))))) @V128.eq_1
       · obtain ⟨rZ18,hrZ18,h⟩:=bind_s h
         refine ZF (ZA cZ13 (ZA hyZ14a (ZA hyZ14b (ZA cZ15 (ZA cZ16 cZ17))))) ?_
         refine ZS (ZA cZ13 (ZA hyZ14a (ZA hyZ14b (ZA cZ15 (ZA cZ16 cZ17))))) (w_j _ _ _ hrZ18) ?_
         refine ZG ?_
         obtain ⟨cZ19,h⟩ | ⟨cZ19,h⟩:=cond_s h
         · cases h
           exact ZL (ZA cZ13 (ZA hyZ14a (ZA hyZ14b (ZA cZ15 (ZA cZ16 (ZA cZ17 cZ19)))))) @V128.eq_1
         · obtain ⟨rZ20,hrZ20,h⟩:=bind_s h
           refine ZF (ZA cZ13 (ZA hyZ14a (ZA hyZ14b (ZA cZ15 (ZA cZ16 (ZA cZ17 cZ19)))))) ?_
           refine ZS (ZA cZ13 (ZA hyZ14a (ZA hyZ14b (ZA cZ15 (ZA cZ16 (ZA cZ17 cZ19)))))) (w_j _ _ _ hrZ20) ?_
           refine ZG ?_
           obtain ⟨cZ21,h⟩ | ⟨cZ21,h⟩:=cond_s h
           · cases h
             exact ZL (ZA cZ13 (ZA hyZ14a (ZA hyZ14b (ZA cZ15 (ZA cZ16 (ZA cZ17 (ZA cZ19 cZ21))))))) @V128.eq_1
           · obtain ⟨cZ22,h⟩ | ⟨cZ22,h⟩:=cond_s h
             · obtain ⟨yZ23,hyZ23,h⟩:=bind_s h
               obtain ⟨hyZ23a,hyZ23b⟩:=geti_s hyZ23
               obtain ⟨rZ24,hrZ24,h⟩:=bind_s h
               refine ZF (ZA cZ13 (ZA hyZ14a (ZA hyZ14b (ZA cZ15 (ZA cZ16 (ZA cZ17 (ZA cZ19 (ZA cZ21 (ZA cZ22 (ZA hyZ23a hyZ23b)))))))))) ?_
               refine ZS (ZA cZ13 (ZA hyZ14a (ZA hyZ14b (ZA cZ15 (ZA cZ16 (ZA cZ17 (ZA cZ19 (ZA cZ21 (ZA cZ22 (ZA hyZ23a hyZ23b)))))))))) (w_eu _ _ hrZ24) ?_
               refine ZG ?_
               obtain ⟨cZ25,h⟩ | ⟨cZ25,h⟩:=cond_s h
               · cases h
                 exact ZL (ZA cZ13 (ZA hyZ14a (ZA hyZ14b (ZA cZ15 (ZA cZ16 (ZA cZ17 (ZA cZ19 (ZA cZ21 (ZA cZ22 (ZA hyZ23a (ZA hyZ23b cZ25))))))))))) @V128.eq_1
               · cases h
                 exact ZL (ZA cZ13 (ZA hyZ14a (ZA hyZ14b (ZA cZ15 (ZA cZ16 (ZA cZ17 (ZA cZ19 (ZA cZ21 (ZA cZ22 (ZA hyZ23a (ZA hyZ23b cZ25))))))))))) (ZA @S_l.eq_1 @SX_l.eq_1)
             · cases h
               exact ZL (ZA cZ13 (ZA hyZ14a (ZA hyZ14b (ZA cZ15 (ZA cZ16 (ZA cZ17 (ZA cZ19 (ZA cZ21 cZ22)))))))) (ZA @S_l.eq_1 @SX_l.eq_1)
 · cases h
   exact ZL cZ13 (ZA @S_l.eq_1 @SX_l.eq_1)
theorem w_ev (nZ0:TNetwork) {r:Bool} (h:M_ev nZ0=some r):Ok Tryz.prog 128 [.agg [.lst .o 1 (nZ0.Nodes.map AV.z),.lst .o 4 (nZ0.Fibers.map (e_TFiber .o))]] ((fun r=>.b r) r):=by
 refine ok_of_body hmix m128 rfl ?_
 unfold M_ev at h
 simp only [ZC,A128,V128,body_eq]
 obtain ⟨oZ9,hoZ9,h⟩:=bind_s h
 try refine ZF trivial ?_
 refine join_rule (o:=oZ9) (blk_rule sideR (loop_rule (w_ao nZ0) hoZ9 ?_)) (fun vZ10 hv=>?_) (fun xZ11 hv e τ hne hq=>?_)
 · exact ZK (ZA @S_ao.eq_1 @SX_ao.eq_1)
 · subst hv
   simp only [] at h
   simp only [ZC,SX_ao,A128R2]
   obtain ⟨oZ26,hoZ26,h⟩:=bind_s h
   try refine ZF trivial ?_
   refine join_rule (o:=oZ26) (blk_rule sideR (loop_rule (w_l nZ0) hoZ26 ?_)) (fun vZ27 hv=>?_) (fun xZ28 hv e τ hne hq=>?_)
   · exact ZK (ZA @S_l.eq_1 @SX_l.eq_1)
   · subst hv
     simp only [] at h
     simp only [ZC,SX_l,A128R4]
     obtain ⟨rZ29,hrZ29,h⟩:=bind_s h
     refine ZF trivial ?_
     refine ZS trivial (w_j _ _ _ hrZ29) ?_
     refine ZG ?_
     obtain ⟨cZ30,h⟩ | ⟨cZ30,h⟩:=cond_s h
     · cases h
       exact ZL cZ30 @V128.eq_1
     · cases h
       exact ZL cZ30 @V128.eq_1
   · subst hv
     simp only [] at h
     obtain ⟨rfl,qZ31⟩:=hq
     cases h
     exact qZ31
 · subst hv
   simp only [] at h
   obtain ⟨rfl,qZ32⟩:=hq
   cases h
   exact qZ32
theorem w_ew (fZ0:TFiber) (nodeZ0:Int) {r:Int} (h:M_ew fZ0 nodeZ0=some r):Ok Tryz.prog 185 [.agg [.i fZ0.A,.i fZ0.B,.i fZ0.Length,.i fZ0.Risk],.i nodeZ0] ((fun r=>.i r) r):=by
 refine ok_of_body hmix m185 rfl ?_
 unfold M_ew at h
 simp only [ZC,A185,V185,body_eq]
 obtain ⟨cZ1,h⟩ | ⟨cZ1,h⟩:=cond_s h
 · cases h
   exact ZL cZ1 @V185.eq_1
 · obtain ⟨cZ2,h⟩ | ⟨cZ2,h⟩:=cond_s h
   · cases h
     exact ZL (ZA cZ1 cZ2) @V185.eq_1
   · cases h
     exact ZL (ZA cZ1 cZ2) @V185.eq_1
def S_ap (sZ0:List Int) (vZ0:Int) (v:Int):St:=⟨[(0,.lst .o 1 (sZ0.map AV.i)),(1,.i vZ0),(7,.i (sZ0.length:Int)),(8,.i v)],[]⟩
def SX_ap (v:Unit):St:=⟨[],[]⟩
theorem w_ap (sZ0:List Int) (vZ0:Int) (sZ1:Int) (o:Int ⊕ (Unit ⊕ Int)) (h:M_ap sZ0 vZ0 sZ1=some o):AWP (OkS Tryz.prog) A146L1 (qL [0,1,7,8] [] (S_ap sZ0 vZ0) (qS (qX 0 [] [] (SX_ap)) (qR V146 (fun r=>.i r))) o) (S_ap sZ0 vZ0 sZ1):=by
 unfold M_ap at h
 simp only [ZC,S_ap,A146L1]
 obtain ⟨cZ2,h⟩ | ⟨cZ2,h⟩:=cond_s h
 · obtain ⟨yZ3,hyZ3,h⟩:=bind_s h
   obtain ⟨hyZ3a,hyZ3b⟩:=geti_s hyZ3
   obtain ⟨cZ4,h⟩ | ⟨cZ4,h⟩:=cond_s h
   · cases h
     exact ZL (ZA cZ2 (ZA hyZ3a (ZA hyZ3b cZ4))) @V146.eq_1
   · cases h
     exact ZL (ZA cZ2 (ZA hyZ3a (ZA hyZ3b cZ4))) (ZA @S_ap.eq_1 @SX_ap.eq_1)
 · cases h
   exact ZL cZ2 (ZA @S_ap.eq_1 @SX_ap.eq_1)
theorem w_fu (sZ0:List Int) (vZ0:Int) {r:Int} (h:M_fu sZ0 vZ0=some r):Ok Tryz.prog 146 [.lst .o 1 (sZ0.map AV.i),.i vZ0] ((fun r=>.i r) r):=by
 refine ok_of_body hmix m146 rfl ?_
 unfold M_fu at h
 simp only [ZC,A146,V146,body_eq]
 obtain ⟨oZ5,hoZ5,h⟩:=bind_s h
 try refine ZF trivial ?_
 refine join_rule (o:=oZ5) (blk_rule sideR (loop_rule (w_ap sZ0 vZ0) hoZ5 ?_)) (fun vZ6 hv=>?_) (fun xZ7 hv e τ hne hq=>?_)
 · exact ZK (ZA @S_ap.eq_1 @SX_ap.eq_1)
 · subst hv
   simp only [] at h
   simp only [ZC,SX_ap,A146R2]
   cases h
   exact ZL trivial @V146.eq_1
 · subst hv
   simp only [] at h
   obtain ⟨rfl,qZ8⟩:=hq
   cases h
   exact qZ8
theorem w_cq (sZ0:List Int) (vZ0:Int) {r:Bool} (h:M_cq sZ0 vZ0=some r):Ok Tryz.prog 84 [.lst .o 1 (sZ0.map AV.i),.i vZ0] ((fun r=>.b r) r):=by
 refine ok_of_body hmix m84 rfl ?_
 unfold M_cq at h
 simp only [ZC,A84,V84,body_eq]
 obtain ⟨rZ1,hrZ1,h⟩:=bind_s h
 refine ZF trivial ?_
 refine ZS trivial (w_fu _ _ hrZ1) ?_
 refine ZG ?_
 cases h
 exact ZL trivial @V84.eq_1
def S_aq (nZ0:TNetwork) (rZ0:TRoute) (v:Int×Int×List Int):St:=⟨[(2,.pt 2 0 0),(6,.sl 6 0 v.2.2.length),(7,.i v.1),(30,.lst .o 1 (rZ0.Fibers.map AV.i)),(31,.i (rZ0.Fibers.length:Int)),(32,.i v.2.1)],[(2,.var (.agg [.lst .o 1 (nZ0.Nodes.map AV.z),.lst .o 4 (nZ0.Fibers.map (e_TFiber .o))])),(6,.arr 1 (v.2.2.map AV.i))]⟩
def SX_aq (v:List Int):St:=⟨[(6,.sl 6 0 v.length)],[(6,.arr 1 (v.map AV.i))]⟩
theorem w_aq (nZ0:TNetwork) (rZ0:TRoute) (sZ8:Int×Int×List Int) (o:(Int×Int×List Int) ⊕ ((List Int) ⊕ (List Int×Bool))) (h:M_aq nZ0 rZ0 sZ8=some o):AWP (OkS Tryz.prog) A135L3 (qL [2,6,7,30,31,32] [2,6] (S_aq nZ0 rZ0) (qS (qX 0 [6] [6] (SX_aq)) (qR V135 (fun r=>.tup [.lst .u 1 (r.1.map AV.i),.b r.2]))) o) (S_aq nZ0 rZ0 sZ8):=by
 unfold M_aq at h
 simp only [ZC,S_aq,A135L3]
 obtain ⟨cZ9,h⟩ | ⟨cZ9,h⟩:=cond_s h
 · obtain ⟨yZ10,hyZ10,h⟩:=bind_s h
   obtain ⟨hyZ10a,hyZ10b⟩:=geti_s hyZ10
   obtain ⟨rZ11,hrZ11,h⟩:=bind_s h
   refine ZF (ZA cZ9 (ZA hyZ10a hyZ10b)) ?_
   refine ZS (ZA cZ9 (ZA hyZ10a hyZ10b)) (w_j _ _ _ hrZ11) ?_
   refine ZG ?_
   obtain ⟨cZ12,h⟩ | ⟨cZ12,h⟩:=cond_s h
   · cases h
     exact ZL (ZA cZ9 (ZA hyZ10a (ZA hyZ10b cZ12))) @V135.eq_1
   · obtain ⟨yZ13,hyZ13,h⟩:=bind_s h
     obtain ⟨hyZ13a,hyZ13b⟩:=geti_s hyZ13
     obtain ⟨rZ14,hrZ14,h⟩:=bind_s h
     refine ZF (ZA cZ9 (ZA hyZ10a (ZA hyZ10b (ZA cZ12 (ZA hyZ13a hyZ13b))))) ?_
     refine ZS (ZA cZ9 (ZA hyZ10a (ZA hyZ10b (ZA cZ12 (ZA hyZ13a hyZ13b))))) (w_ew _ _ hrZ14) ?_
     refine ZG ?_
     obtain ⟨oZ17,hoZ17,h⟩:=bind_s h
     try refine ZF (ZA cZ9 (ZA hyZ10a (ZA hyZ10b (ZA cZ12 (ZA hyZ13a hyZ13b))))) ?_
     refine join_rule0 (sh:=(fun v=>⟨[(2,.pt 2 0 0),(6,.sl 6 0 sZ8.2.2.length),(7,.i rZ14),(30,.lst .o 1 (rZ0.Fibers.map AV.i)),(31,.i (rZ0.Fibers.length:Int)),(32,.i sZ8.2.1),(56,.b v)],[(2,.var (.agg [.lst .o 1 (nZ0.Nodes.map AV.z),.lst .o 4 (nZ0.Fibers.map (e_TFiber .o))])),(6,.arr 1 (sZ8.2.2.map AV.i))]⟩)) (s:=oZ17) ?_ ?_
     · replace h:=hoZ17
       obtain ⟨cZ15,h⟩ | ⟨cZ15,h⟩:=cond_s h
       · cases h
         exact ZL (ZA cZ9 (ZA hyZ10a (ZA hyZ10b (ZA cZ12 (ZA hyZ13a (ZA hyZ13b cZ15)))))) trivial
       · obtain ⟨rZ16,hrZ16,h⟩:=bind_s h
         refine ZF (ZA cZ9 (ZA hyZ10a (ZA hyZ10b (ZA cZ12 (ZA hyZ13a (ZA hyZ13b cZ15)))))) ?_
         refine ZS (ZA cZ9 (ZA hyZ10a (ZA hyZ10b (ZA cZ12 (ZA hyZ13a (ZA hyZ13b cZ15)))))) (w_cq _ _ hrZ16) ?_
         refine ZG ?_
         cases h
         exact ZL (ZA cZ9 (ZA hyZ10a (ZA hyZ10b (ZA cZ12 (ZA hyZ13a (ZA hyZ13b cZ15)))))) trivial
     · simp only [ZC,A135R2]
       obtain ⟨cZ18,h⟩ | ⟨cZ18,h⟩:=cond_s h
       · cases h
         exact ZL (ZA cZ9 (ZA hyZ10a (ZA hyZ10b (ZA cZ12 (ZA hyZ13a (ZA hyZ13b cZ18)))))) @V135.eq_1
       · obtain ⟨lZ19,hlZ19,h⟩:=bnd_s h
         have eZ20:Row.arr 1 [(.i rZ14:AV)]=Row.arr 1 (lZ19.map AV.i):=by rw [← hlZ19]; rfl
         have jjZ21:lZ19.length=1:=by rw [← hlZ19]; rfl
         obtain ⟨uZ22,huZ22,h⟩:=bind_s h
         have huZ22g:=grd_s huZ22
         obtain ⟨lZ23,hlZ23,h⟩:=bnd_s h
         have eZ24:sZ8.2.2.map AV.i++lZ19.map AV.i=lZ23.map AV.i:=by rw [← hlZ23,List.map_append]
         have eZ25:sZ8.2.2.length+1=lZ23.length:=by simp [← hlZ19,← hlZ23] <;> omega
         rw [eZ25] at huZ22g
         cases h
         exact ZL (ZA cZ9 (ZA hyZ10a (ZA hyZ10b (ZA cZ12 (ZA hyZ13a (ZA hyZ13b (ZA cZ18 (ZA eZ20 (ZA jjZ21 (ZA huZ22g (ZA eZ24 eZ25))))))))))) (ZA @S_aq.eq_1 (ZA @SX_aq.eq_1 (ZA hlZ19.symm (ZA hlZ23.symm jjZ21))))
 · cases h
   exact ZL cZ9 (ZA @S_aq.eq_1 @SX_aq.eq_1)
theorem w_cr (nZ0:TNetwork) (rZ0:TRoute) {r:List Int×Bool} (h:M_cr nZ0 rZ0=some r):Ok Tryz.prog 135 [.agg [.lst .o 1 (nZ0.Nodes.map AV.z),.lst .o 4 (nZ0.Fibers.map (e_TFiber .o))],.agg [.i rZ0.Start,.lst .o 1 (rZ0.Fibers.map AV.i)]] ((fun r=>.tup [.lst .u 1 (r.1.map AV.i),.b r.2]) r):=by
 refine ok_of_body hmix m135 rfl ?_
 unfold M_cr at h
 simp only [ZC,A135,V135,body_eq]
 obtain ⟨oZ3,hoZ3,h⟩:=bind_s h
 try refine ZF trivial ?_
 refine join_rule0 (sh:=(fun v=>⟨[(2,.pt 2 0 0),(3,.pt 3 0 0),(23,.b v)],[(2,.var (.agg [.lst .o 1 (nZ0.Nodes.map AV.z),.lst .o 4 (nZ0.Fibers.map (e_TFiber .o))])),(3,.var (.agg [.i rZ0.Start,.lst .o 1 (rZ0.Fibers.map AV.i)]))]⟩)) (s:=oZ3) ?_ ?_
 · replace h:=hoZ3
   obtain ⟨rZ1,hrZ1,h⟩:=bind_s h
   refine ZF trivial ?_
   refine ZS trivial (w_j _ _ _ hrZ1) ?_
   refine ZG ?_
   obtain ⟨cZ2,h⟩ | ⟨cZ2,h⟩:=cond_s h
   · cases h
     exact ZL cZ2 trivial
   · cases h
     exact ZL cZ2 trivial
 · simp only [ZC,A135R1]
   obtain ⟨cZ4,h⟩ | ⟨cZ4,h⟩:=cond_s h
   · cases h
     exact ZL cZ4 @V135.eq_1
   · obtain ⟨lZ5,hlZ5,h⟩:=bnd_s h
     have eZ6:Row.arr 1 [(.i rZ0.Start:AV)]=Row.arr 1 (lZ5.map AV.i):=by rw [← hlZ5]; rfl
     have jjZ7:lZ5.length=1:=by rw [← hlZ5]; rfl
     obtain ⟨oZ26,hoZ26,h⟩:=bind_s h
     try refine ZF (ZA cZ4 (ZA eZ6 jjZ7)) ?_
     refine join_rule (o:=oZ26) (blk_rule sideR (loop_rule (w_aq nZ0 rZ0) hoZ26 ?_)) (fun vZ27 hv=>?_) (fun xZ28 hv e τ hne hq=>?_)
     · exact ZK (ZA @S_aq.eq_1 (ZA @SX_aq.eq_1 (ZA hlZ5.symm jjZ7)))
     · subst hv
       simp only [] at h
       simp only [ZC,SX_aq,A135R4]
       cases h
       exact ZL (ZA cZ4 (ZA eZ6 jjZ7)) (ZA @V135.eq_1 jjZ7)
     · subst hv
       simp only [] at h
       obtain ⟨rfl,qZ29⟩:=hq
       cases h
       exact qZ29
theorem w_ex (bZ0:TBlock) {r:Bool} (h:M_ex bZ0=some r):Ok Tryz.prog 183 [.agg [.i bZ0.First,.i bZ0.Count]] ((fun r=>.b r) r):=by
 refine ok_of_body hmix m183 rfl ?_
 unfold M_ex at h
 simp only [ZC,A183,V183,body_eq]
 obtain ⟨cZ1,h⟩ | ⟨cZ1,h⟩:=cond_s h
 · obtain ⟨rZ2,hrZ2,h⟩:=bind_s h
   refine ZF cZ1 ?_
   refine ZS cZ1 (w_j _ _ _ hrZ2) ?_
   refine ZG ?_
   obtain ⟨cZ3,h⟩ | ⟨cZ3,h⟩:=cond_s h
   · cases h
     exact ZL (ZA cZ1 cZ3) @V183.eq_1
   · cases h
     exact ZL (ZA cZ1 cZ3) @V183.eq_1
 · cases h
   exact ZL cZ1 @V183.eq_1
theorem w_ey (nZ0:TNetwork) (xZ0:TLight) {r:Bool} (h:M_ey nZ0 xZ0=some r):Ok Tryz.prog 129 [.agg [.lst .o 1 (nZ0.Nodes.map AV.z),.lst .o 4 (nZ0.Fibers.map (e_TFiber .o))],.agg [.i xZ0.Id,.i xZ0.Route.Start,.lst .o 1 (xZ0.Route.Fibers.map AV.i),.i xZ0.Block.First,.i xZ0.Block.Count]] ((fun r=>.b r) r):=by
 refine ok_of_body hmix m129 rfl ?_
 unfold M_ey at h
 simp only [ZC,A129,V129,body_eq]
 obtain ⟨rZ1,hrZ1,h⟩:=bind_s h
 refine ZF trivial ?_
 refine ZU trivial (w_cr _ _ hrZ1) ?_
 refine ZG ?_
 obtain ⟨cZ2,h⟩ | ⟨cZ2,h⟩:=cond_s h
 · obtain ⟨rZ3,hrZ3,h⟩:=bind_s h
   refine ZF cZ2 ?_
   refine ZS cZ2 (w_j _ _ _ hrZ3) ?_
   refine ZG ?_
   obtain ⟨cZ4,h⟩ | ⟨cZ4,h⟩:=cond_s h
   · obtain ⟨rZ5,hrZ5,h⟩:=bind_s h
     refine ZF (ZA cZ2 cZ4) ?_
     refine ZS (ZA cZ2 cZ4) (w_ex _ hrZ5) ?_
     refine ZG ?_
     cases h
     exact ZL (ZA cZ2 cZ4) @V129.eq_1
   · cases h
     exact ZL (ZA cZ2 cZ4) @V129.eq_1
 · cases h
   exact ZL cZ2 @V129.eq_1
theorem w_cs (bZ0:TBlock) {r:Int} (h:M_cs bZ0=some r):Ok Tryz.prog 184 [.agg [.i bZ0.First,.i bZ0.Count]] ((fun r=>.i r) r):=by
 refine ok_of_body hmix m184 rfl ?_
 unfold M_cs at h
 simp only [ZC,A184,V184,body_eq]
 obtain ⟨uZ1,huZ1,h⟩:=bind_s h
 have huZ1g:=grd_s huZ1
 obtain ⟨uZ2,huZ2,h⟩:=bind_s h
 have huZ2g:=grd_s huZ2
 cases h
 exact ZL (ZA huZ1g huZ2g) @V184.eq_1
def S_e (aaZ0:Nat) (abZ0:Nat) (sZ2:Int) (v:Int×Int×List Int):St:=⟨[(0,.sl 1000000000 aaZ0 abZ0),(3,.i v.1),(4,.sl 1000000000 (aaZ0+(Int.toNat sZ2)) (abZ0 - (Int.toNat sZ2))),(5,.i v.2.1)],[(1000000000,.arr 1 (v.2.2.map AV.i))]⟩
def SX_e (aaZ0:Nat) (abZ0:Nat) (v:Int×List Int):St:=⟨[(0,.sl 1000000000 aaZ0 abZ0),(3,.i v.1)],[(1000000000,.arr 1 (v.2.map AV.i))]⟩
theorem w_e (aaZ0:Nat) (abZ0:Nat) (sZ2:Int) (sZ10:Int×Int×List Int) (o:(Int×Int×List Int) ⊕ (Int×List Int)) (h:M_e aaZ0 abZ0 sZ2 sZ10=some o):AWP (OkS Tryz.prog) A112M1L1 (qL [0,3,4,5] [1000000000] (S_e aaZ0 abZ0 sZ2) (qX 2 [0,3] [1000000000] (SX_e aaZ0 abZ0)) o) (S_e aaZ0 abZ0 sZ2 sZ10):=by
 unfold M_e at h
 simp only [ZC,S_e,A112M1L1]
 obtain ⟨cZ11,h⟩ | ⟨cZ11,h⟩:=cond_s h
 · obtain ⟨kZ12,hkZ12,h⟩:=bind_s h
   obtain ⟨hkZ12a,hkZ12b⟩:=grd_s hkZ12
   obtain ⟨yZ13,hyZ13,h⟩:=bind_s h
   obtain ⟨kZ14,hkZ14,h⟩:=bind_s h
   obtain ⟨hkZ14a,hkZ14b⟩:=grd_s hkZ14
   obtain ⟨yZ15,hyZ15,h⟩:=bind_s h
   obtain ⟨cZ16,h⟩ | ⟨cZ16,h⟩:=cond_s h
   · obtain ⟨kZ17,hkZ17,h⟩:=bind_s h
     obtain ⟨hkZ17a,hkZ17b⟩:=grd_s hkZ17
     obtain ⟨yZ18,hyZ18,h⟩:=bind_s h
     obtain ⟨lZ19,hlZ19,h⟩:=bnd_s h
     have eZ20:(sZ10.2.2.map AV.i).set (aaZ0+(Int.toNat sZ10.1)) (.i yZ13)=lZ19.map AV.i:=by rw [← hlZ19,List.map_set]
     cases h
     exact ZL (ZA cZ11 (ZA hkZ12a (ZA hkZ12b (ZA hyZ13 (ZA hkZ14a (ZA hkZ14b (ZA hyZ15 (ZA cZ16 (ZA hkZ17a (ZA hkZ17b (ZA hyZ18 eZ20))))))))))) (ZA @S_e.eq_1 (ZA @SX_e.eq_1 hlZ19.symm))
   · cases h
     exact ZL (ZA cZ11 (ZA hkZ12a (ZA hkZ12b (ZA hyZ13 (ZA hkZ14a (ZA hkZ14b (ZA hyZ15 cZ16))))))) (ZA @S_e.eq_1 @SX_e.eq_1)
 · cases h
   exact ZL cZ11 (ZA @S_e.eq_1 @SX_e.eq_1)
def S_ar (aaZ0:Nat) (abZ0:Nat) (acZ0:List Int) (v:Int):St:=⟨[(0,.sl 1000000000 aaZ0 abZ0),(3,.i v)],[(1000000000,.arr 1 (acZ0.map AV.i))]⟩
def SX_ar (aaZ0:Nat) (abZ0:Nat) (acZ0:List Int) (v:Unit):St:=⟨[(0,.sl 1000000000 aaZ0 abZ0)],[(1000000000,.arr 1 (acZ0.map AV.i))]⟩
theorem w_ar (aaZ0:Nat) (abZ0:Nat) (acZ0:List Int) (sZ2:Int) (o:Int ⊕ (Unit ⊕ (Nat×Nat×List Int))) (h:M_ar aaZ0 abZ0 acZ0 sZ2=some o):AWP (OkS Tryz.prog) A112M1L3 (qL [0,3] [1000000000] (S_ar aaZ0 abZ0 acZ0) (qS (qX 0 [0] [1000000000] (SX_ar aaZ0 abZ0 acZ0)) (qM V112M1 [1000000000] (fun (r:Nat×Nat×List Int)=>.sl 1000000000 r.1 r.2.1) (fun (r:Nat×Nat×List Int)=>[(1000000000,.arr 1 (r.2.2.map AV.i))]))) o) (S_ar aaZ0 abZ0 acZ0 sZ2):=by
 unfold M_ar at h
 simp only [ZC,S_ar,A112M1L3]
 obtain ⟨cZ3,h⟩ | ⟨cZ3,h⟩:=cond_s h
 · obtain ⟨kZ4,hkZ4,h⟩:=bind_s h
   obtain ⟨hkZ4a,hkZ4b⟩:=grd_s hkZ4
   obtain ⟨yZ5,hyZ5,h⟩:=bind_s h
   obtain ⟨kZ6,hkZ6,h⟩:=bind_s h
   obtain ⟨hkZ6a,hkZ6b⟩:=grd_s hkZ6
   obtain ⟨yZ7,hyZ7,h⟩:=bind_s h
   obtain ⟨cZ8,h⟩ | ⟨cZ8,h⟩:=cond_s h
   · obtain ⟨uZ9,huZ9,h⟩:=bind_s h
     obtain ⟨huZ9a,huZ9b,huZ9c,huZ9d⟩:=grd_s huZ9
     obtain ⟨oZ21,hoZ21,h⟩:=bind_s h
     try refine ZF (ZA cZ3 (ZA hkZ4a (ZA hkZ4b (ZA hyZ5 (ZA hkZ6a (ZA hkZ6b (ZA hyZ7 (ZA cZ8 (ZA huZ9a (ZA huZ9b (ZA huZ9c huZ9d))))))))))) ?_
     refine join_rule0 (blk_rule0 (loop_rule (w_e aaZ0 abZ0 sZ2) hoZ21 ?_)) ?_
     · exact ZK (ZA @S_e.eq_1 @SX_e.eq_1)
     · simp only [ZC,SX_e,A112M1R2]
       obtain ⟨uZ22,huZ22,h⟩:=bind_s h
       obtain ⟨huZ22a,huZ22b,huZ22c,huZ22d⟩:=grd_s huZ22
       obtain ⟨lZ23,hlZ23,h⟩:=bnd_s h
       have eZ24:over (oZ21.2.map AV.i) (aaZ0+(Int.toNat oZ21.1)) (List.replicate (abZ0 - (Int.toNat oZ21.1)) (.i 0:AV))=lZ23.map AV.i:=by rw [← hlZ23,← over_map] <;> simp [List.map_take]
       try simp only [Int.toNat_natCast] at eZ24
       have eZ25:lZ23.length=oZ21.2.length:=by rw [← hlZ23]; exact over_length _ _ _
       obtain ⟨uZ26,huZ26,h⟩:=bind_s h
       obtain ⟨huZ26a,huZ26b,huZ26c,huZ26d⟩:=grd_s huZ26
       cases h
       exact ZL (ZA cZ3 (ZA hkZ4a (ZA hkZ4b (ZA hyZ5 (ZA hkZ6a (ZA hkZ6b (ZA hyZ7 (ZA cZ8 (ZA huZ9a (ZA huZ9b (ZA huZ9c (ZA huZ9d (ZA huZ22a (ZA huZ22b (ZA huZ22c (ZA huZ22d (ZA eZ24 (ZA huZ26a (ZA huZ26b (ZA huZ26c huZ26d)))))))))))))))))))) (ZA @V112M1.eq_1 eZ25)
   · cases h
     exact ZL (ZA cZ3 (ZA hkZ4a (ZA hkZ4b (ZA hyZ5 (ZA hkZ6a (ZA hkZ6b (ZA hyZ7 cZ8))))))) (ZA @S_ar.eq_1 @SX_ar.eq_1)
 · cases h
   exact ZL cZ3 (ZA @S_ar.eq_1 @SX_ar.eq_1)
theorem w_ct (aaZ0:Nat) (abZ0:Nat) (acZ0:List Int) {r:Nat×Nat×List Int} (h:M_ct aaZ0 abZ0 acZ0=some r):OkM Tryz.prog 112 [.sl 1000000000 aaZ0 abZ0] [(1000000000,.arr 1 (acZ0.map AV.i))] ((fun (r:Nat×Nat×List Int)=>.sl 1000000000 r.1 r.2.1) r) ((fun (r:Nat×Nat×List Int)=>[(1000000000,.arr 1 (r.2.2.map AV.i))]) r):=by
 refine okM_of_body (lr:=[1000000000]) hmix m112M1 rfl rfl ?_
 unfold M_ct at h
 simp only [ZC,A112M1,V112M1]
 obtain ⟨cZ1,h⟩ | ⟨cZ1,h⟩:=cond_s h
 · cases h
   exact ZL cZ1 @V112M1.eq_1
 · obtain ⟨oZ27,hoZ27,h⟩:=bind_s h
   try refine ZF cZ1 ?_
   refine join_rule (o:=oZ27) (blk_rule sideM (loop_rule (w_ar aaZ0 abZ0 acZ0) hoZ27 ?_)) (fun vZ28 hv=>?_) (fun xZ29 hv e τ hne hq=>?_)
   · exact ZK (ZA @S_ar.eq_1 @SX_ar.eq_1)
   · subst hv
     simp only [] at h
     simp only [ZC,SX_ar,A112M1R4]
     cases h
     exact ZL cZ1 @V112M1.eq_1
   · subst hv
     simp only [] at h
     obtain ⟨rfl,qZ30⟩:=hq
     cases h
     exact qZ30
def S_f (aZ0:List Int) (bZ0:List Int) (v:Int×List Int):St:=⟨[(1,.lst .o 1 (bZ0.map AV.i)),(5,.sl 5 0 v.2.length),(9,.lst .o 1 (aZ0.map AV.i)),(10,.i (aZ0.length:Int)),(11,.i v.1)],[(5,.arr 1 (v.2.map AV.i))]⟩
def SX_f (v:List Int):St:=⟨[(5,.sl 5 0 v.length)],[(5,.arr 1 (v.map AV.i))]⟩
theorem w_f (aZ0:List Int) (bZ0:List Int) (sZ1:Int×List Int) (o:(Int×List Int) ⊕ (List Int)) (h:M_f aZ0 bZ0 sZ1=some o):AWP (OkS Tryz.prog) A68L1 (qL [1,5,9,10,11] [5] (S_f aZ0 bZ0) (qX 0 [5] [5] (SX_f)) o) (S_f aZ0 bZ0 sZ1):=by
 unfold M_f at h
 simp only [ZC,S_f,A68L1]
 obtain ⟨cZ2,h⟩ | ⟨cZ2,h⟩:=cond_s h
 · obtain ⟨yZ3,hyZ3,h⟩:=bind_s h
   obtain ⟨hyZ3a,hyZ3b⟩:=geti_s hyZ3
   obtain ⟨rZ4,hrZ4,h⟩:=bind_s h
   refine ZF (ZA cZ2 (ZA hyZ3a hyZ3b)) ?_
   refine ZS (ZA cZ2 (ZA hyZ3a hyZ3b)) (w_cq _ _ hrZ4) ?_
   refine ZG ?_
   obtain ⟨cZ5,h⟩ | ⟨cZ5,h⟩:=cond_s h
   · obtain ⟨lZ6,hlZ6,h⟩:=bnd_s h
     have eZ7:Row.arr 1 [(.i yZ3:AV)]=Row.arr 1 (lZ6.map AV.i):=by rw [← hlZ6]; rfl
     have jjZ8:lZ6.length=1:=by rw [← hlZ6]; rfl
     obtain ⟨uZ9,huZ9,h⟩:=bind_s h
     have huZ9g:=grd_s huZ9
     obtain ⟨lZ10,hlZ10,h⟩:=bnd_s h
     have eZ11:sZ1.2.map AV.i++lZ6.map AV.i=lZ10.map AV.i:=by rw [← hlZ10,List.map_append]
     have eZ12:sZ1.2.length+1=lZ10.length:=by simp [← hlZ6,← hlZ10] <;> omega
     rw [eZ12] at huZ9g
     cases h
     exact ZL (ZA cZ2 (ZA hyZ3a (ZA hyZ3b (ZA cZ5 (ZA eZ7 (ZA jjZ8 (ZA huZ9g (ZA eZ11 eZ12)))))))) (ZA @S_f.eq_1 (ZA @SX_f.eq_1 (ZA hlZ6.symm (ZA hlZ10.symm jjZ8))))
   · cases h
     exact ZL (ZA cZ2 (ZA hyZ3a (ZA hyZ3b cZ5))) (ZA @S_f.eq_1 @SX_f.eq_1)
 · cases h
   exact ZL cZ2 (ZA @S_f.eq_1 @SX_f.eq_1)
theorem w_bt (aZ0:List Int) (bZ0:List Int) {r:List Int} (h:M_bt aZ0 bZ0=some r):Ok Tryz.prog 68 [.lst .o 1 (aZ0.map AV.i),.lst .o 1 (bZ0.map AV.i)] ((fun r=>.lst .u 1 (r.map AV.i)) r):=by
 refine ok_of_body hmix m68 rfl ?_
 unfold M_bt at h
 simp only [ZC,A68,V68,body_eq]
 obtain ⟨oZ13,hoZ13,h⟩:=bind_s h
 try refine ZF trivial ?_
 refine join_rule0 (blk_rule0 (loop_rule (w_f aZ0 bZ0) hoZ13 ?_)) ?_
 · exact ZK (ZA @S_f.eq_1 @SX_f.eq_1)
 · simp only [ZC,SX_f,A68R2]
   obtain ⟨lZ14,hlZ14,h⟩:=bind_s h
   have eZ15:lZ14.length=oZ13.length:=sortI_len hlZ14
   refine ZF trivial ?_
   refine call_m (by simp only [VS1,VS2,VS3,VS4,VS5,VS6,VT1,VT2,finM_ret,finM_nrm,decide_true,decide_false,List.nodup_nil,List.nodup_cons,oks_p,oks_m,oks_h,ne_eq,not_false_eq_true,Int.reduceEq,Int.reduceNe,true_and,false_and,Nat.reduceSub,Nat.reduceMul,↓reduceIte,reduceCtorEq,Nat.reduceEqDiff,Nat.reduceAdd,Nat.reduceLeDiff,Int.reduceLE]; exact (okM_sortI sortI111 (xs:=oZ13) (by simp [List.length_nil]) hlZ14)) (by simp [VS1,VS2,VS3,VS4,VS5,VS6,VT1,VT2]) (by first | exact nm_ok [1000000000] rfl (by decide +kernel) | simp [VS1,VS2,VS3,VS4,VS5,VS6,VT1,VT2]) ?_
   refine ZG ?_
   obtain ⟨rZ16,hrZ16,h⟩:=bind_s h
   refine ZF trivial ?_
   refine ZW trivial (w_ct _ _ _ hrZ16) (h2:=by first | exact nm_ok [1000000000] rfl (by decide +kernel) | exact nm_ok2 [1000000000] [] rfl (by decide +kernel) ZQ | exact ZQ) (hk:=?_)
   refine ZG ?_
   obtain ⟨lZ17,hlZ17,h⟩:=bnd_s h
   have eZ18:sub (rZ16.2.2.map AV.i) rZ16.1 rZ16.2.1=lZ17.map AV.i:=by rw [sub_mapT,hlZ17]
   cases h
   exact ZL eZ18 (ZA @V68.eq_1 eZ15)
theorem w_ez (aZ0:TLight) (bZ0:TLight) {r:Bool} (h:M_ez aZ0 bZ0=some r):Ok Tryz.prog 131 [.agg [.i aZ0.Id,.i aZ0.Route.Start,.lst .o 1 (aZ0.Route.Fibers.map AV.i),.i aZ0.Block.First,.i aZ0.Block.Count],.agg [.i bZ0.Id,.i bZ0.Route.Start,.lst .o 1 (bZ0.Route.Fibers.map AV.i),.i bZ0.Block.First,.i bZ0.Block.Count]] ((fun r=>.b r) r):=by
 refine ok_of_body hmix m131 rfl ?_
 unfold M_ez at h
 simp only [ZC,A131,V131,body_eq]
 obtain ⟨rZ1,hrZ1,h⟩:=bind_s h
 refine ZF trivial ?_
 refine ZS trivial (w_cs _ hrZ1) ?_
 refine ZG ?_
 obtain ⟨rZ2,hrZ2,h⟩:=bind_s h
 refine ZF trivial ?_
 refine ZS trivial (w_cs _ hrZ2) ?_
 refine ZG ?_
 obtain ⟨cZ3,h⟩ | ⟨cZ3,h⟩:=cond_s h
 · obtain ⟨rZ4,hrZ4,h⟩:=bind_s h
   refine ZF cZ3 ?_
   refine ZU cZ3 (w_bt _ _ hrZ4) ?_
   refine ZG ?_
   cases h
   exact ZL cZ3 @V131.eq_1
 · cases h
   exact ZL cZ3 @V131.eq_1
theorem w_cu (ownZ0:TLight) (p1Z0:TLight) {r:Bool} (h:M_cu ownZ0 p1Z0=some r):Ok Tryz.prog 130 [.agg [.i ownZ0.Id,.i ownZ0.Route.Start,.lst .o 1 (ownZ0.Route.Fibers.map AV.i),.i ownZ0.Block.First,.i ownZ0.Block.Count],.bp .o (.agg [.i p1Z0.Id,.i p1Z0.Route.Start,.lst .o 1 (p1Z0.Route.Fibers.map AV.i),.i p1Z0.Block.First,.i p1Z0.Block.Count]) 0] ((fun r=>.b r) r):=by
 refine ok_of_body hmix m130 rfl ?_
 unfold M_cu at h
 simp only [ZC,A130,V130,body_eq]
 obtain ⟨rZ1,hrZ1,h⟩:=bind_s h
 refine ZF trivial ?_
 refine ZS trivial (w_ez _ _ hrZ1) ?_
 refine ZG ?_
 cases h
 exact ZL trivial @V130.eq_1
def S_g (sZ0:List TLight) (F_fZ0:Nat) (C_fZ0:List AV) (v:Int):St:=⟨[(0,.lst .o 5 (sZ0.map (e_TLight .o))),(1,.fn F_fZ0 C_fZ0),(7,.i (sZ0.length:Int)),(8,.i v)],[]⟩
def SX_g (v:Unit):St:=⟨[],[]⟩
theorem w_g (sZ0:List TLight) (fZ0:TLight→Option Bool) (F_fZ0:Nat) (C_fZ0:List AV) (hC_fZ0:Fixed C_fZ0) (hf_fZ0:∀ (x0:TLight) (r:Bool),fZ0 x0=some r→Ok Tryz.prog F_fZ0 ((.agg [.i x0.Id,.i x0.Route.Start,.lst .o 1 (x0.Route.Fibers.map AV.i),.i x0.Block.First,.i x0.Block.Count])::C_fZ0) (.b r)) (sZ1:Int) (o:Int ⊕ (Unit ⊕ Int)) (h:M_g sZ0 fZ0 sZ1=some o):AWP (OkS Tryz.prog) A133L1 (qL [0,1,7,8] [] (S_g sZ0 F_fZ0 C_fZ0) (qS (qX 0 [] [] (SX_g)) (qR V133 (fun r=>.i r))) o) (S_g sZ0 F_fZ0 C_fZ0 sZ1):=by
 unfold M_g at h
 simp only [ZC,S_g,A133L1]
 obtain ⟨cZ2,h⟩ | ⟨cZ2,h⟩:=cond_s h
 · obtain ⟨yZ3,hyZ3,h⟩:=bind_s h
   obtain ⟨hyZ3a,hyZ3b⟩:=geti_s hyZ3
   obtain ⟨rZ4,hrZ4,h⟩:=bind_s h
   refine ZF (ZA cZ2 (ZA hyZ3a hyZ3b)) ?_
   refine ZS (ZA cZ2 (ZA hyZ3a (ZA hyZ3b hC_fZ0.1))) (hf_fZ0 _ _ hrZ4) ?_
   refine ZG ?_
   obtain ⟨cZ5,h⟩ | ⟨cZ5,h⟩:=cond_s h
   · cases h
     exact ZL (ZA cZ2 (ZA hyZ3a (ZA hyZ3b cZ5))) (ZA @V133.eq_1 (ZA hC_fZ0.2 ((fixed_ren hC_fZ0))))
   · cases h
     exact ZL (ZA cZ2 (ZA hyZ3a (ZA hyZ3b cZ5))) (ZA @S_g.eq_1 (ZA @SX_g.eq_1 (ZA hC_fZ0.2 ((fixed_ren hC_fZ0)))))
 · cases h
   exact ZL cZ2 (ZA @S_g.eq_1 (ZA @SX_g.eq_1 (ZA hC_fZ0.2 ((fixed_ren hC_fZ0)))))
theorem w_cb (sZ0:List TLight) (fZ0:TLight→Option Bool) {r:Int} (h:M_cb sZ0 fZ0=some r) (F_fZ0:Nat) (C_fZ0:List AV) (hC_fZ0:Fixed C_fZ0) (hf_fZ0:∀ (x0:TLight) (r:Bool),fZ0 x0=some r→Ok Tryz.prog F_fZ0 ((.agg [.i x0.Id,.i x0.Route.Start,.lst .o 1 (x0.Route.Fibers.map AV.i),.i x0.Block.First,.i x0.Block.Count])::C_fZ0) (.b r)):Ok Tryz.prog 133 [.lst .o 5 (sZ0.map (e_TLight .o)),.fn F_fZ0 C_fZ0] ((fun r=>.i r) r):=by
 refine ok_of_body hmix m133 rfl ?_
 unfold M_cb at h
 simp only [ZC,A133,V133,body_eq]
 obtain ⟨oZ6,hoZ6,h⟩:=bind_s h
 try refine ZF trivial ?_
 refine join_rule (o:=oZ6) (blk_rule sideR (loop_rule (w_g sZ0 fZ0 F_fZ0 C_fZ0 hC_fZ0 hf_fZ0) hoZ6 ?_)) (fun vZ7 hv=>?_) (fun xZ8 hv e τ hne hq=>?_)
 · exact ZK (ZA @S_g.eq_1 (ZA @SX_g.eq_1 (ZA hC_fZ0.2 ((fixed_ren hC_fZ0)))))
 · subst hv
   simp only [] at h
   simp only [ZC,SX_g,A133R2]
   cases h
   exact ZL trivial (ZA @V133.eq_1 (ZA hC_fZ0.2 ((fixed_ren hC_fZ0))))
 · subst hv
   simp only [] at h
   obtain ⟨rfl,qZ9⟩:=hq
   cases h
   exact qZ9
theorem w_br (sZ0:List TLight) (fZ0:TLight→Option Bool) {r:Bool} (h:M_br sZ0 fZ0=some r) (F_fZ0:Nat) (C_fZ0:List AV) (hC_fZ0:Fixed C_fZ0) (hf_fZ0:∀ (x0:TLight) (r:Bool),fZ0 x0=some r→Ok Tryz.prog F_fZ0 ((.agg [.i x0.Id,.i x0.Route.Start,.lst .o 1 (x0.Route.Fibers.map AV.i),.i x0.Block.First,.i x0.Block.Count])::C_fZ0) (.b r)):Ok Tryz.prog 65 [.lst .o 5 (sZ0.map (e_TLight .o)),.fn F_fZ0 C_fZ0] ((fun r=>.b r) r):=by
 refine ok_of_body hmix m65 rfl ?_
 unfold M_br at h
 simp only [ZC,A65,V65,body_eq]
 obtain ⟨rZ1,hrZ1,h⟩:=bind_s h
 refine ZF trivial ?_
 refine ZS hC_fZ0.1 (w_cb _ _ hrZ1 F_fZ0 C_fZ0 hC_fZ0 hf_fZ0) ?_
 refine ZG ?_
 cases h
 exact ZL trivial (ZA @V65.eq_1 (ZA hC_fZ0.2 ((fixed_ren hC_fZ0))))
def S_m (pZ0:TPlan) (v:Int):St:=⟨[(1,.pt 1 0 0),(16,.lst .o 5 (pZ0.Lights.map (e_TLight .o))),(17,.i (pZ0.Lights.length:Int)),(18,.i v)],[(1,.var (.agg [.lst .o 1 (pZ0.Network.Nodes.map AV.z),.lst .o 4 (pZ0.Network.Fibers.map (e_TFiber .o)),.lst .o 5 (pZ0.Lights.map (e_TLight .o))]))]⟩
def SX_m (v:Unit):St:=⟨[],[]⟩
theorem w_m (pZ0:TPlan) (sZ5:Int) (o:Int ⊕ (Unit ⊕ Bool)) (h:M_m pZ0 sZ5=some o):AWP (OkS Tryz.prog) A63L2 (qL [1,16,17,18] [1] (S_m pZ0) (qS (qX 0 [] [] (SX_m)) (qR V63 (fun r=>.b r))) o) (S_m pZ0 sZ5):=by
 unfold M_m at h
 simp only [ZC,S_m,A63L2]
 obtain ⟨cZ6,h⟩ | ⟨cZ6,h⟩:=cond_s h
 · obtain ⟨yZ7,hyZ7,h⟩:=bind_s h
   obtain ⟨hyZ7a,hyZ7b⟩:=geti_s hyZ7
   obtain ⟨rZ8,hrZ8,h⟩:=bind_s h
   refine ZF (ZA cZ6 (ZA hyZ7a hyZ7b)) ?_
   refine ZS (ZA cZ6 (ZA hyZ7a hyZ7b)) (w_ey _ _ hrZ8) ?_
   refine ZG ?_
   obtain ⟨cZ9,h⟩ | ⟨cZ9,h⟩:=cond_s h
   · cases h
     exact ZL (ZA cZ6 (ZA hyZ7a (ZA hyZ7b cZ9))) @V63.eq_1
   · obtain ⟨cZ10,h⟩ | ⟨cZ10,h⟩:=cond_s h
     · obtain ⟨yZ11,hyZ11,h⟩:=bind_s h
       obtain ⟨hyZ11a,hyZ11b⟩:=geti_s hyZ11
       obtain ⟨cZ12,h⟩ | ⟨cZ12,h⟩:=cond_s h
       · cases h
         exact ZL (ZA cZ6 (ZA hyZ7a (ZA hyZ7b (ZA cZ9 (ZA cZ10 (ZA hyZ11a (ZA hyZ11b cZ12))))))) @V63.eq_1
       · obtain ⟨lZ13,hlZ13,h⟩:=bind_s h
         obtain ⟨hlZ13a,hlZ13b,hlZ13c,hlZ13d,hlZ13e⟩:=slT_s (e_TLight .o) hlZ13
         obtain ⟨rZ14,hrZ14,h⟩:=bind_s h
         refine ZF (ZA cZ6 (ZA hyZ7a (ZA hyZ7b (ZA cZ9 (ZA cZ10 (ZA hyZ11a (ZA hyZ11b (ZA cZ12 (ZA hlZ13a (ZA hlZ13b (ZA hlZ13c (ZA hlZ13d hlZ13e)))))))))))) ?_
         refine ZS (ZA cZ6 (ZA hyZ7a (ZA hyZ7b (ZA cZ9 (ZA cZ10 (ZA hyZ11a (ZA hyZ11b (ZA cZ12 (ZA hlZ13a (ZA hlZ13b (ZA hlZ13c (ZA hlZ13d hlZ13e)))))))))))) (w_br _ _ hrZ14 130 [.bp .o (.agg [.i yZ7.Id,.i yZ7.Route.Start,.lst .o 1 (yZ7.Route.Fibers.map AV.i),.i yZ7.Block.First,.i yZ7.Block.Count]) 0] ⟨fun ρ k=>by simp only [VS1,VS2,VS3,VS4,VS5,VS6,VT1,VT2,finM_ret,finM_nrm,decide_true,decide_false,List.nodup_nil,List.nodup_cons,oks_p,oks_m,oks_h,ne_eq,not_false_eq_true,Int.reduceEq,Int.reduceNe,true_and,false_and,Nat.reduceSub,Nat.reduceMul,↓reduceIte,reduceCtorEq,Nat.reduceEqDiff,Nat.reduceAdd,Nat.reduceLeDiff,Int.reduceLE],by simp [mentsL,AV.ments]⟩ (fun _ _ h=>w_cu _ _ h)) ?_
         refine ZG ?_
         obtain ⟨cZ15,h⟩ | ⟨cZ15,h⟩:=cond_s h
         · cases h
           exact ZL (ZA cZ6 (ZA hyZ7a (ZA hyZ7b (ZA cZ9 (ZA cZ10 (ZA hyZ11a (ZA hyZ11b (ZA cZ12 (ZA hlZ13a (ZA hlZ13b (ZA hlZ13c (ZA hlZ13d (ZA hlZ13e cZ15))))))))))))) @V63.eq_1
         · cases h
           exact ZL (ZA cZ6 (ZA hyZ7a (ZA hyZ7b (ZA cZ9 (ZA cZ10 (ZA hyZ11a (ZA hyZ11b (ZA cZ12 (ZA hlZ13a (ZA hlZ13b (ZA hlZ13c (ZA hlZ13d (ZA hlZ13e cZ15))))))))))))) (ZA @S_m.eq_1 @SX_m.eq_1)
     · obtain ⟨lZ16,hlZ16,h⟩:=bind_s h
       obtain ⟨hlZ16a,hlZ16b,hlZ16c,hlZ16d,hlZ16e⟩:=slT_s (e_TLight .o) hlZ16
       obtain ⟨rZ17,hrZ17,h⟩:=bind_s h
       refine ZF (ZA cZ6 (ZA hyZ7a (ZA hyZ7b (ZA cZ9 (ZA cZ10 (ZA hlZ16a (ZA hlZ16b (ZA hlZ16c (ZA hlZ16d hlZ16e))))))))) ?_
       refine ZS (ZA cZ6 (ZA hyZ7a (ZA hyZ7b (ZA cZ9 (ZA cZ10 (ZA hlZ16a (ZA hlZ16b (ZA hlZ16c (ZA hlZ16d hlZ16e))))))))) (w_br _ _ hrZ17 130 [.bp .o (.agg [.i yZ7.Id,.i yZ7.Route.Start,.lst .o 1 (yZ7.Route.Fibers.map AV.i),.i yZ7.Block.First,.i yZ7.Block.Count]) 0] ⟨fun ρ k=>by simp only [VS1,VS2,VS3,VS4,VS5,VS6,VT1,VT2,finM_ret,finM_nrm,decide_true,decide_false,List.nodup_nil,List.nodup_cons,oks_p,oks_m,oks_h,ne_eq,not_false_eq_true,Int.reduceEq,Int.reduceNe,true_and,false_and,Nat.reduceSub,Nat.reduceMul,↓reduceIte,reduceCtorEq,Nat.reduceEqDiff,Nat.reduceAdd,Nat.reduceLeDiff,Int.reduceLE],by simp [mentsL,AV.ments]⟩ (fun _ _ h=>w_cu _ _ h)) ?_
       refine ZG ?_
       obtain ⟨cZ18,h⟩ | ⟨cZ18,h⟩:=cond_s h
       · cases h
         exact ZL (ZA cZ6 (ZA hyZ7a (ZA hyZ7b (ZA cZ9 (ZA cZ10 (ZA hlZ16a (ZA hlZ16b (ZA hlZ16c (ZA hlZ16d (ZA hlZ16e cZ18)))))))))) @V63.eq_1
       · cases h
         exact ZL (ZA cZ6 (ZA hyZ7a (ZA hyZ7b (ZA cZ9 (ZA cZ10 (ZA hlZ16a (ZA hlZ16b (ZA hlZ16c (ZA hlZ16d (ZA hlZ16e cZ18)))))))))) (ZA @S_m.eq_1 @SX_m.eq_1)
 · cases h
   exact ZL cZ6 (ZA @S_m.eq_1 @SX_m.eq_1)
theorem w_cc (pZ0:TPlan) {r:Bool} (h:M_cc pZ0=some r):Ok Tryz.prog 63 [.agg [.lst .o 1 (pZ0.Network.Nodes.map AV.z),.lst .o 4 (pZ0.Network.Fibers.map (e_TFiber .o)),.lst .o 5 (pZ0.Lights.map (e_TLight .o))]] ((fun r=>.b r) r):=by
 refine ok_of_body hmix m63 rfl ?_
 unfold M_cc at h
 simp only [ZC,A63,V63,body_eq]
 obtain ⟨oZ3,hoZ3,h⟩:=bind_s h
 try refine ZF trivial ?_
 refine join_rule0 (sh:=(fun v=>⟨[(1,.pt 1 0 0),(14,.b v)],[(1,.var (.agg [.lst .o 1 (pZ0.Network.Nodes.map AV.z),.lst .o 4 (pZ0.Network.Fibers.map (e_TFiber .o)),.lst .o 5 (pZ0.Lights.map (e_TLight .o))]))]⟩)) (s:=oZ3) ?_ ?_
 · replace h:=hoZ3
   obtain ⟨rZ1,hrZ1,h⟩:=bind_s h
   refine ZF trivial ?_
   refine ZS trivial (w_ev _ hrZ1) ?_
   refine ZG ?_
   obtain ⟨cZ2,h⟩ | ⟨cZ2,h⟩:=cond_s h
   · cases h
     exact ZL cZ2 trivial
   · cases h
     exact ZL cZ2 trivial
 · simp only [ZC,A63R1]
   obtain ⟨cZ4,h⟩ | ⟨cZ4,h⟩:=cond_s h
   · cases h
     exact ZL cZ4 @V63.eq_1
   · obtain ⟨oZ19,hoZ19,h⟩:=bind_s h
     try refine ZF cZ4 ?_
     refine join_rule (o:=oZ19) (blk_rule sideR (loop_rule (w_m pZ0) hoZ19 ?_)) (fun vZ20 hv=>?_) (fun xZ21 hv e τ hne hq=>?_)
     · exact ZK (ZA @S_m.eq_1 @SX_m.eq_1)
     · subst hv
       simp only [] at h
       simp only [ZC,SX_m,A63R3]
       cases h
       exact ZL cZ4 @V63.eq_1
     · subst hv
       simp only [] at h
       obtain ⟨rfl,qZ22⟩:=hq
       cases h
       exact qZ22
def S_n (lZ0:List Int) (nZ0:Int) (v:Int):St:=⟨[(0,.lst .o 1 (lZ0.map AV.i)),(1,.i nZ0),(7,.lst .o 1 (lZ0.map AV.i)),(8,.i (lZ0.length:Int)),(9,.i v)],[]⟩
def SX_n (v:Unit):St:=⟨[],[]⟩
theorem w_n (lZ0:List Int) (nZ0:Int) (sZ1:Int) (o:Int ⊕ (Unit ⊕ Bool)) (h:M_n lZ0 nZ0 sZ1=some o):AWP (OkS Tryz.prog) A64L1 (qL [0,1,7,8,9] [] (S_n lZ0 nZ0) (qS (qX 0 [] [] (SX_n)) (qR V64 (fun r=>.b r))) o) (S_n lZ0 nZ0 sZ1):=by
 unfold M_n at h
 simp only [ZC,S_n,A64L1]
 obtain ⟨cZ2,h⟩ | ⟨cZ2,h⟩:=cond_s h
 · obtain ⟨yZ3,hyZ3,h⟩:=bind_s h
   obtain ⟨hyZ3a,hyZ3b⟩:=geti_s hyZ3
   obtain ⟨rZ4,hrZ4,h⟩:=bind_s h
   refine ZF (ZA cZ2 (ZA hyZ3a hyZ3b)) ?_
   refine ZS (ZA cZ2 (ZA hyZ3a hyZ3b)) (w_j _ _ _ hrZ4) ?_
   refine ZG ?_
   obtain ⟨cZ5,h⟩ | ⟨cZ5,h⟩:=cond_s h
   · cases h
     exact ZL (ZA cZ2 (ZA hyZ3a (ZA hyZ3b cZ5))) @V64.eq_1
   · obtain ⟨cZ6,h⟩ | ⟨cZ6,h⟩:=cond_s h
     · obtain ⟨yZ7,hyZ7,h⟩:=bind_s h
       obtain ⟨hyZ7a,hyZ7b⟩:=geti_s hyZ7
       obtain ⟨cZ8,h⟩ | ⟨cZ8,h⟩:=cond_s h
       · cases h
         exact ZL (ZA cZ2 (ZA hyZ3a (ZA hyZ3b (ZA cZ5 (ZA cZ6 (ZA hyZ7a (ZA hyZ7b cZ8))))))) @V64.eq_1
       · cases h
         exact ZL (ZA cZ2 (ZA hyZ3a (ZA hyZ3b (ZA cZ5 (ZA cZ6 (ZA hyZ7a (ZA hyZ7b cZ8))))))) (ZA @S_n.eq_1 @SX_n.eq_1)
     · cases h
       exact ZL (ZA cZ2 (ZA hyZ3a (ZA hyZ3b (ZA cZ5 cZ6)))) (ZA @S_n.eq_1 @SX_n.eq_1)
 · cases h
   exact ZL cZ2 (ZA @S_n.eq_1 @SX_n.eq_1)
theorem w_cv (lZ0:List Int) (nZ0:Int) {r:Bool} (h:M_cv lZ0 nZ0=some r):Ok Tryz.prog 64 [.lst .o 1 (lZ0.map AV.i),.i nZ0] ((fun r=>.b r) r):=by
 refine ok_of_body hmix m64 rfl ?_
 unfold M_cv at h
 simp only [ZC,A64,V64,body_eq]
 obtain ⟨oZ9,hoZ9,h⟩:=bind_s h
 try refine ZF trivial ?_
 refine join_rule (o:=oZ9) (blk_rule sideR (loop_rule (w_n lZ0 nZ0) hoZ9 ?_)) (fun vZ10 hv=>?_) (fun xZ11 hv e τ hne hq=>?_)
 · exact ZK (ZA @S_n.eq_1 @SX_n.eq_1)
 · subst hv
   simp only [] at h
   simp only [ZC,SX_n,A64R2]
   cases h
   exact ZL trivial @V64.eq_1
 · subst hv
   simp only [] at h
   obtain ⟨rfl,qZ12⟩:=hq
   cases h
   exact qZ12
theorem w_fv (xZ0:TLight) (p1Z0:Int) {r:Bool} (h:M_fv xZ0 p1Z0=some r):Ok Tryz.prog 134 [.agg [.i xZ0.Id,.i xZ0.Route.Start,.lst .o 1 (xZ0.Route.Fibers.map AV.i),.i xZ0.Block.First,.i xZ0.Block.Count],.bp .o (.i p1Z0) 0] ((fun r=>.b r) r):=by
 refine ok_of_body hmix m134 rfl ?_
 unfold M_fv at h
 simp only [ZC,A134,V134,body_eq]
 cases h
 exact ZL trivial @V134.eq_1
theorem w_fa (rZ0:TRestoration) (idZ0:Int) {r:Int} (h:M_fa rZ0 idZ0=some r):Ok Tryz.prog 67 [.agg [.lst .o 1 (rZ0.Plan.Network.Nodes.map AV.z),.lst .o 4 (rZ0.Plan.Network.Fibers.map (e_TFiber .o)),.lst .o 5 (rZ0.Plan.Lights.map (e_TLight .o)),.lst .o 5 (rZ0.Home.map (e_TLight .o)),.lst .o 1 (rZ0.Down.map AV.i)],.i idZ0] ((fun r=>.i r) r):=by
 refine ok_of_body hmix m67 rfl ?_
 unfold M_fa at h
 simp only [ZC,A67,V67,body_eq]
 obtain ⟨rZ1,hrZ1,h⟩:=bind_s h
 refine ZF trivial ?_
 refine ZS trivial (w_cb _ _ hrZ1 134 [.bp .o (.i idZ0) 0] ⟨fun ρ k=>by simp only [VS1,VS2,VS3,VS4,VS5,VS6,VT1,VT2,finM_ret,finM_nrm,decide_true,decide_false,List.nodup_nil,List.nodup_cons,oks_p,oks_m,oks_h,ne_eq,not_false_eq_true,Int.reduceEq,Int.reduceNe,true_and,false_and,Nat.reduceSub,Nat.reduceMul,↓reduceIte,reduceCtorEq,Nat.reduceEqDiff,Nat.reduceAdd,Nat.reduceLeDiff,Int.reduceLE],by simp [mentsL,AV.ments]⟩ (fun _ _ h=>w_fv _ _ h)) ?_
 refine ZG ?_
 cases h
 exact ZL trivial @V67.eq_1
theorem w_cw (nZ0:TNetwork) (rZ0:TRoute) {r:Int} (h:M_cw nZ0 rZ0=some r):Ok Tryz.prog 69 [.agg [.lst .o 1 (nZ0.Nodes.map AV.z),.lst .o 4 (nZ0.Fibers.map (e_TFiber .o))],.agg [.i rZ0.Start,.lst .o 1 (rZ0.Fibers.map AV.i)]] ((fun r=>.i r) r):=by
 refine ok_of_body hmix m69 rfl ?_
 unfold M_cw at h
 simp only [ZC,A69,V69,body_eq]
 obtain ⟨rZ1,hrZ1,h⟩:=bind_s h
 refine ZF trivial ?_
 refine ZU trivial (w_cr _ _ hrZ1) ?_
 refine ZG ?_
 obtain ⟨kZ2,hkZ2,h⟩:=bind_s h
 obtain ⟨hkZ2a,hkZ2b⟩:=grd_s hkZ2
 obtain ⟨yZ3,hyZ3,h⟩:=bind_s h
 cases h
 exact ZL (ZA hkZ2a (ZA hkZ2b hyZ3)) @V69.eq_1
theorem w_fb (xZ0:TLight) (p1Z0:TRestoration) (p2Z0:TNetwork) {r:Bool} (h:M_fb xZ0 p1Z0 p2Z0=some r):Ok Tryz.prog 66 [.agg [.i xZ0.Id,.i xZ0.Route.Start,.lst .o 1 (xZ0.Route.Fibers.map AV.i),.i xZ0.Block.First,.i xZ0.Block.Count],.bp .o (.agg [.lst .o 1 (p1Z0.Plan.Network.Nodes.map AV.z),.lst .o 4 (p1Z0.Plan.Network.Fibers.map (e_TFiber .o)),.lst .o 5 (p1Z0.Plan.Lights.map (e_TLight .o)),.lst .o 5 (p1Z0.Home.map (e_TLight .o)),.lst .o 1 (p1Z0.Down.map AV.i)]) 0,.bp .o (.agg [.lst .o 1 (p2Z0.Nodes.map AV.z),.lst .o 4 (p2Z0.Fibers.map (e_TFiber .o))]) 0] ((fun r=>.b r) r):=by
 refine ok_of_body hmix m66 rfl ?_
 unfold M_fb at h
 simp only [ZC,A66,V66,body_eq]
 obtain ⟨rZ1,hrZ1,h⟩:=bind_s h
 refine ZF trivial ?_
 refine ZS trivial (w_fa _ _ hrZ1) ?_
 refine ZG ?_
 obtain ⟨oZ4,hoZ4,h⟩:=bind_s h
 try refine ZF trivial ?_
 refine join_rule0 (sh:=(fun v=>⟨[(1,.bp .o (.agg [.lst .o 1 (p1Z0.Plan.Network.Nodes.map AV.z),.lst .o 4 (p1Z0.Plan.Network.Fibers.map (e_TFiber .o)),.lst .o 5 (p1Z0.Plan.Lights.map (e_TLight .o)),.lst .o 5 (p1Z0.Home.map (e_TLight .o)),.lst .o 1 (p1Z0.Down.map AV.i)]) 0),(2,.bp .o (.agg [.lst .o 1 (p2Z0.Nodes.map AV.z),.lst .o 4 (p2Z0.Fibers.map (e_TFiber .o))]) 0),(3,.pt 3 0 0),(5,.i rZ1),(22,.b v)],[(3,.var (.agg [.i xZ0.Id,.i xZ0.Route.Start,.lst .o 1 (xZ0.Route.Fibers.map AV.i),.i xZ0.Block.First,.i xZ0.Block.Count]))]⟩)) (s:=oZ4) ?_ ?_
 · replace h:=hoZ4
   obtain ⟨cZ2,h⟩ | ⟨cZ2,h⟩:=cond_s h
   · cases h
     exact ZL cZ2 trivial
   · obtain ⟨rZ3,hrZ3,h⟩:=bind_s h
     refine ZF cZ2 ?_
     refine ZU cZ2 (w_bt _ _ hrZ3) ?_
     refine ZG ?_
     cases h
     exact ZL cZ2 trivial
 · simp only [ZC,A66R1]
   obtain ⟨cZ5,h⟩ | ⟨cZ5,h⟩:=cond_s h
   · cases h
     exact ZL cZ5 @V66.eq_1
   · obtain ⟨yZ6,hyZ6,h⟩:=bind_s h
     obtain ⟨hyZ6a,hyZ6b⟩:=geti_s hyZ6
     obtain ⟨cZ7,h⟩ | ⟨cZ7,h⟩:=cond_s h
     · cases h
       exact ZL (ZA cZ5 (ZA hyZ6a (ZA hyZ6b cZ7))) @V66.eq_1
     · obtain ⟨rZ8,hrZ8,h⟩:=bind_s h
       refine ZF (ZA cZ5 (ZA hyZ6a (ZA hyZ6b cZ7))) ?_
       refine ZS (ZA cZ5 (ZA hyZ6a (ZA hyZ6b cZ7))) (w_cw _ _ hrZ8) ?_
       refine ZG ?_
       obtain ⟨rZ9,hrZ9,h⟩:=bind_s h
       refine ZF (ZA cZ5 (ZA hyZ6a (ZA hyZ6b cZ7))) ?_
       refine ZS (ZA cZ5 (ZA hyZ6a (ZA hyZ6b cZ7))) (w_cw _ _ hrZ9) ?_
       refine ZG ?_
       obtain ⟨cZ10,h⟩ | ⟨cZ10,h⟩:=cond_s h
       · cases h
         exact ZL (ZA cZ5 (ZA hyZ6a (ZA hyZ6b (ZA cZ7 cZ10)))) @V66.eq_1
       · cases h
         exact ZL (ZA cZ5 (ZA hyZ6a (ZA hyZ6b (ZA cZ7 cZ10)))) @V66.eq_1
theorem w_fc (rZ0:TRestoration) {r:Bool} (h:M_fc rZ0=some r):Ok Tryz.prog 16 [.agg [.lst .o 1 (rZ0.Plan.Network.Nodes.map AV.z),.lst .o 4 (rZ0.Plan.Network.Fibers.map (e_TFiber .o)),.lst .o 5 (rZ0.Plan.Lights.map (e_TLight .o)),.lst .o 5 (rZ0.Home.map (e_TLight .o)),.lst .o 1 (rZ0.Down.map AV.i)]] ((fun r=>.b r) r):=by
 refine ok_of_body hmix m16 rfl ?_
 unfold M_fc at h
 simp only [ZC,A16,V16,body_eq]
 obtain ⟨oZ6,hoZ6,h⟩:=bind_s h
 try refine ZF trivial ?_
 refine join_rule0 (sh:=(fun v=>⟨[(1,.pt 1 0 0),(3,.pt 3 0 0),(27,.b v)],[(1,.var (.agg [.lst .o 1 (rZ0.Plan.Network.Nodes.map AV.z),.lst .o 4 (rZ0.Plan.Network.Fibers.map (e_TFiber .o)),.lst .o 5 (rZ0.Plan.Lights.map (e_TLight .o)),.lst .o 5 (rZ0.Home.map (e_TLight .o)),.lst .o 1 (rZ0.Down.map AV.i)])),(3,.var (.agg [.lst .o 1 (rZ0.Plan.Network.Nodes.map AV.z),.lst .o 4 (rZ0.Plan.Network.Fibers.map (e_TFiber .o))]))]⟩)) (s:=oZ6) ?_ ?_
 · replace h:=hoZ6
   obtain ⟨rZ1,hrZ1,h⟩:=bind_s h
   refine ZF trivial ?_
   refine ZS trivial (w_cc _ hrZ1) ?_
   refine ZG ?_
   obtain ⟨cZ2,h⟩ | ⟨cZ2,h⟩:=cond_s h
   · cases h
     exact ZL cZ2 trivial
   · obtain ⟨rZ3,hrZ3,h⟩:=bind_s h
     refine ZF cZ2 ?_
     refine ZS cZ2 (w_cc _ hrZ3) ?_
     refine ZG ?_
     obtain ⟨cZ4,h⟩ | ⟨cZ4,h⟩:=cond_s h
     · cases h
       exact ZL (ZA cZ2 cZ4) trivial
     · obtain ⟨rZ5,hrZ5,h⟩:=bind_s h
       refine ZF (ZA cZ2 cZ4) ?_
       refine ZS (ZA cZ2 cZ4) (w_cv _ _ hrZ5) ?_
       refine ZG ?_
       cases h
       exact ZL (ZA cZ2 cZ4) trivial
 · simp only [ZC,A16R1]
   obtain ⟨cZ7,h⟩ | ⟨cZ7,h⟩:=cond_s h
   · cases h
     exact ZL cZ7 @V16.eq_1
   · obtain ⟨rZ8,hrZ8,h⟩:=bind_s h
     refine ZF cZ7 ?_
     refine ZS cZ7 (w_br _ _ hrZ8 66 [.bp .o (.agg [.lst .o 1 (rZ0.Plan.Network.Nodes.map AV.z),.lst .o 4 (rZ0.Plan.Network.Fibers.map (e_TFiber .o)),.lst .o 5 (rZ0.Plan.Lights.map (e_TLight .o)),.lst .o 5 (rZ0.Home.map (e_TLight .o)),.lst .o 1 (rZ0.Down.map AV.i)]) 0,.bp .o (.agg [.lst .o 1 (rZ0.Plan.Network.Nodes.map AV.z),.lst .o 4 (rZ0.Plan.Network.Fibers.map (e_TFiber .o))]) 0] ⟨fun ρ k=>by simp only [VS1,VS2,VS3,VS4,VS5,VS6,VT1,VT2,finM_ret,finM_nrm,decide_true,decide_false,List.nodup_nil,List.nodup_cons,oks_p,oks_m,oks_h,ne_eq,not_false_eq_true,Int.reduceEq,Int.reduceNe,true_and,false_and,Nat.reduceSub,Nat.reduceMul,↓reduceIte,reduceCtorEq,Nat.reduceEqDiff,Nat.reduceAdd,Nat.reduceLeDiff,Int.reduceLE],by simp [mentsL,AV.ments]⟩ (fun _ _ h=>w_fb _ _ _ h)) ?_
     refine ZG ?_
     cases h
     exact ZL cZ7 @V16.eq_1
theorem w_fd (rZ0:TRestoration) (fibersZ0:List Int) {r:Bool} (h:M_fd rZ0 fibersZ0=some r):Ok Tryz.prog 81 [.agg [.lst .o 1 (rZ0.Plan.Network.Nodes.map AV.z),.lst .o 4 (rZ0.Plan.Network.Fibers.map (e_TFiber .o)),.lst .o 5 (rZ0.Plan.Lights.map (e_TLight .o)),.lst .o 5 (rZ0.Home.map (e_TLight .o)),.lst .o 1 (rZ0.Down.map AV.i)],.lst .o 1 (fibersZ0.map AV.i)] ((fun r=>.b r) r):=by
 refine ok_of_body hmix m81 rfl ?_
 unfold M_fd at h
 simp only [ZC,A81,V81,body_eq]
 obtain ⟨rZ1,hrZ1,h⟩:=bind_s h
 refine ZF trivial ?_
 refine ZS trivial (w_fc _ hrZ1) ?_
 refine ZG ?_
 obtain ⟨cZ2,h⟩ | ⟨cZ2,h⟩:=cond_s h
 · obtain ⟨rZ3,hrZ3,h⟩:=bind_s h
   refine ZF cZ2 ?_
   refine ZS cZ2 (w_cv _ _ hrZ3) ?_
   refine ZG ?_
   cases h
   exact ZL cZ2 @V81.eq_1
 · cases h
   exact ZL cZ2 @V81.eq_1
theorem w_fw (nZ0:TNetwork) {r:TNetwork} (h:M_fw nZ0=some r):Ok Tryz.prog 157 [.agg [.lst .o 1 (nZ0.Nodes.map AV.z),.lst .o 4 (nZ0.Fibers.map (e_TFiber .o))]] ((fun r=>.agg [.lst .u 1 (r.Nodes.map AV.z),.lst .u 4 (r.Fibers.map (e_TFiber .u))]) r):=by
 refine ok_of_body hmix m157 rfl ?_
 unfold M_fw at h
 simp only [ZC,A157,V157,body_eq]
 obtain ⟨uZ1,huZ1,h⟩:=bind_s h
 have huZ1g:=grd_s huZ1
 obtain ⟨uZ2,huZ2,h⟩:=bind_s h
 have huZ2g:=grd_s huZ2
 cases h
 exact ZL (ZA huZ1g huZ2g) @V157.eq_1
theorem w_fx (rZ0:TRoute) {r:TRoute} (h:M_fx rZ0=some r):Ok Tryz.prog 108 [.agg [.i rZ0.Start,.lst .o 1 (rZ0.Fibers.map AV.i)]] ((fun r=>.agg [.i r.Start,.lst .u 1 (r.Fibers.map AV.i)]) r):=by
 refine ok_of_body hmix m108 rfl ?_
 unfold M_fx at h
 simp only [ZC,A108,V108,body_eq]
 obtain ⟨uZ1,huZ1,h⟩:=bind_s h
 have huZ1g:=grd_s huZ1
 cases h
 exact ZL huZ1g @V108.eq_1
def S_as (pZ0:TPlan) (rZ1:TNetwork) (v:Int×List TLight):St:=⟨[(2,.pt 2 0 0),(3,.pt 3 0 0),(11,.lst .o 5 (pZ0.Lights.map (e_TLight .o))),(12,.i (pZ0.Lights.length:Int)),(13,.i v.1)],[(2,.var (.agg [.lst .u 1 [],.lst .u 4 [],.lst .u 5 []])),(3,.var (.agg [.sl 500000192 0 rZ1.Nodes.length,.sl 500000193 0 rZ1.Fibers.length,.sl 500000194 0 v.2.length])),(500000192,.arr 1 (rZ1.Nodes.map AV.z)),(500000193,.arr 4 (rZ1.Fibers.map (e_TFiber .u))),(500000194,.arr 5 (v.2.map (e_TLight .u)))]⟩
def SX_as (rZ1:TNetwork) (v:List TLight):St:=⟨[(2,.pt 2 0 0),(3,.pt 3 0 0)],[(2,.var (.agg [.lst .u 1 [],.lst .u 4 [],.lst .u 5 []])),(3,.var (.agg [.sl 500000192 0 rZ1.Nodes.length,.sl 500000193 0 rZ1.Fibers.length,.sl 500000194 0 v.length])),(500000192,.arr 1 (rZ1.Nodes.map AV.z)),(500000193,.arr 4 (rZ1.Fibers.map (e_TFiber .u))),(500000194,.arr 5 (v.map (e_TLight .u)))]⟩
theorem w_as (pZ0:TPlan) (rZ1:TNetwork) (sZ2:Int×List TLight) (o:(Int×List TLight) ⊕ (List TLight)) (h:M_as pZ0 sZ2=some o):AWP (OkS Tryz.prog) A98L1 (qL [2,3,11,12,13] [2,3,500000192,500000193,500000194] (S_as pZ0 rZ1) (qX 0 [2,3] [2,3,500000192,500000193,500000194] (SX_as rZ1)) o) (S_as pZ0 rZ1 sZ2):=by
 unfold M_as at h
 simp only [ZC,S_as,A98L1]
 obtain ⟨cZ3,h⟩ | ⟨cZ3,h⟩:=cond_s h
 · obtain ⟨yZ4,hyZ4,h⟩:=bind_s h
   obtain ⟨hyZ4a,hyZ4b⟩:=geti_s hyZ4
   obtain ⟨rZ5,hrZ5,h⟩:=bind_s h
   refine ZF (ZA cZ3 (ZA hyZ4a hyZ4b)) ?_
   refine ZU (ZA cZ3 (ZA hyZ4a hyZ4b)) (w_fx _ hrZ5) ?_
   refine ZG ?_
   obtain ⟨lZ6,hlZ6,h⟩:=bnd_s h
   have eZ7:Row.arr 5 [(.agg [.i yZ4.Id,.i rZ5.Start,.lst .u 1 (rZ5.Fibers.map AV.i),.i yZ4.Block.First,.i yZ4.Block.Count]:AV)]=Row.arr 5 (lZ6.map (e_TLight .u)):=by rw [← hlZ6]; rfl
   have jjZ8:lZ6.length=1:=by rw [← hlZ6]; rfl
   obtain ⟨uZ9,huZ9,h⟩:=bind_s h
   have huZ9g:=grd_s huZ9
   obtain ⟨lZ10,hlZ10,h⟩:=bnd_s h
   have eZ11:sZ2.2.map (e_TLight .u)++lZ6.map (e_TLight .u)=lZ10.map (e_TLight .u):=by rw [← hlZ10,List.map_append]
   have eZ12:sZ2.2.length+1=lZ10.length:=by simp [← hlZ6,← hlZ10] <;> omega
   rw [eZ12] at huZ9g
   cases h
   exact ZL (ZA cZ3 (ZA hyZ4a (ZA hyZ4b (ZA eZ7 (ZA jjZ8 (ZA huZ9g (ZA eZ11 eZ12))))))) (ZA @S_as.eq_1 (ZA @SX_as.eq_1 (ZA hlZ6.symm (ZA hlZ10.symm jjZ8))))
 · cases h
   exact ZL cZ3 (ZA @S_as.eq_1 @SX_as.eq_1)
theorem w_cx (pZ0:TPlan) {r:TPlan} (h:M_cx pZ0=some r):Ok Tryz.prog 98 [.agg [.lst .o 1 (pZ0.Network.Nodes.map AV.z),.lst .o 4 (pZ0.Network.Fibers.map (e_TFiber .o)),.lst .o 5 (pZ0.Lights.map (e_TLight .o))]] ((fun r=>.agg [.lst .u 1 (r.Network.Nodes.map AV.z),.lst .u 4 (r.Network.Fibers.map (e_TFiber .u)),.lst .u 5 (r.Lights.map (e_TLight .u))]) r):=by
 refine ok_of_body hmix m98 rfl ?_
 unfold M_cx at h
 simp only [ZC,A98,V98,body_eq]
 obtain ⟨rZ1,hrZ1,h⟩:=bind_s h
 refine ZF trivial ?_
 refine ZU trivial (w_fw _ hrZ1) ?_
 refine ZG ?_
 obtain ⟨oZ13,hoZ13,h⟩:=bind_s h
 try refine ZF trivial ?_
 refine join_rule0 (blk_rule0 (loop_rule (w_as pZ0 rZ1) hoZ13 ?_)) ?_
 · exact ZK (ZA @S_as.eq_1 @SX_as.eq_1)
 · simp only [ZC,SX_as,A98R2]
   cases h
   exact ZL trivial @V98.eq_1
theorem w_fy (lZ0:List Int) {r:List Int} (h:M_fy lZ0=some r):Ok Tryz.prog 142 [.lst .o 1 (lZ0.map AV.i)] ((fun r=>.lst .u 1 (r.map AV.i)) r):=by
 refine ok_of_body hmix m142 rfl ?_
 unfold M_fy at h
 simp only [ZC,A142,V142,body_eq]
 obtain ⟨uZ1,huZ1,h⟩:=bind_s h
 have huZ1g:=grd_s huZ1
 cases h
 exact ZL huZ1g @V142.eq_1
theorem w_fe (rZ0:TRestoration) {r:TRestoration} (h:M_fe rZ0=some r):Ok Tryz.prog 77 [.agg [.lst .o 1 (rZ0.Plan.Network.Nodes.map AV.z),.lst .o 4 (rZ0.Plan.Network.Fibers.map (e_TFiber .o)),.lst .o 5 (rZ0.Plan.Lights.map (e_TLight .o)),.lst .o 5 (rZ0.Home.map (e_TLight .o)),.lst .o 1 (rZ0.Down.map AV.i)]] ((fun r=>.agg [.lst .u 1 (r.Plan.Network.Nodes.map AV.z),.lst .u 4 (r.Plan.Network.Fibers.map (e_TFiber .u)),.lst .u 5 (r.Plan.Lights.map (e_TLight .u)),.lst .u 5 (r.Home.map (e_TLight .u)),.lst .u 1 (r.Down.map AV.i)]) r):=by
 refine ok_of_body hmix m77 rfl ?_
 unfold M_fe at h
 simp only [ZC,A77,V77,body_eq]
 obtain ⟨rZ1,hrZ1,h⟩:=bind_s h
 refine ZF trivial ?_
 refine ZU trivial (w_cx _ hrZ1) ?_
 refine ZG ?_
 obtain ⟨rZ2,hrZ2,h⟩:=bind_s h
 refine ZF trivial ?_
 refine ZU trivial (w_cx _ hrZ2) ?_
 refine ZG ?_
 obtain ⟨rZ3,hrZ3,h⟩:=bind_s h
 refine ZF trivial ?_
 refine ZU trivial (w_fy _ hrZ3) ?_
 refine ZG ?_
 cases h
 exact ZL trivial @V77.eq_1
theorem w_dn (aaZ0:Int) {r:Nat×Nat×List Int} (h:M_dn aaZ0=some r):OkM Tryz.prog 170 [.lst .u 1 [],.i aaZ0] [] ((fun (r:Nat×Nat×List Int)=>.sl 4 r.1 r.2.1) r) ((fun (r:Nat×Nat×List Int)=>[(4,.arr 1 (r.2.2.map AV.i))]) r):=by
 refine okM_of_body (lr:=[4]) hmix m170M1 rfl rfl ?_
 unfold M_dn at h
 simp only [ZC,A170M1,V170M1]
 obtain ⟨cZ1,h⟩ | ⟨cZ1,h⟩:=cond_s h
 · cases h
 · obtain ⟨cZ2,h⟩ | ⟨cZ2,h⟩:=cond_s h
   · obtain ⟨uZ3,huZ3,h⟩:=bind_s h
     obtain ⟨huZ31,huZ32⟩:=grd_s huZ3
     obtain ⟨lZ4,hlZ4,h⟩:=bnd_s h
     have eZ5:List.replicate (Int.toNat (IntKind.wrap .i64 (aaZ0 - (IntKind.wrap .i64 (0 - ((0:Nat):Int)))))) (.i 0:AV)=lZ4.map AV.i:=by rw [← hlZ4,List.map_replicate]
     obtain ⟨uZ6,huZ6,h⟩:=bind_s h
     obtain ⟨huZ6a,huZ6b,huZ6c,huZ6d⟩:=grd_s huZ6
     cases h
     exact ZL (ZA cZ1 (ZA cZ2 (ZA huZ31 (ZA huZ32 (ZA eZ5 (ZA huZ6a (ZA huZ6b (ZA huZ6c huZ6d)))))))) (ZA @V170M1.eq_1 (ZA hlZ4.symm @Zr))
   · cases h
     exact ZL (ZA cZ1 cZ2) @V170M1.eq_1
def S_o (slicesZ0:List (List Int)) (v:Int×Int):St:=⟨[(0,.lst .o 1 (slicesZ0.map (e_Li .o))),(3,.i v.1),(9,.lst .o 1 (slicesZ0.map (e_Li .o))),(10,.i (slicesZ0.length:Int)),(11,.i v.2)],[]⟩
def SX_o (slicesZ0:List (List Int)) (v:Int):St:=⟨[(0,.lst .o 1 (slicesZ0.map (e_Li .o))),(3,.i v)],[]⟩
theorem w_o (slicesZ0:List (List Int)) (sZ1:Int×Int) (o:(Int×Int) ⊕ Int) (h:M_o slicesZ0 sZ1=some o):AWP (OkS Tryz.prog) A110L1 (qL [0,3,9,10,11] [] (S_o slicesZ0) (qX 0 [0,3] [] (SX_o slicesZ0)) o) (S_o slicesZ0 sZ1):=by
 unfold M_o at h
 simp only [ZC,S_o,A110L1]
 obtain ⟨cZ2,h⟩ | ⟨cZ2,h⟩:=cond_s h
 · obtain ⟨yZ3,hyZ3,h⟩:=bind_s h
   obtain ⟨hyZ3a,hyZ3b⟩:=geti_s hyZ3
   obtain ⟨cZ4,h⟩ | ⟨cZ4,h⟩:=cond_s h
   · cases h
   · cases h
     exact ZL (ZA cZ2 (ZA hyZ3a (ZA hyZ3b cZ4))) (ZA @S_o.eq_1 @SX_o.eq_1)
 · cases h
   exact ZL cZ2 (ZA @S_o.eq_1 @SX_o.eq_1)
def S_bg (slicesZ0:List (List Int)) (v:Nat×Nat×Int×List Int):St:=⟨[(6,.sl 6 v.1 v.2.1),(25,.lst .o 1 (slicesZ0.map (e_Li .o))),(26,.i (slicesZ0.length:Int)),(27,.i v.2.2.1)],[(6,.arr 1 (v.2.2.2.map AV.i))]⟩
def SX_bg (v:Nat×Nat×List Int):St:=⟨[(6,.sl 6 v.1 v.2.1)],[(6,.arr 1 (v.2.2.map AV.i))]⟩
theorem w_bg (slicesZ0:List (List Int)) (sZ7:Nat×Nat×Int×List Int) (o:(Nat×Nat×Int×List Int) ⊕ (Nat×Nat×List Int)) (h:M_bg slicesZ0 sZ7=some o):AWP (OkS Tryz.prog) A110L3 (qL [6,25,26,27] [6] (S_bg slicesZ0) (qX 2 [6] [6] (SX_bg)) o) (S_bg slicesZ0 sZ7):=by
 unfold M_bg at h
 simp only [ZC,S_bg,A110L3]
 obtain ⟨cZ8,h⟩ | ⟨cZ8,h⟩:=cond_s h
 · obtain ⟨yZ9,hyZ9,h⟩:=bind_s h
   obtain ⟨hyZ9a,hyZ9b⟩:=geti_s hyZ9
   obtain ⟨lZ10,hlZ10,h⟩:=bnd_s h
   have eZ11:sub (sZ7.2.2.2.map AV.i) sZ7.1 sZ7.2.1=lZ10.map AV.i:=by rw [sub_mapT,hlZ10]
   obtain ⟨uZ12,huZ12,h⟩:=bind_s h
   have huZ12g:=grd_s huZ12
   obtain ⟨lZ13,hlZ13,h⟩:=bnd_s h
   have eZ14:lZ10.map AV.i++yZ9.map AV.i=lZ13.map AV.i:=by rw [← hlZ13,List.map_append]
   cases h
   exact ZL (ZA cZ8 (ZA hyZ9a (ZA hyZ9b (ZA eZ11 (ZA huZ12g eZ14))))) (ZA @S_bg.eq_1 @SX_bg.eq_1)
 · cases h
   exact ZL cZ8 (ZA @S_bg.eq_1 @SX_bg.eq_1)
theorem w_dm (slicesZ0:List (List Int)) {r:List Int} (h:M_dm slicesZ0=some r):Ok Tryz.prog 110 [.lst .o 1 (slicesZ0.map (e_Li .o))] ((fun r=>.lst .u 1 (r.map AV.i)) r):=by
 refine ok_of_body hmix m110 rfl ?_
 unfold M_dm at h
 simp only [ZC,A110,V110,body_eq]
 obtain ⟨oZ5,hoZ5,h⟩:=bind_s h
 try refine ZF trivial ?_
 refine join_rule0 (blk_rule0 (loop_rule (w_o slicesZ0) hoZ5 ?_)) ?_
 · exact ZK (ZA @S_o.eq_1 @SX_o.eq_1)
 · simp only [ZC,SX_o,A110R2]
   obtain ⟨rZ6,hrZ6,h⟩:=bind_s h
   refine ZF trivial ?_
   refine ZW trivial (w_dn _ hrZ6) (h2:=by first | exact nm_ok [4] rfl (by decide +kernel) | exact nm_ok2 [4] [2500004] rfl (by decide +kernel) ZQ | exact ZQ) (hk:=?_)
   refine ZG ?_
   obtain ⟨oZ15,hoZ15,h⟩:=bind_s h
   try refine ZF trivial ?_
   refine join_rule0 (blk_rule0 (loop_rule (w_bg slicesZ0) hoZ15 ?_)) ?_
   · exact ZK (ZA @S_bg.eq_1 @SX_bg.eq_1)
   · simp only [ZC,SX_bg,A110R4]
     obtain ⟨lZ16,hlZ16,h⟩:=bnd_s h
     have eZ17:sub (oZ15.2.2.map AV.i) oZ15.1 oZ15.2.1=lZ16.map AV.i:=by rw [sub_mapT,hlZ16]
     cases h
     exact ZL eZ17 @V110.eq_1
theorem w_bh (aaZ0:TLight) (abZ0:List Int) (acZ0:List Int) {r:Bool×List Int×List Int} (h:M_bh aaZ0 abZ0 acZ0=some r):OkM Tryz.prog 114 [.agg [.i ((aaZ0).Id),.i (((aaZ0).Route).Start),.lst .s 1 ((((aaZ0).Route).Fibers).map AV.i),.i (((aaZ0).Block).First),.i (((aaZ0).Block).Count)],.pt 1000000000 0 0,.pt 1000000001 0 0] [(1000000000,.var (.lst .o 1 (abZ0.map AV.i))),(1000000001,.var (.sl 1000000002 0 acZ0.length)),(1000000002,.arr 1 (acZ0.map AV.i))] ((fun (r:Bool×List Int×List Int)=>.b r.1) r) ((fun (r:Bool×List Int×List Int)=>[(470000064,.arr 1 (r.2.2.map AV.i)),(1000000000,.var (.lst .o 1 (r.2.1.map AV.i))),(1000000001,.var (.sl 470000064 0 r.2.2.length))]) r):=by
 refine okM_of_body (lr:=[470000064,1000000000,1000000001]) hmix m114M1 rfl rfl ?_
 unfold M_bh at h
 simp only [ZC,A114M1,V114M1]
 obtain ⟨rZ1,hrZ1,h⟩:=bind_s h
 refine ZF trivial ?_
 refine ZU trivial (w_bt _ _ hrZ1) ?_
 refine ZG ?_
 obtain ⟨cZ2,h⟩ | ⟨cZ2,h⟩:=cond_s h
 · obtain ⟨lZ3,hlZ3,h⟩:=bnd_s h
   have eZ4:Row.arr 1 [(.i ((aaZ0).Id):AV)]=Row.arr 1 (lZ3.map AV.i):=by rw [← hlZ3]; rfl
   have jjZ5:lZ3.length=1:=by rw [← hlZ3]; rfl
   obtain ⟨uZ6,huZ6,h⟩:=bind_s h
   have huZ6g:=grd_s huZ6
   obtain ⟨lZ7,hlZ7,h⟩:=bnd_s h
   have eZ8:acZ0.map AV.i++lZ3.map AV.i=lZ7.map AV.i:=by rw [← hlZ7,List.map_append]
   have eZ9:acZ0.length+1=lZ7.length:=by simp [← hlZ3,← hlZ7] <;> omega
   rw [eZ9] at huZ6g
   cases h
   exact ZL (ZA cZ2 (ZA eZ4 (ZA jjZ5 (ZA huZ6g (ZA eZ8 eZ9))))) (ZA @V114M1.eq_1 (ZA hlZ3.symm (ZA hlZ7.symm jjZ5)))
 · cases h
   exact ZL cZ2 @V114M1.eq_1
def S_bi {H:World→Prop} (aaZ0:List (Tok H e_TLight 5)) (v:Int×List Int×List Int):St:=⟨[(0,.sl 1000000000 0 aaZ0.length),(1,.fn 114 [.pt 1000000001 0 0,.pt 1000000002 0 0]),(7,.i (aaZ0.length:Int)),(8,.i v.1)],[(470000128,.arr 1 (v.2.2.map AV.i)),(1000000000,.arr 5 (aaZ0.map tokE)),(1000000001,.var (.lst .o 1 (v.2.1.map AV.i))),(1000000002,.var (.sl 470000128 0 v.2.2.length))]⟩
def SX_bi {H:World→Prop} (aaZ0:List (Tok H e_TLight 5)) (v:List Int×List Int):St:=⟨[],[(470000128,.arr 1 (v.2.map AV.i)),(1000000000,.arr 5 (aaZ0.map tokE)),(1000000001,.var (.lst .o 1 (v.1.map AV.i))),(1000000002,.var (.sl 470000128 0 v.2.length))]⟩
theorem w_bi {H:World→Prop} (aaZ0:List (Tok H e_TLight 5)) (sZ1:Int×List Int×List Int) (o:(Int×List Int×List Int) ⊕ ((List Int×List Int) ⊕ (Int×List (Tok H e_TLight 5)×List Int×List Int))) (h:M_bi Tok.x tz_TLight aaZ0 sZ1=some o):AWP (OkT H Tryz.prog) A133M1L1 (qL [0,1,7,8] [470000128,1000000000,1000000001,1000000002] (S_bi aaZ0) (qS (qX 0 [] [470000128,1000000000,1000000001,1000000002] (SX_bi aaZ0)) (qM V133M1 [470000128,1000000000,1000000001,1000000002] (fun (r:Int×List (Tok H e_TLight 5)×List Int×List Int)=>.i r.1) (fun (r:Int×List (Tok H e_TLight 5)×List Int×List Int)=>[(470000128,.arr 1 (r.2.2.2.map AV.i)),(1000000000,.arr 5 (r.2.1.map tokE)),(1000000001,.var (.lst .o 1 (r.2.2.1.map AV.i))),(1000000002,.var (.sl 470000128 0 r.2.2.2.length))]))) o) (S_bi aaZ0 sZ1):=by
 unfold M_bi at h
 simp only [ZC,S_bi,A133M1L1]
 obtain ⟨cZ2,h⟩ | ⟨cZ2,h⟩:=cond_s h
 · obtain ⟨kZ3,hkZ3,h⟩:=bind_s h
   obtain ⟨hkZ3a,hkZ3b⟩:=grd_s hkZ3
   obtain ⟨yZ4,hyZ4,h⟩:=bind_s h
   obtain ⟨rZ5,hrZ5,h⟩:=bind_s h
   refine ZF (ZA okt_p (ZA okt_m (ZA cZ2 (ZA hkZ3a (ZA hkZ3b hyZ4))))) ?_
   refine ZW (ZA okt_p (ZA okt_m (ZA cZ2 (ZA hkZ3a (ZA hkZ3b hyZ4))))) (okMR_tok yZ4 (w_bh _ _ _ hrZ5)) (h2:=by first | exact nm_ok [470000064,1000000000,1000000001] rfl (by decide +kernel) | exact nm_ok2 [470000064,1000000000,1000000001] [471700064] rfl (by decide +kernel) ZQ | exact ZQ) (hk:=?_)
   refine ZG ?_
   obtain ⟨cZ6,h⟩ | ⟨cZ6,h⟩:=cond_s h
   · cases h
     exact ZL (ZA okt_p (ZA okt_m (ZA cZ2 (ZA hkZ3a (ZA hkZ3b (ZA hyZ4 cZ6)))))) @V133M1.eq_1
   · cases h
     exact ZL (ZA okt_p (ZA okt_m (ZA cZ2 (ZA hkZ3a (ZA hkZ3b (ZA hyZ4 cZ6)))))) (ZA @S_bi.eq_1 @SX_bi.eq_1)
 · cases h
   exact ZL (ZA okt_p (ZA okt_m cZ2)) (ZA @S_bi.eq_1 @SX_bi.eq_1)
theorem w_cd {H:World→Prop} (aaZ0:List (Tok H e_TLight 5)) (abZ0:List Int) (acZ0:List Int) {r:Int×List (Tok H e_TLight 5)×List Int×List Int} (h:M_cd Tok.x tz_TLight aaZ0 abZ0 acZ0=some r):OkMR H Tryz.prog 133 [.sl 1000000000 0 aaZ0.length,.fn 114 [.pt 1000000001 0 0,.pt 1000000002 0 0]] [(1000000000,.arr 5 (aaZ0.map tokE)),(1000000001,.var (.lst .o 1 (abZ0.map AV.i))),(1000000002,.var (.sl 1000000003 0 acZ0.length)),(1000000003,.arr 1 (acZ0.map AV.i))] ((fun (r:Int×List (Tok H e_TLight 5)×List Int×List Int)=>.i r.1) r) ((fun (r:Int×List (Tok H e_TLight 5)×List Int×List Int)=>[(470000128,.arr 1 (r.2.2.2.map AV.i)),(1000000000,.arr 5 (r.2.1.map tokE)),(1000000001,.var (.lst .o 1 (r.2.2.1.map AV.i))),(1000000002,.var (.sl 470000128 0 r.2.2.2.length))]) r):=by
 refine okMR_of_body (lr:=[470000128,1000000000,1000000001,1000000002]) hmix m133M1 rfl rfl ?_
 unfold M_cd at h
 simp only [ZC,A133M1,V133M1]
 obtain ⟨oZ7,hoZ7,h⟩:=bind_s h
 try refine ZF (ZA okt_p okt_m) ?_
 refine join_rule (o:=oZ7) (blk_rule sideM (loop_rule (w_bi aaZ0) hoZ7 ?_)) (fun vZ8 hv=>?_) (fun xZ9 hv e τ hne hq=>?_)
 · exact ZK (ZA @S_bi.eq_1 @SX_bi.eq_1)
 · subst hv
   simp only [] at h
   simp only [ZC,SX_bi,A133M1R2]
   cases h
   exact ZL (ZA okt_p okt_m) @V133M1.eq_1
 · subst hv
   simp only [] at h
   obtain ⟨rfl,qZ10⟩:=hq
   cases h
   exact qZ10
def S_p {H:World→Prop} (aaZ0:List (Tok H e_TLight 5)) (v:Int×Int×List (Tok H e_TLight 5)×List Int×List Int):St:=⟨[(0,.sl 1000000000 0 aaZ0.length),(1,.fn 114 [.pt 1000000001 0 0,.pt 1000000002 0 0]),(5,.i v.1),(6,.i v.2.1)],[(470000128,.arr 1 (v.2.2.2.2.map AV.i)),(1000000000,.arr 5 (v.2.2.1.map tokE)),(1000000001,.var (.lst .o 1 (v.2.2.2.1.map AV.i))),(1000000002,.var (.sl 470000128 0 v.2.2.2.2.length))]⟩
def SX_p {H:World→Prop} (aaZ0:List (Tok H e_TLight 5)) (v:Int×List (Tok H e_TLight 5)×List Int×List Int):St:=⟨[(0,.sl 1000000000 0 aaZ0.length),(5,.i v.1)],[(470000128,.arr 1 (v.2.2.2.map AV.i)),(1000000000,.arr 5 (v.2.1.map tokE)),(1000000001,.var (.lst .o 1 (v.2.2.1.map AV.i))),(1000000002,.var (.sl 470000128 0 v.2.2.2.length))]⟩
theorem w_p {H:World→Prop} (aaZ0:List (Tok H e_TLight 5)) (sZ3:Int×Int×List (Tok H e_TLight 5)×List Int×List Int) (o:(Int×Int×List (Tok H e_TLight 5)×List Int×List Int) ⊕ (Int×List (Tok H e_TLight 5)×List Int×List Int)) (h:M_p Tok.x tz_TLight aaZ0 sZ3=some o):AWP (OkT H Tryz.prog) A113M1L1 (qL [0,1,5,6] [470000128,1000000000,1000000001,1000000002] (S_p aaZ0) (qX 0 [0,5] [470000128,1000000000,1000000001,1000000002] (SX_p aaZ0)) o) (S_p aaZ0 sZ3):=by
 unfold M_p at h
 simp only [ZC,S_p,A113M1L1]
 obtain ⟨cZ4,h⟩ | ⟨cZ4,h⟩:=cond_s h
 · obtain ⟨kZ5,hkZ5,h⟩:=bind_s h
   obtain ⟨hkZ5a,hkZ5b⟩:=grd_s hkZ5
   obtain ⟨yZ6,hyZ6,h⟩:=bind_s h
   obtain ⟨rZ7,hrZ7,h⟩:=bind_s h
   refine ZF (ZA okt_p (ZA okt_m (ZA cZ4 (ZA hkZ5a (ZA hkZ5b hyZ6))))) ?_
   refine ZW (ZA okt_p (ZA okt_m (ZA cZ4 (ZA hkZ5a (ZA hkZ5b hyZ6))))) (okMR_tok yZ6 (w_bh _ _ _ hrZ7)) (h2:=by first | exact nm_ok [470000064,1000000000,1000000001] rfl (by decide +kernel) | exact nm_ok2 [470000064,1000000000,1000000001] [472900064] rfl (by decide +kernel) ZQ | exact ZQ) (hk:=?_)
   refine ZG ?_
   obtain ⟨cZ8,h⟩ | ⟨cZ8,h⟩:=cond_s h
   · obtain ⟨kZ9,hkZ9,h⟩:=bind_s h
     obtain ⟨hkZ9a,hkZ9b⟩:=grd_s hkZ9
     obtain ⟨yZ10,hyZ10,h⟩:=bind_s h
     obtain ⟨lZ11,hlZ11,h⟩:=bnd_s h
     have eZ12:(sZ3.2.2.1.map tokE).set (Int.toNat sZ3.1) ((tokE yZ6))=lZ11.map tokE:=by rw [← hlZ11,List.map_set]
     cases h
     exact ZL (ZA okt_p (ZA okt_m (ZA cZ4 (ZA hkZ5a (ZA hkZ5b (ZA hyZ6 (ZA cZ8 (ZA hkZ9a (ZA hkZ9b (ZA hyZ10 eZ12)))))))))) (ZA @S_p.eq_1 (ZA @SX_p.eq_1 hlZ11.symm))
   · cases h
     exact ZL (ZA okt_p (ZA okt_m (ZA cZ4 (ZA hkZ5a (ZA hkZ5b (ZA hyZ6 cZ8)))))) (ZA @S_p.eq_1 @SX_p.eq_1)
 · cases h
   exact ZL (ZA okt_p (ZA okt_m cZ4)) (ZA @S_p.eq_1 @SX_p.eq_1)
theorem w_bm {H:World→Prop} (aaZ0:List (Tok H e_TLight 5)) (abZ0:List Int) (acZ0:List Int) {r:Nat×Nat×List (Tok H e_TLight 5)×List Int×List Int} (h:M_bm Tok.x tz_TLight aaZ0 abZ0 acZ0=some r):OkMR H Tryz.prog 113 [.sl 1000000000 0 aaZ0.length,.fn 114 [.pt 1000000001 0 0,.pt 1000000002 0 0]] [(1000000000,.arr 5 (aaZ0.map tokE)),(1000000001,.var (.lst .o 1 (abZ0.map AV.i))),(1000000002,.var (.sl 1000000003 0 acZ0.length)),(1000000003,.arr 1 (acZ0.map AV.i))] ((fun (r:Nat×Nat×List (Tok H e_TLight 5)×List Int×List Int)=>.sl 4 r.1 r.2.1) r) ((fun (r:Nat×Nat×List (Tok H e_TLight 5)×List Int×List Int)=>[(4,.arr 5 (r.2.2.1.map tokE)),(470000128,.arr 1 (r.2.2.2.2.map AV.i)),(1000000001,.var (.lst .o 1 (r.2.2.2.1.map AV.i))),(1000000002,.var (.sl 470000128 0 r.2.2.2.2.length))]) r):=by
 refine okMR_of_body (lr:=[4,470000128,1000000001,1000000002]) hmix m113M1 rfl rfl ?_
 unfold M_bm at h
 simp only [ZC,A113M1,V113M1]
 obtain ⟨rZ1,hrZ1,h⟩:=bind_s h
 refine ZF (ZA okt_p okt_m) ?_
 refine ZW (ZA okt_p okt_m) (w_cd _ _ _ hrZ1) (h2:=by first | exact nm_ok [470000128,1000000000,1000000001,1000000002] rfl (by decide +kernel) | exact nm_ok2 [470000128,1000000000,1000000001,1000000002] [471100128] rfl (by decide +kernel) ZQ | exact ZQ) (hk:=?_)
 refine ZG ?_
 obtain ⟨cZ2,h⟩ | ⟨cZ2,h⟩:=cond_s h
 · cases h
   exact ZL (ZA okt_p (ZA okt_m cZ2)) @V113M1.eq_1
 · obtain ⟨oZ13,hoZ13,h⟩:=bind_s h
   try refine ZF (ZA okt_p (ZA okt_m cZ2)) ?_
   refine join_rule0 (blk_rule0 (loop_rule (w_p aaZ0) hoZ13 ?_)) ?_
   · exact ZK (ZA @S_p.eq_1 @SX_p.eq_1)
   · simp only [ZC,SX_p,A113M1R2]
     obtain ⟨uZ14,huZ14,h⟩:=bind_s h
     obtain ⟨huZ14a,huZ14b,huZ14c,huZ14d⟩:=grd_s huZ14
     obtain ⟨lZ15,hlZ15,h⟩:=bnd_s h
     have eZ16:over (oZ13.2.1.map tokE) (Int.toNat oZ13.1) (List.replicate (aaZ0.length - (Int.toNat oZ13.1)) (.agg [.i 0,.i 0,.sc (.slice none 0 0),.i 0,.i 0]:AV))=lZ15.map tokE:=by rw [← hlZ15,← over_map] <;> simp [List.map_take,tz_TLight_E]
     try simp only [Int.toNat_natCast] at eZ16
     have eZ17:lZ15.length=oZ13.2.1.length:=by rw [← hlZ15]; exact over_length _ _ _
     obtain ⟨uZ18,huZ18,h⟩:=bind_s h
     obtain ⟨huZ18a,huZ18b,huZ18c,huZ18d⟩:=grd_s huZ18
     cases h
     exact ZL (ZA okt_p (ZA okt_m (ZA cZ2 (ZA huZ14a (ZA huZ14b (ZA huZ14c (ZA huZ14d (ZA eZ16 (ZA huZ18a (ZA huZ18b (ZA huZ18c huZ18d))))))))))) (ZA @V113M1.eq_1 eZ17)
theorem w_ge (aaZ0:List TLight) (abZ0:List Int) (acZ0:List Int) {r:Nat×Nat×List TLight×List Int×List Int} (h:M_bm id (⟨0,(⟨0,[]⟩:TRoute),(⟨0,0⟩:TBlock)⟩:TLight) aaZ0 abZ0 acZ0=some r):OkM Tryz.prog 113 [.sl 1000000000 0 aaZ0.length,.fn 114 [.pt 1000000001 0 0,.pt 1000000002 0 0]] [(1000000000,.arr 5 (aaZ0.map (e_TLight .u))),(1000000001,.var (.lst .o 1 (abZ0.map AV.i))),(1000000002,.var (.sl 1000000003 0 acZ0.length)),(1000000003,.arr 1 (acZ0.map AV.i))] ((fun (r:Nat×Nat×List TLight×List Int×List Int)=>.sl 4 r.1 r.2.1) r) ((fun (r:Nat×Nat×List TLight×List Int×List Int)=>[(4,.arr 5 (r.2.2.1.map (e_TLight .u))),(470000128,.arr 1 (r.2.2.2.2.map AV.i)),(1000000001,.var (.lst .o 1 (r.2.2.2.1.map AV.i))),(1000000002,.var (.sl 470000128 0 r.2.2.2.2.length))]) r):=by
 refine okM_lift (E:=e_TLight) (k:=5) (R:=1000000000) (R':=4) (xs:=aaZ0) (ys:=r.2.2.1) (ins:=[(1000000000,.arr 5 (aaZ0.map (e_TLight .u))),(1000000001,.var (.lst .o 1 (abZ0.map AV.i))),(1000000002,.var (.sl 1000000003 0 acZ0.length)),(1000000003,.arr 1 (acZ0.map AV.i))]) (outsR:=(fun (r:Nat×Nat×List TLight×List Int×List Int)=>[(4,.arr 5 (r.2.2.1.map (e_TLight .u))),(470000128,.arr 1 (r.2.2.2.2.map AV.i)),(1000000001,.var (.lst .o 1 (r.2.2.2.1.map AV.i))),(1000000002,.var (.sl 470000128 0 r.2.2.2.2.length))]) r) (fun x=>⟨_,rfl,rfl⟩) (by decide) (fun w S B v x fp h B'=>sh_TLight x ▸ h.shs B') rfl (fun _ _=>rfl) rfl (fun _ _=>rfl) (flat_of (by simp [Row.flatU,AV.noU])) fun H XZ0 hX=>?_
 subst hX
 obtain ⟨YZ0,h1,h2,h3⟩:=p_slices_DeleteFunc_LightM1 XZ0 abZ0 acZ0 h
 have hw:=w_bm XZ0 abZ0 acZ0 h1
 try simp only [List.length_map]
 exact ⟨YZ0,_,_,h2,h3,rfl,fun q hq=>by simp only [look,if_neg (Ne.symm hq)],rfl,fun q hq=>by simp only [look,if_neg (Ne.symm hq)],hw⟩
theorem w_ce (rZ0:TRestoration) (fibersZ0:List Int) {r:TRestoration×List Int×Bool} (h:M_ce rZ0 fibersZ0=some r):Ok Tryz.prog 48 [.agg [.lst .o 1 (rZ0.Plan.Network.Nodes.map AV.z),.lst .o 4 (rZ0.Plan.Network.Fibers.map (e_TFiber .o)),.lst .o 5 (rZ0.Plan.Lights.map (e_TLight .o)),.lst .o 5 (rZ0.Home.map (e_TLight .o)),.lst .o 1 (rZ0.Down.map AV.i)],.lst .o 1 (fibersZ0.map AV.i)] ((fun r=>.tup [.agg [.lst .u 1 (r.1.Plan.Network.Nodes.map AV.z),.lst .u 4 (r.1.Plan.Network.Fibers.map (e_TFiber .u)),.lst .u 5 (r.1.Plan.Lights.map (e_TLight .u)),.lst .u 5 (r.1.Home.map (e_TLight .u)),.lst .u 1 (r.1.Down.map AV.i)],.lst .u 1 (r.2.1.map AV.i),.b r.2.2]) r):=by
 refine ok_of_body hmix m48 rfl ?_
 unfold M_ce at h
 simp only [ZC,A48,V48,body_eq]
 obtain ⟨rZ1,hrZ1,h⟩:=bind_s h
 refine ZF trivial ?_
 refine ZS trivial (w_fd _ _ hrZ1) ?_
 refine ZG ?_
 obtain ⟨cZ2,h⟩ | ⟨cZ2,h⟩:=cond_s h
 · cases h
   exact ZL cZ2 @V48.eq_1
 · obtain ⟨rZ3,hrZ3,h⟩:=bind_s h
   refine ZF cZ2 ?_
   refine ZU cZ2 (w_fe _ hrZ3) ?_
   refine ZG ?_
   obtain ⟨lZ4,hlZ4,h⟩:=bnd_s h
   have eZ5:Row.arr 1 [(.lst .o 1 (rZ0.Down.map AV.i):AV),(.lst .o 1 (fibersZ0.map AV.i):AV)]=Row.arr 1 (lZ4.map (e_Li .o)):=by rw [← hlZ4]; rfl
   have jjZ6:lZ4.length=2:=by rw [← hlZ4]; rfl
   have nZ7:sub (lZ4.map (e_Li .o)) 0 2=lZ4.map (e_Li .o):=sub_n _ (by simp [← hlZ4])
   obtain ⟨rZ8,hrZ8,h⟩:=bind_s h
   refine ZF (ZA cZ2 (ZA eZ5 (ZA jjZ6 nZ7))) ?_
   refine ZU (ZA cZ2 (ZA eZ5 (ZA jjZ6 nZ7))) (w_dm _ hrZ8) ?_
   refine ZG ?_
   obtain ⟨lZ9,hlZ9,h⟩:=bind_s h
   have eZ10:lZ9.length=rZ8.length:=sortI_len hlZ9
   refine ZF (ZA cZ2 (ZA eZ5 (ZA jjZ6 nZ7))) ?_
   refine call_m (by simp only [VS1,VS2,VS3,VS4,VS5,VS6,VT1,VT2,finM_ret,finM_nrm,decide_true,decide_false,List.nodup_nil,List.nodup_cons,oks_p,oks_m,oks_h,ne_eq,not_false_eq_true,Int.reduceEq,Int.reduceNe,true_and,false_and,Nat.reduceSub,Nat.reduceMul,↓reduceIte,reduceCtorEq,Nat.reduceEqDiff,Nat.reduceAdd,Nat.reduceLeDiff,Int.reduceLE,cZ2,eZ5,jjZ6,nZ7]; exact (okM_sortI sortI111 (xs:=rZ8) (by simp [← hlZ4]) hlZ9)) (by simp [VS1,VS2,VS3,VS4,VS5,VS6,VT1,VT2]) (by first | exact nm_ok [1000000000] rfl (by decide +kernel) | simp [VS1,VS2,VS3,VS4,VS5,VS6,VT1,VT2]) ?_
   refine ZG ?_
   obtain ⟨rZ11,hrZ11,h⟩:=bind_s h
   refine ZF (ZA cZ2 (ZA eZ5 (ZA jjZ6 nZ7))) ?_
   refine ZW (ZA cZ2 (ZA eZ5 (ZA jjZ6 nZ7))) (w_ct _ _ _ hrZ11) (h2:=by first | exact nm_ok [1000000000] rfl (by decide +kernel) | exact nm_ok2 [1000000000] [] rfl (by decide +kernel) ZQ | exact ZQ) (hk:=?_)
   refine ZG ?_
   obtain ⟨rZ12,hrZ12,h⟩:=bind_s h
   refine ZF (ZA cZ2 (ZA eZ5 (ZA jjZ6 nZ7))) ?_
   refine ZW (ZA cZ2 (ZA eZ5 (ZA jjZ6 nZ7))) (w_ge _ _ _ hrZ12) (h2:=by first | exact nm_ok [4,470000128,1000000001,1000000002] rfl (by decide +kernel) | exact nm_ok2 [4,470000128,1000000001,1000000002] [3500004,473500128] rfl (by decide +kernel) ZQ | exact ZQ) (hk:=?_)
   refine ZG ?_
   obtain ⟨lZ13,hlZ13,h⟩:=bnd_s h
   have eZ14:sub (rZ12.2.2.1.map (e_TLight .u)) rZ12.1 rZ12.2.1=lZ13.map (e_TLight .u):=by rw [sub_mapT,hlZ13]
   obtain ⟨lZ15,hlZ15,h⟩:=bnd_s h
   have eZ16:sub (rZ11.2.2.map AV.i) rZ11.1 rZ11.2.1=lZ15.map AV.i:=by rw [sub_mapT,hlZ15]
   cases h
   exact ZL (ZA cZ2 (ZA eZ5 (ZA jjZ6 (ZA nZ7 (ZA eZ14 eZ16))))) (ZA @V48.eq_1 (ZA hlZ4.symm (ZA eZ10 jjZ6)))
def S_at (aZ0:List ByteArray) (bZ0:List ByteArray) (v:Int):St:=⟨[(0,.lst .o 1 (aZ0.map AV.z)),(1,.lst .o 1 (bZ0.map AV.z)),(5,.i v)],[]⟩
def SX_at (v:Unit):St:=⟨[],[]⟩
theorem w_at (aZ0:List ByteArray) (bZ0:List ByteArray) (sZ2:Int) (o:Int ⊕ (Unit ⊕ Bool)) (h:M_at aZ0 bZ0 sZ2=some o):AWP (OkS Tryz.prog) A99L1 (qL [0,1,5] [] (S_at aZ0 bZ0) (qS (qX 0 [] [] (SX_at)) (qR V99 (fun r=>.b r))) o) (S_at aZ0 bZ0 sZ2):=by
 unfold M_at at h
 simp only [ZC,S_at,A99L1]
 obtain ⟨cZ3,h⟩ | ⟨cZ3,h⟩:=cond_s h
 · obtain ⟨yZ4,hyZ4,h⟩:=bind_s h
   obtain ⟨hyZ4a,hyZ4b⟩:=geti_s hyZ4
   obtain ⟨yZ5,hyZ5,h⟩:=bind_s h
   obtain ⟨hyZ5a,hyZ5b⟩:=geti_s hyZ5
   obtain ⟨cZ6,h⟩ | ⟨cZ6,h⟩:=cond_s h
   · cases h
     exact ZL (ZA cZ3 (ZA hyZ4a (ZA hyZ4b (ZA hyZ5a (ZA hyZ5b cZ6))))) @V99.eq_1
   · cases h
     exact ZL (ZA cZ3 (ZA hyZ4a (ZA hyZ4b (ZA hyZ5a (ZA hyZ5b cZ6))))) (ZA @S_at.eq_1 @SX_at.eq_1)
 · cases h
   exact ZL cZ3 (ZA @S_at.eq_1 @SX_at.eq_1)
theorem w_ff (aZ0:List ByteArray) (bZ0:List ByteArray) {r:Bool} (h:M_ff aZ0 bZ0=some r):Ok Tryz.prog 99 [.lst .o 1 (aZ0.map AV.z),.lst .o 1 (bZ0.map AV.z)] ((fun r=>.b r) r):=by
 refine ok_of_body hmix m99 rfl ?_
 unfold M_ff at h
 simp only [ZC,A99,V99,body_eq]
 obtain ⟨cZ1,h⟩ | ⟨cZ1,h⟩:=cond_s h
 · cases h
   exact ZL cZ1 @V99.eq_1
 · obtain ⟨oZ7,hoZ7,h⟩:=bind_s h
   try refine ZF cZ1 ?_
   refine join_rule (o:=oZ7) (blk_rule sideR (loop_rule (w_at aZ0 bZ0) hoZ7 ?_)) (fun vZ8 hv=>?_) (fun xZ9 hv e τ hne hq=>?_)
   · exact ZK (ZA @S_at.eq_1 @SX_at.eq_1)
   · subst hv
     simp only [] at h
     simp only [ZC,SX_at,A99R2]
     cases h
     exact ZL cZ1 @V99.eq_1
   · subst hv
     simp only [] at h
     obtain ⟨rfl,qZ10⟩:=hq
     cases h
     exact qZ10
theorem w_df (aZ0:TFiber) (bZ0:TFiber) {r:Bool} (h:M_df aZ0 bZ0=some r):Ok Tryz.prog 158 [.agg [.i aZ0.A,.i aZ0.B,.i aZ0.Length,.i aZ0.Risk],.agg [.i bZ0.A,.i bZ0.B,.i bZ0.Length,.i bZ0.Risk]] ((fun r=>.b r) r):=by
 refine ok_of_body hmix m158 rfl ?_
 unfold M_df at h
 simp only [ZC,A158,V158,body_eq]
 obtain ⟨cZ1,h⟩ | ⟨cZ1,h⟩:=cond_s h
 · cases h
   exact ZL cZ1 @V158.eq_1
 · obtain ⟨cZ2,h⟩ | ⟨cZ2,h⟩:=cond_s h
   · cases h
     exact ZL (ZA cZ1 cZ2) @V158.eq_1
   · obtain ⟨cZ3,h⟩ | ⟨cZ3,h⟩:=cond_s h
     · cases h
       exact ZL (ZA cZ1 (ZA cZ2 cZ3)) @V158.eq_1
     · obtain ⟨cZ4,h⟩ | ⟨cZ4,h⟩:=cond_s h
       · cases h
         exact ZL (ZA cZ1 (ZA cZ2 (ZA cZ3 cZ4))) @V158.eq_1
       · cases h
         exact ZL (ZA cZ1 (ZA cZ2 (ZA cZ3 cZ4))) @V158.eq_1
def S_au (aZ0:List TFiber) (bZ0:List TFiber) (v:Int):St:=⟨[(0,.lst .o 4 (aZ0.map (e_TFiber .o))),(1,.lst .o 4 (bZ0.map (e_TFiber .o))),(5,.i v)],[]⟩
def SX_au (v:Unit):St:=⟨[],[]⟩
theorem w_au (aZ0:List TFiber) (bZ0:List TFiber) (sZ2:Int) (o:Int ⊕ (Unit ⊕ Bool)) (h:M_au aZ0 bZ0 sZ2=some o):AWP (OkS Tryz.prog) A100L1 (qL [0,1,5] [] (S_au aZ0 bZ0) (qS (qX 0 [] [] (SX_au)) (qR V100 (fun r=>.b r))) o) (S_au aZ0 bZ0 sZ2):=by
 unfold M_au at h
 simp only [ZC,S_au,A100L1]
 obtain ⟨cZ3,h⟩ | ⟨cZ3,h⟩:=cond_s h
 · obtain ⟨yZ4,hyZ4,h⟩:=bind_s h
   obtain ⟨hyZ4a,hyZ4b⟩:=geti_s hyZ4
   obtain ⟨yZ5,hyZ5,h⟩:=bind_s h
   obtain ⟨hyZ5a,hyZ5b⟩:=geti_s hyZ5
   obtain ⟨rZ6,hrZ6,h⟩:=bind_s h
   refine ZF (ZA cZ3 (ZA hyZ4a (ZA hyZ4b (ZA hyZ5a hyZ5b)))) ?_
   refine ZS (ZA cZ3 (ZA hyZ4a (ZA hyZ4b (ZA hyZ5a hyZ5b)))) (w_df _ _ hrZ6) ?_
   refine ZG ?_
   obtain ⟨cZ7,h⟩ | ⟨cZ7,h⟩:=cond_s h
   · cases h
     exact ZL (ZA cZ3 (ZA hyZ4a (ZA hyZ4b (ZA hyZ5a (ZA hyZ5b cZ7))))) @V100.eq_1
   · cases h
     exact ZL (ZA cZ3 (ZA hyZ4a (ZA hyZ4b (ZA hyZ5a (ZA hyZ5b cZ7))))) (ZA @S_au.eq_1 @SX_au.eq_1)
 · cases h
   exact ZL cZ3 (ZA @S_au.eq_1 @SX_au.eq_1)
theorem w_fg (aZ0:List TFiber) (bZ0:List TFiber) {r:Bool} (h:M_fg aZ0 bZ0=some r):Ok Tryz.prog 100 [.lst .o 4 (aZ0.map (e_TFiber .o)),.lst .o 4 (bZ0.map (e_TFiber .o))] ((fun r=>.b r) r):=by
 refine ok_of_body hmix m100 rfl ?_
 unfold M_fg at h
 simp only [ZC,A100,V100,body_eq]
 obtain ⟨cZ1,h⟩ | ⟨cZ1,h⟩:=cond_s h
 · cases h
   exact ZL cZ1 @V100.eq_1
 · obtain ⟨oZ8,hoZ8,h⟩:=bind_s h
   try refine ZF cZ1 ?_
   refine join_rule (o:=oZ8) (blk_rule sideR (loop_rule (w_au aZ0 bZ0) hoZ8 ?_)) (fun vZ9 hv=>?_) (fun xZ10 hv e τ hne hq=>?_)
   · exact ZK (ZA @S_au.eq_1 @SX_au.eq_1)
   · subst hv
     simp only [] at h
     simp only [ZC,SX_au,A100R2]
     cases h
     exact ZL cZ1 @V100.eq_1
   · subst hv
     simp only [] at h
     obtain ⟨rfl,qZ11⟩:=hq
     cases h
     exact qZ11
theorem w_fh (aZ0:TNetwork) (bZ0:TNetwork) {r:Bool} (h:M_fh aZ0 bZ0=some r):Ok Tryz.prog 40 [.agg [.lst .o 1 (aZ0.Nodes.map AV.z),.lst .o 4 (aZ0.Fibers.map (e_TFiber .o))],.agg [.lst .o 1 (bZ0.Nodes.map AV.z),.lst .o 4 (bZ0.Fibers.map (e_TFiber .o))]] ((fun r=>.b r) r):=by
 refine ok_of_body hmix m40 rfl ?_
 unfold M_fh at h
 simp only [ZC,A40,V40,body_eq]
 obtain ⟨rZ1,hrZ1,h⟩:=bind_s h
 refine ZF trivial ?_
 refine ZS trivial (w_ff _ _ hrZ1) ?_
 refine ZG ?_
 obtain ⟨cZ2,h⟩ | ⟨cZ2,h⟩:=cond_s h
 · cases h
   exact ZL cZ2 @V40.eq_1
 · obtain ⟨rZ3,hrZ3,h⟩:=bind_s h
   refine ZF cZ2 ?_
   refine ZS cZ2 (w_fg _ _ hrZ3) ?_
   refine ZG ?_
   obtain ⟨cZ4,h⟩ | ⟨cZ4,h⟩:=cond_s h
   · cases h
     exact ZL (ZA cZ2 cZ4) @V40.eq_1
   · cases h
     exact ZL (ZA cZ2 cZ4) @V40.eq_1
def S_av (aZ0:List Int) (bZ0:List Int) (v:Int):St:=⟨[(0,.lst .o 1 (aZ0.map AV.i)),(1,.lst .o 1 (bZ0.map AV.i)),(5,.i v)],[]⟩
def SX_av (v:Unit):St:=⟨[],[]⟩
theorem w_av (aZ0:List Int) (bZ0:List Int) (sZ2:Int) (o:Int ⊕ (Unit ⊕ Bool)) (h:M_av aZ0 bZ0 sZ2=some o):AWP (OkS Tryz.prog) A20L1 (qL [0,1,5] [] (S_av aZ0 bZ0) (qS (qX 0 [] [] (SX_av)) (qR V20 (fun r=>.b r))) o) (S_av aZ0 bZ0 sZ2):=by
 unfold M_av at h
 simp only [ZC,S_av,A20L1]
 obtain ⟨cZ3,h⟩ | ⟨cZ3,h⟩:=cond_s h
 · obtain ⟨yZ4,hyZ4,h⟩:=bind_s h
   obtain ⟨hyZ4a,hyZ4b⟩:=geti_s hyZ4
   obtain ⟨yZ5,hyZ5,h⟩:=bind_s h
   obtain ⟨hyZ5a,hyZ5b⟩:=geti_s hyZ5
   obtain ⟨cZ6,h⟩ | ⟨cZ6,h⟩:=cond_s h
   · cases h
     exact ZL (ZA cZ3 (ZA hyZ4a (ZA hyZ4b (ZA hyZ5a (ZA hyZ5b cZ6))))) @V20.eq_1
   · cases h
     exact ZL (ZA cZ3 (ZA hyZ4a (ZA hyZ4b (ZA hyZ5a (ZA hyZ5b cZ6))))) (ZA @S_av.eq_1 @SX_av.eq_1)
 · cases h
   exact ZL cZ3 (ZA @S_av.eq_1 @SX_av.eq_1)
theorem w_bk (aZ0:List Int) (bZ0:List Int) {r:Bool} (h:M_bk aZ0 bZ0=some r):Ok Tryz.prog 20 [.lst .o 1 (aZ0.map AV.i),.lst .o 1 (bZ0.map AV.i)] ((fun r=>.b r) r):=by
 refine ok_of_body hmix m20 rfl ?_
 unfold M_bk at h
 simp only [ZC,A20,V20,body_eq]
 obtain ⟨cZ1,h⟩ | ⟨cZ1,h⟩:=cond_s h
 · cases h
   exact ZL cZ1 @V20.eq_1
 · obtain ⟨oZ7,hoZ7,h⟩:=bind_s h
   try refine ZF cZ1 ?_
   refine join_rule (o:=oZ7) (blk_rule sideR (loop_rule (w_av aZ0 bZ0) hoZ7 ?_)) (fun vZ8 hv=>?_) (fun xZ9 hv e τ hne hq=>?_)
   · exact ZK (ZA @S_av.eq_1 @SX_av.eq_1)
   · subst hv
     simp only [] at h
     simp only [ZC,SX_av,A20R2]
     cases h
     exact ZL cZ1 @V20.eq_1
   · subst hv
     simp only [] at h
     obtain ⟨rfl,qZ10⟩:=hq
     cases h
     exact qZ10
theorem w_fi (aZ0:TRoute) (bZ0:TRoute) {r:Bool} (h:M_fi aZ0 bZ0=some r):Ok Tryz.prog 159 [.agg [.i aZ0.Start,.lst .o 1 (aZ0.Fibers.map AV.i)],.agg [.i bZ0.Start,.lst .o 1 (bZ0.Fibers.map AV.i)]] ((fun r=>.b r) r):=by
 refine ok_of_body hmix m159 rfl ?_
 unfold M_fi at h
 simp only [ZC,A159,V159,body_eq]
 obtain ⟨cZ1,h⟩ | ⟨cZ1,h⟩:=cond_s h
 · cases h
   exact ZL cZ1 @V159.eq_1
 · obtain ⟨rZ2,hrZ2,h⟩:=bind_s h
   refine ZF cZ1 ?_
   refine ZS cZ1 (w_bk _ _ hrZ2) ?_
   refine ZG ?_
   obtain ⟨cZ3,h⟩ | ⟨cZ3,h⟩:=cond_s h
   · cases h
     exact ZL (ZA cZ1 cZ3) @V159.eq_1
   · cases h
     exact ZL (ZA cZ1 cZ3) @V159.eq_1
theorem w_fj (aZ0:TBlock) (bZ0:TBlock) {r:Bool} (h:M_fj aZ0 bZ0=some r):Ok Tryz.prog 160 [.agg [.i aZ0.First,.i aZ0.Count],.agg [.i bZ0.First,.i bZ0.Count]] ((fun r=>.b r) r):=by
 refine ok_of_body hmix m160 rfl ?_
 unfold M_fj at h
 simp only [ZC,A160,V160,body_eq]
 obtain ⟨cZ1,h⟩ | ⟨cZ1,h⟩:=cond_s h
 · cases h
   exact ZL cZ1 @V160.eq_1
 · obtain ⟨cZ2,h⟩ | ⟨cZ2,h⟩:=cond_s h
   · cases h
     exact ZL (ZA cZ1 cZ2) @V160.eq_1
   · cases h
     exact ZL (ZA cZ1 cZ2) @V160.eq_1
theorem w_dg (aZ0:TLight) (bZ0:TLight) {r:Bool} (h:M_dg aZ0 bZ0=some r):Ok Tryz.prog 136 [.agg [.i aZ0.Id,.i aZ0.Route.Start,.lst .o 1 (aZ0.Route.Fibers.map AV.i),.i aZ0.Block.First,.i aZ0.Block.Count],.agg [.i bZ0.Id,.i bZ0.Route.Start,.lst .o 1 (bZ0.Route.Fibers.map AV.i),.i bZ0.Block.First,.i bZ0.Block.Count]] ((fun r=>.b r) r):=by
 refine ok_of_body hmix m136 rfl ?_
 unfold M_dg at h
 simp only [ZC,A136,V136,body_eq]
 obtain ⟨cZ1,h⟩ | ⟨cZ1,h⟩:=cond_s h
 · cases h
   exact ZL cZ1 @V136.eq_1
 · obtain ⟨rZ2,hrZ2,h⟩:=bind_s h
   refine ZF cZ1 ?_
   refine ZS cZ1 (w_fi _ _ hrZ2) ?_
   refine ZG ?_
   obtain ⟨cZ3,h⟩ | ⟨cZ3,h⟩:=cond_s h
   · cases h
     exact ZL (ZA cZ1 cZ3) @V136.eq_1
   · obtain ⟨rZ4,hrZ4,h⟩:=bind_s h
     refine ZF (ZA cZ1 cZ3) ?_
     refine ZS (ZA cZ1 cZ3) (w_fj _ _ hrZ4) ?_
     refine ZG ?_
     obtain ⟨cZ5,h⟩ | ⟨cZ5,h⟩:=cond_s h
     · cases h
       exact ZL (ZA cZ1 (ZA cZ3 cZ5)) @V136.eq_1
     · cases h
       exact ZL (ZA cZ1 (ZA cZ3 cZ5)) @V136.eq_1
def S_aw (aZ0:List TLight) (bZ0:List TLight) (v:Int):St:=⟨[(0,.lst .o 5 (aZ0.map (e_TLight .o))),(1,.lst .o 5 (bZ0.map (e_TLight .o))),(5,.i v)],[]⟩
def SX_aw (v:Unit):St:=⟨[],[]⟩
theorem w_aw (aZ0:List TLight) (bZ0:List TLight) (sZ2:Int) (o:Int ⊕ (Unit ⊕ Bool)) (h:M_aw aZ0 bZ0 sZ2=some o):AWP (OkS Tryz.prog) A70L1 (qL [0,1,5] [] (S_aw aZ0 bZ0) (qS (qX 0 [] [] (SX_aw)) (qR V70 (fun r=>.b r))) o) (S_aw aZ0 bZ0 sZ2):=by
 unfold M_aw at h
 simp only [ZC,S_aw,A70L1]
 obtain ⟨cZ3,h⟩ | ⟨cZ3,h⟩:=cond_s h
 · obtain ⟨yZ4,hyZ4,h⟩:=bind_s h
   obtain ⟨hyZ4a,hyZ4b⟩:=geti_s hyZ4
   obtain ⟨yZ5,hyZ5,h⟩:=bind_s h
   obtain ⟨hyZ5a,hyZ5b⟩:=geti_s hyZ5
   obtain ⟨rZ6,hrZ6,h⟩:=bind_s h
   refine ZF (ZA cZ3 (ZA hyZ4a (ZA hyZ4b (ZA hyZ5a hyZ5b)))) ?_
   refine ZS (ZA cZ3 (ZA hyZ4a (ZA hyZ4b (ZA hyZ5a hyZ5b)))) (w_dg _ _ hrZ6) ?_
   refine ZG ?_
   obtain ⟨cZ7,h⟩ | ⟨cZ7,h⟩:=cond_s h
   · cases h
     exact ZL (ZA cZ3 (ZA hyZ4a (ZA hyZ4b (ZA hyZ5a (ZA hyZ5b cZ7))))) @V70.eq_1
   · cases h
     exact ZL (ZA cZ3 (ZA hyZ4a (ZA hyZ4b (ZA hyZ5a (ZA hyZ5b cZ7))))) (ZA @S_aw.eq_1 @SX_aw.eq_1)
 · cases h
   exact ZL cZ3 (ZA @S_aw.eq_1 @SX_aw.eq_1)
theorem w_cy (aZ0:List TLight) (bZ0:List TLight) {r:Bool} (h:M_cy aZ0 bZ0=some r):Ok Tryz.prog 70 [.lst .o 5 (aZ0.map (e_TLight .o)),.lst .o 5 (bZ0.map (e_TLight .o))] ((fun r=>.b r) r):=by
 refine ok_of_body hmix m70 rfl ?_
 unfold M_cy at h
 simp only [ZC,A70,V70,body_eq]
 obtain ⟨cZ1,h⟩ | ⟨cZ1,h⟩:=cond_s h
 · cases h
   exact ZL cZ1 @V70.eq_1
 · obtain ⟨oZ8,hoZ8,h⟩:=bind_s h
   try refine ZF cZ1 ?_
   refine join_rule (o:=oZ8) (blk_rule sideR (loop_rule (w_aw aZ0 bZ0) hoZ8 ?_)) (fun vZ9 hv=>?_) (fun xZ10 hv e τ hne hq=>?_)
   · exact ZK (ZA @S_aw.eq_1 @SX_aw.eq_1)
   · subst hv
     simp only [] at h
     simp only [ZC,SX_aw,A70R2]
     cases h
     exact ZL cZ1 @V70.eq_1
   · subst hv
     simp only [] at h
     obtain ⟨rfl,qZ11⟩:=hq
     cases h
     exact qZ11
theorem w_fk (aZ0:TPlan) (bZ0:TPlan) {r:Bool} (h:M_fk aZ0 bZ0=some r):Ok Tryz.prog 28 [.agg [.lst .o 1 (aZ0.Network.Nodes.map AV.z),.lst .o 4 (aZ0.Network.Fibers.map (e_TFiber .o)),.lst .o 5 (aZ0.Lights.map (e_TLight .o))],.agg [.lst .o 1 (bZ0.Network.Nodes.map AV.z),.lst .o 4 (bZ0.Network.Fibers.map (e_TFiber .o)),.lst .o 5 (bZ0.Lights.map (e_TLight .o))]] ((fun r=>.b r) r):=by
 refine ok_of_body hmix m28 rfl ?_
 unfold M_fk at h
 simp only [ZC,A28,V28,body_eq]
 obtain ⟨rZ1,hrZ1,h⟩:=bind_s h
 refine ZF trivial ?_
 refine ZS trivial (w_fh _ _ hrZ1) ?_
 refine ZG ?_
 obtain ⟨cZ2,h⟩ | ⟨cZ2,h⟩:=cond_s h
 · cases h
   exact ZL cZ2 @V28.eq_1
 · obtain ⟨rZ3,hrZ3,h⟩:=bind_s h
   refine ZF cZ2 ?_
   refine ZS cZ2 (w_cy _ _ hrZ3) ?_
   refine ZG ?_
   obtain ⟨cZ4,h⟩ | ⟨cZ4,h⟩:=cond_s h
   · cases h
     exact ZL (ZA cZ2 cZ4) @V28.eq_1
   · cases h
     exact ZL (ZA cZ2 cZ4) @V28.eq_1
theorem w_bp (aZ0:TRestoration) (bZ0:TRestoration) {r:Bool} (h:M_bp aZ0 bZ0=some r):Ok Tryz.prog 17 [.agg [.lst .o 1 (aZ0.Plan.Network.Nodes.map AV.z),.lst .o 4 (aZ0.Plan.Network.Fibers.map (e_TFiber .o)),.lst .o 5 (aZ0.Plan.Lights.map (e_TLight .o)),.lst .o 5 (aZ0.Home.map (e_TLight .o)),.lst .o 1 (aZ0.Down.map AV.i)],.agg [.lst .o 1 (bZ0.Plan.Network.Nodes.map AV.z),.lst .o 4 (bZ0.Plan.Network.Fibers.map (e_TFiber .o)),.lst .o 5 (bZ0.Plan.Lights.map (e_TLight .o)),.lst .o 5 (bZ0.Home.map (e_TLight .o)),.lst .o 1 (bZ0.Down.map AV.i)]] ((fun r=>.b r) r):=by
 refine ok_of_body hmix m17 rfl ?_
 unfold M_bp at h
 simp only [ZC,A17,V17,body_eq]
 obtain ⟨rZ1,hrZ1,h⟩:=bind_s h
 refine ZF trivial ?_
 refine ZS trivial (w_fk _ _ hrZ1) ?_
 refine ZG ?_
 obtain ⟨cZ2,h⟩ | ⟨cZ2,h⟩:=cond_s h
 · cases h
   exact ZL cZ2 @V17.eq_1
 · obtain ⟨rZ3,hrZ3,h⟩:=bind_s h
   refine ZF cZ2 ?_
   refine ZS cZ2 (w_cy _ _ hrZ3) ?_
   refine ZG ?_
   obtain ⟨cZ4,h⟩ | ⟨cZ4,h⟩:=cond_s h
   · cases h
     exact ZL (ZA cZ2 cZ4) @V17.eq_1
   · obtain ⟨rZ5,hrZ5,h⟩:=bind_s h
     refine ZF (ZA cZ2 cZ4) ?_
     refine ZS (ZA cZ2 cZ4) (w_bk _ _ hrZ5) ?_
     refine ZG ?_
     obtain ⟨cZ6,h⟩ | ⟨cZ6,h⟩:=cond_s h
     · cases h
       exact ZL (ZA cZ2 (ZA cZ4 cZ6)) @V17.eq_1
     · cases h
       exact ZL (ZA cZ2 (ZA cZ4 cZ6)) @V17.eq_1
def S_ax (v:Int×ByteArray):St:=⟨[(0,.i v.1),(3,.z v.2)],[]⟩
def SX_ax (v:ByteArray):St:=⟨[(3,.z v)],[]⟩
theorem w_ax (sZ2:Int×ByteArray) (o:(Int×ByteArray) ⊕ ByteArray) (h:M_ax sZ2=some o):AWP (OkS Tryz.prog) A161L1 (qL [0,3] [] (S_ax) (qX 0 [3] [] (SX_ax)) o) (S_ax sZ2):=by
 unfold M_ax at h
 simp only [ZC,S_ax,A161L1]
 obtain ⟨cZ3,h⟩ | ⟨cZ3,h⟩:=cond_s h
 · obtain ⟨uZ4,huZ4,h⟩:=bind_s h
   have huZ4g:=grd_s huZ4
   obtain ⟨lZ5,hlZ5,h⟩:=bnd_s h
   have eZ6:Row.arr 1 [(.sc (.int .u8 (IntKind.wrap .u8 (IntKind.wrap .i64 (48+(Int.tmod sZ2.1 10))))):AV)]=Row.arr 1 (lZ5.map AV.u8):=by rw [← hlZ5]; rfl
   have jjZ7:lZ5.length=1:=by rw [← hlZ5]; rfl
   have nZ8:sub (lZ5.map AV.u8) 0 1=lZ5.map AV.u8:=sub_n _ (by simp [← hlZ5])
   obtain ⟨uZ9,huZ9,h⟩:=bind_s h
   have huZ9g:=grd_s huZ9
   obtain ⟨uZ10,huZ10,h⟩:=bind_s h
   have huZ10g:=grd_s huZ10
   cases h
   exact ZL (ZA cZ3 (ZA huZ4g (ZA eZ6 (ZA jjZ7 (ZA nZ8 (ZA huZ9g huZ10g)))))) (ZA @S_ax.eq_1 (ZA @SX_ax.eq_1 (ZA hlZ5.symm jjZ7)))
 · cases h
   exact ZL cZ3 (ZA @S_ax.eq_1 @SX_ax.eq_1)
theorem w_bu (kZ0:Int) {r:ByteArray} (h:M_bu kZ0=some r):Ok Tryz.prog 161 [.i kZ0] ((fun r=>.z r) r):=by
 refine ok_of_body hmix m161 rfl ?_
 unfold M_bu at h
 simp only [ZC,A161,V161,body_eq]
 obtain ⟨cZ1,h⟩ | ⟨cZ1,h⟩:=cond_s h
 · cases h
   exact ZL cZ1 @V161.eq_1
 · obtain ⟨oZ11,hoZ11,h⟩:=bind_s h
   try refine ZF cZ1 ?_
   refine join_rule0 (blk_rule0 (loop_rule (w_ax) hoZ11 ?_)) ?_
   · exact ZK (ZA @S_ax.eq_1 @SX_ax.eq_1)
   · simp only [ZC,SX_ax,A161R2]
     obtain ⟨uZ12,huZ12,h⟩:=bind_s h
     have huZ12g:=grd_s huZ12
     cases h
     exact ZL (ZA cZ1 huZ12g) @V161.eq_1
def S_ay (v:Int×Int×List ByteArray):St:=⟨[(0,.sl 1000000000 0 v.2.2.length),(1,.i v.1),(5,.i v.2.1)],[(1000000000,.arr 1 (v.2.2.map AV.z))]⟩
def SX_ay (v:Int×List ByteArray):St:=⟨[(1,.i v.1)],[(1000000000,.arr 1 (v.2.map AV.z))]⟩
theorem w_ay (sZ1:Int×Int×List ByteArray) (o:(Int×Int×List ByteArray) ⊕ (Int×List ByteArray)) (h:M_ay sZ1=some o):AWP (OkS Tryz.prog) A102M1L1 (qL [0,1,5] [1000000000] (S_ay) (qX 0 [1] [1000000000] (SX_ay)) o) (S_ay sZ1):=by
 unfold M_ay at h
 simp only [ZC,S_ay,A102M1L1]
 obtain ⟨cZ2,h⟩ | ⟨cZ2,h⟩:=cond_s h
 · obtain ⟨rZ3,hrZ3,h⟩:=bind_s h
   refine ZF cZ2 ?_
   refine ZS cZ2 (w_bu _ hrZ3) ?_
   refine ZG ?_
   obtain ⟨kZ4,hkZ4,h⟩:=bind_s h
   obtain ⟨hkZ4a,hkZ4b⟩:=grd_s hkZ4
   obtain ⟨yZ5,hyZ5,h⟩:=bind_s h
   obtain ⟨lZ6,hlZ6,h⟩:=bnd_s h
   have eZ7:(sZ1.2.2.map AV.z).set (Int.toNat sZ1.2.1) (.z rZ3)=lZ6.map AV.z:=by rw [← hlZ6,List.map_set]
   cases h
   exact ZL (ZA cZ2 (ZA hkZ4a (ZA hkZ4b (ZA hyZ5 eZ7)))) (ZA @S_ay.eq_1 (ZA @SX_ay.eq_1 hlZ6.symm))
 · cases h
   exact ZL cZ2 (ZA @S_ay.eq_1 @SX_ay.eq_1)
theorem w_fl (aaZ0:Int) (abZ0:List ByteArray) {r:Int×List ByteArray} (h:M_fl aaZ0 abZ0=some r):OkM Tryz.prog 102 [.sl 1000000000 0 abZ0.length,.i aaZ0] [(1000000000,.arr 1 (abZ0.map AV.z))] ((fun (r:Int×List ByteArray)=>.i r.1) r) ((fun (r:Int×List ByteArray)=>[(1000000000,.arr 1 (r.2.map AV.z))]) r):=by
 refine okM_of_body (lr:=[1000000000]) hmix m102M1 rfl rfl ?_
 unfold M_fl at h
 simp only [ZC,A102M1,V102M1]
 obtain ⟨oZ8,hoZ8,h⟩:=bind_s h
 try refine ZF trivial ?_
 refine join_rule0 (blk_rule0 (loop_rule (w_ay) hoZ8 ?_)) ?_
 · exact ZK (ZA @S_ay.eq_1 @SX_ay.eq_1)
 · simp only [ZC,SX_ay,A102M1R2]
   cases h
   exact ZL trivial @V102M1.eq_1
def S_az (v:Int×Int×List TFiber):St:=⟨[(0,.sl 1000000000 0 v.2.2.length),(1,.i v.1),(5,.i v.2.1)],[(1000000000,.arr 4 (v.2.2.map (e_TFiber .u)))]⟩
def SX_az (v:Int×List TFiber):St:=⟨[(1,.i v.1)],[(1000000000,.arr 4 (v.2.map (e_TFiber .u)))]⟩
theorem w_az (sZ1:Int×Int×List TFiber) (o:(Int×Int×List TFiber) ⊕ (Int×List TFiber)) (h:M_az sZ1=some o):AWP (OkS Tryz.prog) A103M1L1 (qL [0,1,5] [1000000000] (S_az) (qX 0 [1] [1000000000] (SX_az)) o) (S_az sZ1):=by
 unfold M_az at h
 simp only [ZC,S_az,A103M1L1]
 obtain ⟨cZ2,h⟩ | ⟨cZ2,h⟩:=cond_s h
 · obtain ⟨kZ3,hkZ3,h⟩:=bind_s h
   obtain ⟨hkZ3a,hkZ3b⟩:=grd_s hkZ3
   obtain ⟨yZ4,hyZ4,h⟩:=bind_s h
   obtain ⟨lZ5,hlZ5,h⟩:=bnd_s h
   have eZ6:(sZ1.2.2.map (e_TFiber .u)).set (Int.toNat sZ1.2.1) (.agg [.i sZ1.1,.i yZ4.B,.i yZ4.Length,.i yZ4.Risk])=lZ5.map (e_TFiber .u):=by rw [← hlZ5,List.map_set]; rfl
   obtain ⟨yZ7,hyZ7,h⟩:=bind_s h
   obtain ⟨lZ8,hlZ8,h⟩:=bnd_s h
   have eZ9:(lZ5.map (e_TFiber .u)).set (Int.toNat sZ1.2.1) (.agg [.i yZ7.A,.i (IntKind.wrap .i64 (sZ1.1+1)),.i yZ7.Length,.i yZ7.Risk])=lZ8.map (e_TFiber .u):=by rw [← hlZ8,List.map_set]; rfl
   obtain ⟨yZ10,hyZ10,h⟩:=bind_s h
   obtain ⟨lZ11,hlZ11,h⟩:=bnd_s h
   have eZ12:(lZ8.map (e_TFiber .u)).set (Int.toNat sZ1.2.1) (.agg [.i yZ10.A,.i yZ10.B,.i (IntKind.wrap .i64 ((IntKind.wrap .i64 (sZ1.1+1))+1)),.i yZ10.Risk])=lZ11.map (e_TFiber .u):=by rw [← hlZ11,List.map_set]; rfl
   obtain ⟨yZ13,hyZ13,h⟩:=bind_s h
   obtain ⟨lZ14,hlZ14,h⟩:=bnd_s h
   have eZ15:(lZ11.map (e_TFiber .u)).set (Int.toNat sZ1.2.1) (.agg [.i yZ13.A,.i yZ13.B,.i yZ13.Length,.i (IntKind.wrap .i64 ((IntKind.wrap .i64 ((IntKind.wrap .i64 (sZ1.1+1))+1))+1))])=lZ14.map (e_TFiber .u):=by rw [← hlZ14,List.map_set]; rfl
   cases h
   exact ZL (ZA cZ2 (ZA hkZ3a (ZA hkZ3b (ZA hyZ4 (ZA eZ6 (ZA hyZ7 (ZA eZ9 (ZA hyZ10 (ZA eZ12 (ZA hyZ13 eZ15)))))))))) (ZA @S_az.eq_1 (ZA @SX_az.eq_1 (ZA hlZ5.symm (ZA hlZ8.symm (ZA hlZ11.symm hlZ14.symm)))))
 · cases h
   exact ZL cZ2 (ZA @S_az.eq_1 @SX_az.eq_1)
theorem w_fm (aaZ0:Int) (abZ0:List TFiber) {r:Int×List TFiber} (h:M_fm aaZ0 abZ0=some r):OkM Tryz.prog 103 [.sl 1000000000 0 abZ0.length,.i aaZ0] [(1000000000,.arr 4 (abZ0.map (e_TFiber .u)))] ((fun (r:Int×List TFiber)=>.i r.1) r) ((fun (r:Int×List TFiber)=>[(1000000000,.arr 4 (r.2.map (e_TFiber .u)))]) r):=by
 refine okM_of_body (lr:=[1000000000]) hmix m103M1 rfl rfl ?_
 unfold M_fm at h
 simp only [ZC,A103M1,V103M1]
 obtain ⟨oZ16,hoZ16,h⟩:=bind_s h
 try refine ZF trivial ?_
 refine join_rule0 (blk_rule0 (loop_rule (w_az) hoZ16 ?_)) ?_
 · exact ZK (ZA @S_az.eq_1 @SX_az.eq_1)
 · simp only [ZC,SX_az,A103M1R2]
   cases h
   exact ZL trivial @V103M1.eq_1
theorem w_fn (aaZ0:Int) (abZ0:List ByteArray) (acZ0:List TFiber) {r:Int×List ByteArray×List TFiber} (h:M_fn aaZ0 abZ0 acZ0=some r):OkM Tryz.prog 42 [.agg [.sl 1000000000 0 abZ0.length,.sl 1000000001 0 acZ0.length],.i aaZ0] [(1000000000,.arr 1 (abZ0.map AV.z)),(1000000001,.arr 4 (acZ0.map (e_TFiber .u)))] ((fun (r:Int×List ByteArray×List TFiber)=>.i r.1) r) ((fun (r:Int×List ByteArray×List TFiber)=>[(1000000000,.arr 1 (r.2.1.map AV.z)),(1000000001,.arr 4 (r.2.2.map (e_TFiber .u)))]) r):=by
 refine okM_of_body (lr:=[1000000000,1000000001]) hmix m42M1 rfl rfl ?_
 unfold M_fn at h
 simp only [ZC,A42M1,V42M1]
 obtain ⟨rZ1,hrZ1,h⟩:=bind_s h
 refine ZF trivial ?_
 refine ZW trivial (w_fl _ _ hrZ1) (h2:=by first | exact nm_ok [1000000000] rfl (by decide +kernel) | exact nm_ok2 [1000000000] [] rfl (by decide +kernel) ZQ | exact ZQ) (hk:=?_)
 refine ZG ?_
 obtain ⟨rZ2,hrZ2,h⟩:=bind_s h
 refine ZF trivial ?_
 refine ZW trivial (w_fm _ _ hrZ2) (h2:=by first | exact nm_ok [1000000000] rfl (by decide +kernel) | exact nm_ok2 [1000000000] [] rfl (by decide +kernel) ZQ | exact ZQ) (hk:=?_)
 refine ZG ?_
 cases h
 exact ZL trivial @V42M1.eq_1
def S_ba (v:Int×Int×List Int):St:=⟨[(0,.sl 1000000000 0 v.2.2.length),(1,.i v.1),(5,.i v.2.1)],[(1000000000,.arr 1 (v.2.2.map AV.i))]⟩
def SX_ba (v:Int×List Int):St:=⟨[(1,.i v.1)],[(1000000000,.arr 1 (v.2.map AV.i))]⟩
theorem w_ba (sZ1:Int×Int×List Int) (o:(Int×Int×List Int) ⊕ (Int×List Int)) (h:M_ba sZ1=some o):AWP (OkS Tryz.prog) A22M1L1 (qL [0,1,5] [1000000000] (S_ba) (qX 0 [1] [1000000000] (SX_ba)) o) (S_ba sZ1):=by
 unfold M_ba at h
 simp only [ZC,S_ba,A22M1L1]
 obtain ⟨cZ2,h⟩ | ⟨cZ2,h⟩:=cond_s h
 · obtain ⟨kZ3,hkZ3,h⟩:=bind_s h
   obtain ⟨hkZ3a,hkZ3b⟩:=grd_s hkZ3
   obtain ⟨yZ4,hyZ4,h⟩:=bind_s h
   obtain ⟨lZ5,hlZ5,h⟩:=bnd_s h
   have eZ6:(sZ1.2.2.map AV.i).set (Int.toNat sZ1.2.1) (.i sZ1.1)=lZ5.map AV.i:=by rw [← hlZ5,List.map_set]
   cases h
   exact ZL (ZA cZ2 (ZA hkZ3a (ZA hkZ3b (ZA hyZ4 eZ6)))) (ZA @S_ba.eq_1 (ZA @SX_ba.eq_1 hlZ5.symm))
 · cases h
   exact ZL cZ2 (ZA @S_ba.eq_1 @SX_ba.eq_1)
theorem w_bq (aaZ0:Int) (abZ0:List Int) {r:Int×List Int} (h:M_bq aaZ0 abZ0=some r):OkM Tryz.prog 22 [.sl 1000000000 0 abZ0.length,.i aaZ0] [(1000000000,.arr 1 (abZ0.map AV.i))] ((fun (r:Int×List Int)=>.i r.1) r) ((fun (r:Int×List Int)=>[(1000000000,.arr 1 (r.2.map AV.i))]) r):=by
 refine okM_of_body (lr:=[1000000000]) hmix m22M1 rfl rfl ?_
 unfold M_bq at h
 simp only [ZC,A22M1,V22M1]
 obtain ⟨oZ7,hoZ7,h⟩:=bind_s h
 try refine ZF trivial ?_
 refine join_rule0 (blk_rule0 (loop_rule (w_ba) hoZ7 ?_)) ?_
 · exact ZK (ZA @S_ba.eq_1 @SX_ba.eq_1)
 · simp only [ZC,SX_ba,A22M1R2]
   cases h
   exact ZL trivial @V22M1.eq_1
def S_bb (v:Int×Int×List TLight):St:=⟨[(0,.sl 1000000000 0 v.2.2.length),(1,.i v.1),(5,.i v.2.1)],[(1000000000,.arr 5 (v.2.2.map (e_TLight .u)))]⟩
def SX_bb (v:Int×List TLight):St:=⟨[(1,.i v.1)],[(1000000000,.arr 5 (v.2.map (e_TLight .u)))]⟩
theorem w_bb (sZ1:Int×Int×List TLight) (o:(Int×Int×List TLight) ⊕ (Int×List TLight)) (h:M_bb sZ1=some o):AWP (OkS Tryz.prog) A73M1L1 (qL [0,1,5] [1000000000] (S_bb) (qX 0 [1] [1000000000] (SX_bb)) o) (S_bb sZ1):=by
 unfold M_bb at h
 simp only [ZC,S_bb,A73M1L1]
 obtain ⟨cZ2,h⟩ | ⟨cZ2,h⟩:=cond_s h
 · obtain ⟨kZ3,hkZ3,h⟩:=bind_s h
   obtain ⟨hkZ3a,hkZ3b⟩:=grd_s hkZ3
   obtain ⟨yZ4,hyZ4,h⟩:=bind_s h
   obtain ⟨lZ5,hlZ5,h⟩:=bnd_s h
   have eZ6:(sZ1.2.2.map (e_TLight .u)).set (Int.toNat sZ1.2.1) (.agg [.i sZ1.1,.i yZ4.Route.Start,.lst .u 1 (yZ4.Route.Fibers.map AV.i),.i yZ4.Block.First,.i yZ4.Block.Count])=lZ5.map (e_TLight .u):=by rw [← hlZ5,List.map_set]; rfl
   obtain ⟨yZ7,hyZ7,h⟩:=bind_s h
   obtain ⟨lZ8,hlZ8,h⟩:=bnd_s h
   have eZ9:(lZ5.map (e_TLight .u)).set (Int.toNat sZ1.2.1) (.agg [.i yZ7.Id,.i (IntKind.wrap .i64 (sZ1.1+1)),.lst .u 1 (yZ7.Route.Fibers.map AV.i),.i yZ7.Block.First,.i yZ7.Block.Count])=lZ8.map (e_TLight .u):=by rw [← hlZ8,List.map_set]; rfl
   obtain ⟨yZ10,hyZ10,h⟩:=bind_s h
   obtain ⟨rZ11,hrZ11,h⟩:=bind_s h
   obtain ⟨lZ12,hlZ12,h⟩:=bnd_s h
   have eZ13:(lZ8.map (e_TLight .u)).set (Int.toNat sZ1.2.1) (.agg [.i yZ10.Id,.i yZ10.Route.Start,.lst .u 1 (rZ11.2.map AV.i),.i yZ10.Block.First,.i yZ10.Block.Count])=lZ12.map (e_TLight .u):=by rw [← hlZ12,List.map_set]; rfl
   refine ZF (ZA cZ2 (ZA hkZ3a (ZA hkZ3b (ZA hyZ4 (ZA eZ6 (ZA hyZ7 (ZA eZ9 hyZ10))))))) ?_
   refine inn_s (v:=.int .i64 rZ11.1) (ys':=rZ11.2.map AV.i) (z:=.agg [.i yZ10.Id,.i yZ10.Route.Start,.lst .u 1 (rZ11.2.map AV.i),.i yZ10.Block.First,.i yZ10.Block.Count]) (by simp only [VS1,VS2,VS3,VS4,VS5,VS6,VT1,VT2,finM_ret,finM_nrm,decide_true,decide_false,List.nodup_nil,List.nodup_cons,oks_p,oks_m,oks_h,ne_eq,not_false_eq_true,Int.reduceEq,Int.reduceNe,true_and,false_and,Nat.reduceSub,Nat.reduceMul,↓reduceIte,reduceCtorEq,Nat.reduceEqDiff,Nat.reduceAdd,Nat.reduceLeDiff,Int.reduceLE,cZ2,hkZ3a,hkZ3b,hyZ4,eZ6,hyZ7,eZ9,hyZ10]; exact w_bq _ _ hrZ11) (by simp [AV.flat,VT1,VT2]) (by simp [fz_mk,fz_bpo,fz_sc,fz_lsto,fz_agg,fz_tup,fz_fn,fz_sl,fz_pt,fz_top,fzL_nil,fzL_cons,ou_sc,ou_lstu,ou_lsto,ou_agg,ouL_nil,ouL_cons,rfz_var,rfz_arr,rfz_dead,fzL_mi,fzL_mb,fzL_mz,fzL_m8,fzL_m64,ouL_m8,ouL_m64,ouL_mi,ouL_mb,ouL_mz,VZ1]) (by simp [VS1,VS2,VS3,VS4,VS5,VS6,VT1,VT2]) (by simp [AV.flat,VT1,VT2]) rfl ?_
   refine ZG ?_
   obtain ⟨yZ14,hyZ14,h⟩:=bind_s h
   obtain ⟨lZ15,hlZ15,h⟩:=bnd_s h
   have eZ16:(lZ12.map (e_TLight .u)).set (Int.toNat sZ1.2.1) (.agg [.i yZ14.Id,.i yZ14.Route.Start,.lst .u 1 (yZ14.Route.Fibers.map AV.i),.i rZ11.1,.i yZ14.Block.Count])=lZ15.map (e_TLight .u):=by rw [← hlZ15,List.map_set]; rfl
   obtain ⟨yZ17,hyZ17,h⟩:=bind_s h
   obtain ⟨lZ18,hlZ18,h⟩:=bnd_s h
   have eZ19:(lZ15.map (e_TLight .u)).set (Int.toNat sZ1.2.1) (.agg [.i yZ17.Id,.i yZ17.Route.Start,.lst .u 1 (yZ17.Route.Fibers.map AV.i),.i yZ17.Block.First,.i (IntKind.wrap .i64 (rZ11.1+1))])=lZ18.map (e_TLight .u):=by rw [← hlZ18,List.map_set]; rfl
   cases h
   exact ZL (ZA cZ2 (ZA hkZ3a (ZA hkZ3b (ZA hyZ4 (ZA eZ6 (ZA hyZ7 (ZA eZ9 (ZA hyZ10 (ZA eZ13 (ZA hyZ14 (ZA eZ16 (ZA hyZ17 eZ19)))))))))))) (ZA @S_bb.eq_1 (ZA @SX_bb.eq_1 (ZA hlZ5.symm (ZA hlZ8.symm (ZA hlZ12.symm (ZA hlZ15.symm hlZ18.symm))))))
 · cases h
   exact ZL cZ2 (ZA @S_bb.eq_1 @SX_bb.eq_1)
theorem w_bv (aaZ0:Int) (abZ0:List TLight) {r:Int×List TLight} (h:M_bv aaZ0 abZ0=some r):OkH Tryz.prog 73 [.sl 1000000000 0 abZ0.length,.i aaZ0] [(1000000000,.arr 5 (abZ0.map (e_TLight .u)))] ((fun (r:Int×List TLight)=>.i r.1) r) ((fun (r:Int×List TLight)=>[(1000000000,.arr 5 (r.2.map (e_TLight .u)))]) r):=by
 refine okH_of_body (lr:=[1000000000]) hmix m73M1 rfl ?_
 unfold M_bv at h
 simp only [ZC,A73M1,V73M1]
 obtain ⟨oZ20,hoZ20,h⟩:=bind_s h
 try refine ZF trivial ?_
 refine join_rule0 (blk_rule0 (loop_rule (w_bb) hoZ20 ?_)) ?_
 · exact ZK (ZA @S_bb.eq_1 @SX_bb.eq_1)
 · simp only [ZC,SX_bb,A73M1R2]
   cases h
   exact ZL trivial @V73M1.eq_1
theorem w_dh (aaZ0:Int) (abZ0:List ByteArray) (acZ0:List TFiber) (adZ0:List TLight) {r:Int×List ByteArray×List TFiber×List TLight} (h:M_dh aaZ0 abZ0 acZ0 adZ0=some r):OkH Tryz.prog 29 [.agg [.sl 1000000000 0 abZ0.length,.sl 1000000001 0 acZ0.length,.sl 1000000002 0 adZ0.length],.i aaZ0] [(1000000000,.arr 1 (abZ0.map AV.z)),(1000000001,.arr 4 (acZ0.map (e_TFiber .u))),(1000000002,.arr 5 (adZ0.map (e_TLight .u)))] ((fun (r:Int×List ByteArray×List TFiber×List TLight)=>.i r.1) r) ((fun (r:Int×List ByteArray×List TFiber×List TLight)=>[(1000000000,.arr 1 (r.2.1.map AV.z)),(1000000001,.arr 4 (r.2.2.1.map (e_TFiber .u))),(1000000002,.arr 5 (r.2.2.2.map (e_TLight .u)))]) r):=by
 refine okH_of_body (lr:=[1000000000,1000000001,1000000002]) hmix m29M1 rfl ?_
 unfold M_dh at h
 simp only [ZC,A29M1,V29M1]
 obtain ⟨rZ1,hrZ1,h⟩:=bind_s h
 refine ZF trivial ?_
 refine ZW trivial (w_fn _ _ _ hrZ1) (h2:=by first | exact nm_ok [1000000000,1000000001] rfl (by decide +kernel) | exact nm_ok2 [1000000000,1000000001] [] rfl (by decide +kernel) ZQ | exact ZQ) (hk:=?_)
 refine ZG ?_
 obtain ⟨rZ2,hrZ2,h⟩:=bind_s h
 refine ZF trivial ?_
 refine ⟨by simp [fz_mk,fz_bpo,fz_sc,fz_lsto,fz_agg,fz_tup,fz_fn,fz_sl,fz_pt,fz_top,fzL_nil,fzL_cons,ou_sc,ou_lstu,ou_lsto,ou_agg,ouL_nil,ouL_cons,rfz_var,rfz_arr,rfz_dead,fzL_mi,fzL_mb,fzL_mz,fzL_m8,fzL_m64,ouL_m8,ouL_m64,ouL_mi,ouL_mb,ouL_mz,VZ1],call_m (ok:=⟨_,_,_⟩) (by simp only [VS1,VS2,VS3,VS4,VS5,VS6,VT1,VT2,finM_ret,finM_nrm,decide_true,decide_false,List.nodup_nil,List.nodup_cons,oks_p,oks_m,oks_h,ne_eq,not_false_eq_true,Int.reduceEq,Int.reduceNe,true_and,false_and,Nat.reduceSub,Nat.reduceMul,↓reduceIte,reduceCtorEq,Nat.reduceEqDiff,Nat.reduceAdd,Nat.reduceLeDiff,Int.reduceLE]; first | exact w_bv _ _ hrZ2 | (have hw:=w_bv _ _ hrZ2; simp only [VS1,VS2,VS3,VS4,VS5,VS6,VT1,VT2,finM_ret,finM_nrm,decide_true,decide_false,List.nodup_nil,List.nodup_cons,oks_p,oks_m,oks_h,ne_eq,not_false_eq_true,Int.reduceEq,Int.reduceNe,true_and,false_and,Nat.reduceSub,Nat.reduceMul,↓reduceIte,reduceCtorEq,Nat.reduceEqDiff,Nat.reduceAdd,Nat.reduceLeDiff,Int.reduceLE] at hw; exact hw)) (by simp [VS1,VS2,VS3,VS4,VS5,VS6,VT1,VT2]) (by first | exact nm_ok [1000000000] rfl (by decide +kernel) | exact nm_ok2 [1000000000] [] rfl (by decide +kernel) (by simp [VS1,VS2,VS3,VS4,VS5,VS6,VT1,VT2]) | simp [VS1,VS2,VS3,VS4,VS5,VS6,VT1,VT2]) ?_⟩
 refine ZG ?_
 cases h
 exact ZL trivial @V29M1.eq_1
theorem w_bw (aaZ0:Int) (abZ0:List ByteArray) (acZ0:List TFiber) (adZ0:List TLight) (aeZ0:List TLight) (afZ0:List Int) {r:Int×List ByteArray×List TFiber×List TLight×List TLight×List Int} (h:M_bw aaZ0 abZ0 acZ0 adZ0 aeZ0 afZ0=some r):OkH Tryz.prog 21 [.agg [.sl 1000000000 0 abZ0.length,.sl 1000000001 0 acZ0.length,.sl 1000000002 0 adZ0.length,.sl 1000000003 0 aeZ0.length,.sl 1000000004 0 afZ0.length],.i aaZ0] [(1000000000,.arr 1 (abZ0.map AV.z)),(1000000001,.arr 4 (acZ0.map (e_TFiber .u))),(1000000002,.arr 5 (adZ0.map (e_TLight .u))),(1000000003,.arr 5 (aeZ0.map (e_TLight .u))),(1000000004,.arr 1 (afZ0.map AV.i))] ((fun (r:Int×List ByteArray×List TFiber×List TLight×List TLight×List Int)=>.i r.1) r) ((fun (r:Int×List ByteArray×List TFiber×List TLight×List TLight×List Int)=>[(1000000000,.arr 1 (r.2.1.map AV.z)),(1000000001,.arr 4 (r.2.2.1.map (e_TFiber .u))),(1000000002,.arr 5 (r.2.2.2.1.map (e_TLight .u))),(1000000003,.arr 5 (r.2.2.2.2.1.map (e_TLight .u))),(1000000004,.arr 1 (r.2.2.2.2.2.map AV.i))]) r):=by
 refine okH_of_body (lr:=[1000000000,1000000001,1000000002,1000000003,1000000004]) hmix m21M1 rfl ?_
 unfold M_bw at h
 simp only [ZC,A21M1,V21M1]
 obtain ⟨rZ1,hrZ1,h⟩:=bind_s h
 refine ZF trivial ?_
 refine ⟨by simp [fz_mk,fz_bpo,fz_sc,fz_lsto,fz_agg,fz_tup,fz_fn,fz_sl,fz_pt,fz_top,fzL_nil,fzL_cons,ou_sc,ou_lstu,ou_lsto,ou_agg,ouL_nil,ouL_cons,rfz_var,rfz_arr,rfz_dead,fzL_mi,fzL_mb,fzL_mz,fzL_m8,fzL_m64,ouL_m8,ouL_m64,ouL_mi,ouL_mb,ouL_mz,VZ1],call_m (ok:=⟨_,_,_⟩) (by simp only [VS1,VS2,VS3,VS4,VS5,VS6,VT1,VT2,finM_ret,finM_nrm,decide_true,decide_false,List.nodup_nil,List.nodup_cons,oks_p,oks_m,oks_h,ne_eq,not_false_eq_true,Int.reduceEq,Int.reduceNe,true_and,false_and,Nat.reduceSub,Nat.reduceMul,↓reduceIte,reduceCtorEq,Nat.reduceEqDiff,Nat.reduceAdd,Nat.reduceLeDiff,Int.reduceLE]; first | exact w_dh _ _ _ _ hrZ1 | (have hw:=w_dh _ _ _ _ hrZ1; simp only [VS1,VS2,VS3,VS4,VS5,VS6,VT1,VT2,finM_ret,finM_nrm,decide_true,decide_false,List.nodup_nil,List.nodup_cons,oks_p,oks_m,oks_h,ne_eq,not_false_eq_true,Int.reduceEq,Int.reduceNe,true_and,false_and,Nat.reduceSub,Nat.reduceMul,↓reduceIte,reduceCtorEq,Nat.reduceEqDiff,Nat.reduceAdd,Nat.reduceLeDiff,Int.reduceLE] at hw; exact hw)) (by simp [VS1,VS2,VS3,VS4,VS5,VS6,VT1,VT2]) (by first | exact nm_ok [1000000000,1000000001,1000000002] rfl (by decide +kernel) | exact nm_ok2 [1000000000,1000000001,1000000002] [] rfl (by decide +kernel) (by simp [VS1,VS2,VS3,VS4,VS5,VS6,VT1,VT2]) | simp [VS1,VS2,VS3,VS4,VS5,VS6,VT1,VT2]) ?_⟩
 refine ZG ?_
 obtain ⟨rZ2,hrZ2,h⟩:=bind_s h
 refine ZF trivial ?_
 refine ⟨by simp [fz_mk,fz_bpo,fz_sc,fz_lsto,fz_agg,fz_tup,fz_fn,fz_sl,fz_pt,fz_top,fzL_nil,fzL_cons,ou_sc,ou_lstu,ou_lsto,ou_agg,ouL_nil,ouL_cons,rfz_var,rfz_arr,rfz_dead,fzL_mi,fzL_mb,fzL_mz,fzL_m8,fzL_m64,ouL_m8,ouL_m64,ouL_mi,ouL_mb,ouL_mz,VZ1],call_m (ok:=⟨_,_,_⟩) (by simp only [VS1,VS2,VS3,VS4,VS5,VS6,VT1,VT2,finM_ret,finM_nrm,decide_true,decide_false,List.nodup_nil,List.nodup_cons,oks_p,oks_m,oks_h,ne_eq,not_false_eq_true,Int.reduceEq,Int.reduceNe,true_and,false_and,Nat.reduceSub,Nat.reduceMul,↓reduceIte,reduceCtorEq,Nat.reduceEqDiff,Nat.reduceAdd,Nat.reduceLeDiff,Int.reduceLE]; first | exact w_bv _ _ hrZ2 | (have hw:=w_bv _ _ hrZ2; simp only [VS1,VS2,VS3,VS4,VS5,VS6,VT1,VT2,finM_ret,finM_nrm,decide_true,decide_false,List.nodup_nil,List.nodup_cons,oks_p,oks_m,oks_h,ne_eq,not_false_eq_true,Int.reduceEq,Int.reduceNe,true_and,false_and,Nat.reduceSub,Nat.reduceMul,↓reduceIte,reduceCtorEq,Nat.reduceEqDiff,Nat.reduceAdd,Nat.reduceLeDiff,Int.reduceLE] at hw; exact hw)) (by simp [VS1,VS2,VS3,VS4,VS5,VS6,VT1,VT2]) (by first | exact nm_ok [1000000000] rfl (by decide +kernel) | exact nm_ok2 [1000000000] [] rfl (by decide +kernel) (by simp [VS1,VS2,VS3,VS4,VS5,VS6,VT1,VT2]) | simp [VS1,VS2,VS3,VS4,VS5,VS6,VT1,VT2]) ?_⟩
 refine ZG ?_
 obtain ⟨rZ3,hrZ3,h⟩:=bind_s h
 refine ZF trivial ?_
 refine ZW trivial (w_bq _ _ hrZ3) (h2:=by first | exact nm_ok [1000000000] rfl (by decide +kernel) | exact nm_ok2 [1000000000] [] rfl (by decide +kernel) ZQ | exact ZQ) (hk:=?_)
 refine ZG ?_
 cases h
 exact ZL trivial @V21M1.eq_1
def S_bc (aZ0:List ByteArray) (v:Int×Int):St:=⟨[(0,.lst .o 1 (aZ0.map AV.z)),(1,.i v.1),(5,.i v.2)],[]⟩
def SX_bc (v:Int):St:=⟨[(1,.i v)],[]⟩
theorem w_bc (aZ0:List ByteArray) (sZ1:Int×Int) (o:(Int×Int) ⊕ (Int ⊕ Int)) (h:M_bc aZ0 sZ1=some o):AWP (OkS Tryz.prog) A162L1 (qL [0,1,5] [] (S_bc aZ0) (qS (qX 0 [1] [] (SX_bc)) (qR V162 (fun r=>.i r))) o) (S_bc aZ0 sZ1):=by
 unfold M_bc at h
 simp only [ZC,S_bc,A162L1]
 obtain ⟨cZ2,h⟩ | ⟨cZ2,h⟩:=cond_s h
 · obtain ⟨yZ3,hyZ3,h⟩:=bind_s h
   obtain ⟨hyZ3a,hyZ3b⟩:=geti_s hyZ3
   obtain ⟨rZ4,hrZ4,h⟩:=bind_s h
   refine ZF (ZA cZ2 (ZA hyZ3a hyZ3b)) ?_
   refine ZS (ZA cZ2 (ZA hyZ3a hyZ3b)) (w_bu _ hrZ4) ?_
   refine ZG ?_
   obtain ⟨cZ5,h⟩ | ⟨cZ5,h⟩:=cond_s h
   · cases h
     exact ZL (ZA cZ2 (ZA hyZ3a (ZA hyZ3b cZ5))) @V162.eq_1
   · cases h
     exact ZL (ZA cZ2 (ZA hyZ3a (ZA hyZ3b cZ5))) (ZA @S_bc.eq_1 @SX_bc.eq_1)
 · cases h
   exact ZL cZ2 (ZA @S_bc.eq_1 @SX_bc.eq_1)
theorem w_di (aZ0:List ByteArray) (kZ0:Int) {r:Int} (h:M_di aZ0 kZ0=some r):Ok Tryz.prog 162 [.lst .o 1 (aZ0.map AV.z),.i kZ0] ((fun r=>.i r) r):=by
 refine ok_of_body hmix m162 rfl ?_
 unfold M_di at h
 simp only [ZC,A162,V162,body_eq]
 obtain ⟨oZ6,hoZ6,h⟩:=bind_s h
 try refine ZF trivial ?_
 refine join_rule (o:=oZ6) (blk_rule sideR (loop_rule (w_bc aZ0) hoZ6 ?_)) (fun vZ7 hv=>?_) (fun xZ8 hv e τ hne hq=>?_)
 · exact ZK (ZA @S_bc.eq_1 @SX_bc.eq_1)
 · subst hv
   simp only [] at h
   simp only [ZC,SX_bc,A162R2]
   cases h
   exact ZL trivial @V162.eq_1
 · subst hv
   simp only [] at h
   obtain ⟨rfl,qZ9⟩:=hq
   cases h
   exact qZ9
def S_bd (aZ0:List TFiber) (v:Int×Int):St:=⟨[(0,.lst .o 4 (aZ0.map (e_TFiber .o))),(1,.i v.1),(5,.i v.2)],[]⟩
def SX_bd (v:Int):St:=⟨[(1,.i v)],[]⟩
theorem w_bd (aZ0:List TFiber) (sZ1:Int×Int) (o:(Int×Int) ⊕ (Int ⊕ Int)) (h:M_bd aZ0 sZ1=some o):AWP (OkS Tryz.prog) A163L1 (qL [0,1,5] [] (S_bd aZ0) (qS (qX 0 [1] [] (SX_bd)) (qR V163 (fun r=>.i r))) o) (S_bd aZ0 sZ1):=by
 unfold M_bd at h
 simp only [ZC,S_bd,A163L1]
 obtain ⟨cZ2,h⟩ | ⟨cZ2,h⟩:=cond_s h
 · obtain ⟨yZ3,hyZ3,h⟩:=bind_s h
   obtain ⟨hyZ3a,hyZ3b⟩:=geti_s hyZ3
   obtain ⟨cZ4,h⟩ | ⟨cZ4,h⟩:=cond_s h
   · cases h
     exact ZL (ZA cZ2 (ZA hyZ3a (ZA hyZ3b cZ4))) @V163.eq_1
   · obtain ⟨cZ5,h⟩ | ⟨cZ5,h⟩:=cond_s h
     · cases h
       exact ZL (ZA cZ2 (ZA hyZ3a (ZA hyZ3b (ZA cZ4 cZ5)))) @V163.eq_1
     · obtain ⟨cZ6,h⟩ | ⟨cZ6,h⟩:=cond_s h
       · cases h
         exact ZL (ZA cZ2 (ZA hyZ3a (ZA hyZ3b (ZA cZ4 (ZA cZ5 cZ6))))) @V163.eq_1
       · obtain ⟨cZ7,h⟩ | ⟨cZ7,h⟩:=cond_s h
         · cases h
           exact ZL (ZA cZ2 (ZA hyZ3a (ZA hyZ3b (ZA cZ4 (ZA cZ5 (ZA cZ6 cZ7)))))) @V163.eq_1
         · cases h
           exact ZL (ZA cZ2 (ZA hyZ3a (ZA hyZ3b (ZA cZ4 (ZA cZ5 (ZA cZ6 cZ7)))))) (ZA @S_bd.eq_1 @SX_bd.eq_1)
 · cases h
   exact ZL cZ2 (ZA @S_bd.eq_1 @SX_bd.eq_1)
theorem w_dj (aZ0:List TFiber) (kZ0:Int) {r:Int} (h:M_dj aZ0 kZ0=some r):Ok Tryz.prog 163 [.lst .o 4 (aZ0.map (e_TFiber .o)),.i kZ0] ((fun r=>.i r) r):=by
 refine ok_of_body hmix m163 rfl ?_
 unfold M_dj at h
 simp only [ZC,A163,V163,body_eq]
 obtain ⟨oZ8,hoZ8,h⟩:=bind_s h
 try refine ZF trivial ?_
 refine join_rule (o:=oZ8) (blk_rule sideR (loop_rule (w_bd aZ0) hoZ8 ?_)) (fun vZ9 hv=>?_) (fun xZ10 hv e τ hne hq=>?_)
 · exact ZK (ZA @S_bd.eq_1 @SX_bd.eq_1)
 · subst hv
   simp only [] at h
   simp only [ZC,SX_bd,A163R2]
   cases h
   exact ZL trivial @V163.eq_1
 · subst hv
   simp only [] at h
   obtain ⟨rfl,qZ11⟩:=hq
   cases h
   exact qZ11
theorem w_dk (aZ0:TNetwork) (kZ0:Int) {r:Int} (h:M_dk aZ0 kZ0=some r):Ok Tryz.prog 104 [.agg [.lst .o 1 (aZ0.Nodes.map AV.z),.lst .o 4 (aZ0.Fibers.map (e_TFiber .o))],.i kZ0] ((fun r=>.i r) r):=by
 refine ok_of_body hmix m104 rfl ?_
 unfold M_dk at h
 simp only [ZC,A104,V104,body_eq]
 obtain ⟨rZ1,hrZ1,h⟩:=bind_s h
 refine ZF trivial ?_
 refine ZS trivial (w_di _ _ hrZ1) ?_
 refine ZG ?_
 obtain ⟨cZ2,h⟩ | ⟨cZ2,h⟩:=cond_s h
 · cases h
   exact ZL cZ2 @V104.eq_1
 · obtain ⟨rZ3,hrZ3,h⟩:=bind_s h
   refine ZF cZ2 ?_
   refine ZS cZ2 (w_dj _ _ hrZ3) ?_
   refine ZG ?_
   obtain ⟨cZ4,h⟩ | ⟨cZ4,h⟩:=cond_s h
   · cases h
     exact ZL (ZA cZ2 cZ4) @V104.eq_1
   · cases h
     exact ZL (ZA cZ2 cZ4) @V104.eq_1
def S_be (aZ0:List Int) (v:Int×Int):St:=⟨[(0,.lst .o 1 (aZ0.map AV.i)),(1,.i v.1),(5,.i v.2)],[]⟩
def SX_be (v:Int):St:=⟨[(1,.i v)],[]⟩
theorem w_be (aZ0:List Int) (sZ1:Int×Int) (o:(Int×Int) ⊕ (Int ⊕ Int)) (h:M_be aZ0 sZ1=some o):AWP (OkS Tryz.prog) A23L1 (qL [0,1,5] [] (S_be aZ0) (qS (qX 0 [1] [] (SX_be)) (qR V23 (fun r=>.i r))) o) (S_be aZ0 sZ1):=by
 unfold M_be at h
 simp only [ZC,S_be,A23L1]
 obtain ⟨cZ2,h⟩ | ⟨cZ2,h⟩:=cond_s h
 · obtain ⟨yZ3,hyZ3,h⟩:=bind_s h
   obtain ⟨hyZ3a,hyZ3b⟩:=geti_s hyZ3
   obtain ⟨cZ4,h⟩ | ⟨cZ4,h⟩:=cond_s h
   · cases h
     exact ZL (ZA cZ2 (ZA hyZ3a (ZA hyZ3b cZ4))) @V23.eq_1
   · cases h
     exact ZL (ZA cZ2 (ZA hyZ3a (ZA hyZ3b cZ4))) (ZA @S_be.eq_1 @SX_be.eq_1)
 · cases h
   exact ZL cZ2 (ZA @S_be.eq_1 @SX_be.eq_1)
theorem w_bl (aZ0:List Int) (kZ0:Int) {r:Int} (h:M_bl aZ0 kZ0=some r):Ok Tryz.prog 23 [.lst .o 1 (aZ0.map AV.i),.i kZ0] ((fun r=>.i r) r):=by
 refine ok_of_body hmix m23 rfl ?_
 unfold M_bl at h
 simp only [ZC,A23,V23,body_eq]
 obtain ⟨oZ5,hoZ5,h⟩:=bind_s h
 try refine ZF trivial ?_
 refine join_rule (o:=oZ5) (blk_rule sideR (loop_rule (w_be aZ0) hoZ5 ?_)) (fun vZ6 hv=>?_) (fun xZ7 hv e τ hne hq=>?_)
 · exact ZK (ZA @S_be.eq_1 @SX_be.eq_1)
 · subst hv
   simp only [] at h
   simp only [ZC,SX_be,A23R2]
   cases h
   exact ZL trivial @V23.eq_1
 · subst hv
   simp only [] at h
   obtain ⟨rfl,qZ8⟩:=hq
   cases h
   exact qZ8
def S_bf (aZ0:List TLight) (v:Int×Int):St:=⟨[(0,.lst .o 5 (aZ0.map (e_TLight .o))),(1,.i v.1),(5,.i v.2)],[]⟩
def SX_bf (v:Int):St:=⟨[(1,.i v)],[]⟩
theorem w_bf (aZ0:List TLight) (sZ1:Int×Int) (o:(Int×Int) ⊕ (Int ⊕ Int)) (h:M_bf aZ0 sZ1=some o):AWP (OkS Tryz.prog) A78L1 (qL [0,1,5] [] (S_bf aZ0) (qS (qX 0 [1] [] (SX_bf)) (qR V78 (fun r=>.i r))) o) (S_bf aZ0 sZ1):=by
 unfold M_bf at h
 simp only [ZC,S_bf,A78L1]
 obtain ⟨cZ2,h⟩ | ⟨cZ2,h⟩:=cond_s h
 · obtain ⟨yZ3,hyZ3,h⟩:=bind_s h
   obtain ⟨hyZ3a,hyZ3b⟩:=geti_s hyZ3
   obtain ⟨cZ4,h⟩ | ⟨cZ4,h⟩:=cond_s h
   · cases h
     exact ZL (ZA cZ2 (ZA hyZ3a (ZA hyZ3b cZ4))) @V78.eq_1
   · obtain ⟨cZ5,h⟩ | ⟨cZ5,h⟩:=cond_s h
     · cases h
       exact ZL (ZA cZ2 (ZA hyZ3a (ZA hyZ3b (ZA cZ4 cZ5)))) @V78.eq_1
     · obtain ⟨rZ6,hrZ6,h⟩:=bind_s h
       refine ZF (ZA cZ2 (ZA hyZ3a (ZA hyZ3b (ZA cZ4 cZ5)))) ?_
       refine ZS (ZA cZ2 (ZA hyZ3a (ZA hyZ3b (ZA cZ4 cZ5)))) (w_bl _ _ hrZ6) ?_
       refine ZG ?_
       obtain ⟨cZ7,h⟩ | ⟨cZ7,h⟩:=cond_s h
       · cases h
         exact ZL (ZA cZ2 (ZA hyZ3a (ZA hyZ3b (ZA cZ4 (ZA cZ5 cZ7))))) @V78.eq_1
       · obtain ⟨cZ8,h⟩ | ⟨cZ8,h⟩:=cond_s h
         · cases h
           exact ZL (ZA cZ2 (ZA hyZ3a (ZA hyZ3b (ZA cZ4 (ZA cZ5 (ZA cZ7 cZ8)))))) @V78.eq_1
         · obtain ⟨cZ9,h⟩ | ⟨cZ9,h⟩:=cond_s h
           · cases h
             exact ZL (ZA cZ2 (ZA hyZ3a (ZA hyZ3b (ZA cZ4 (ZA cZ5 (ZA cZ7 (ZA cZ8 cZ9))))))) @V78.eq_1
           · cases h
             exact ZL (ZA cZ2 (ZA hyZ3a (ZA hyZ3b (ZA cZ4 (ZA cZ5 (ZA cZ7 (ZA cZ8 cZ9))))))) (ZA @S_bf.eq_1 @SX_bf.eq_1)
 · cases h
   exact ZL cZ2 (ZA @S_bf.eq_1 @SX_bf.eq_1)
theorem w_bx (aZ0:List TLight) (kZ0:Int) {r:Int} (h:M_bx aZ0 kZ0=some r):Ok Tryz.prog 78 [.lst .o 5 (aZ0.map (e_TLight .o)),.i kZ0] ((fun r=>.i r) r):=by
 refine ok_of_body hmix m78 rfl ?_
 unfold M_bx at h
 simp only [ZC,A78,V78,body_eq]
 obtain ⟨oZ10,hoZ10,h⟩:=bind_s h
 try refine ZF trivial ?_
 refine join_rule (o:=oZ10) (blk_rule sideR (loop_rule (w_bf aZ0) hoZ10 ?_)) (fun vZ11 hv=>?_) (fun xZ12 hv e τ hne hq=>?_)
 · exact ZK (ZA @S_bf.eq_1 @SX_bf.eq_1)
 · subst hv
   simp only [] at h
   simp only [ZC,SX_bf,A78R2]
   cases h
   exact ZL trivial @V78.eq_1
 · subst hv
   simp only [] at h
   obtain ⟨rfl,qZ13⟩:=hq
   cases h
   exact qZ13
theorem w_dl (aZ0:TPlan) (kZ0:Int) {r:Int} (h:M_dl aZ0 kZ0=some r):Ok Tryz.prog 44 [.agg [.lst .o 1 (aZ0.Network.Nodes.map AV.z),.lst .o 4 (aZ0.Network.Fibers.map (e_TFiber .o)),.lst .o 5 (aZ0.Lights.map (e_TLight .o))],.i kZ0] ((fun r=>.i r) r):=by
 refine ok_of_body hmix m44 rfl ?_
 unfold M_dl at h
 simp only [ZC,A44,V44,body_eq]
 obtain ⟨rZ1,hrZ1,h⟩:=bind_s h
 refine ZF trivial ?_
 refine ZS trivial (w_dk _ _ hrZ1) ?_
 refine ZG ?_
 obtain ⟨cZ2,h⟩ | ⟨cZ2,h⟩:=cond_s h
 · cases h
   exact ZL cZ2 @V44.eq_1
 · obtain ⟨rZ3,hrZ3,h⟩:=bind_s h
   refine ZF cZ2 ?_
   refine ZS cZ2 (w_bx _ _ hrZ3) ?_
   refine ZG ?_
   obtain ⟨cZ4,h⟩ | ⟨cZ4,h⟩:=cond_s h
   · cases h
     exact ZL (ZA cZ2 cZ4) @V44.eq_1
   · cases h
     exact ZL (ZA cZ2 cZ4) @V44.eq_1
theorem w_by (aZ0:TRestoration) (kZ0:Int) {r:Int} (h:M_by aZ0 kZ0=some r):Ok Tryz.prog 30 [.agg [.lst .o 1 (aZ0.Plan.Network.Nodes.map AV.z),.lst .o 4 (aZ0.Plan.Network.Fibers.map (e_TFiber .o)),.lst .o 5 (aZ0.Plan.Lights.map (e_TLight .o)),.lst .o 5 (aZ0.Home.map (e_TLight .o)),.lst .o 1 (aZ0.Down.map AV.i)],.i kZ0] ((fun r=>.i r) r):=by
 refine ok_of_body hmix m30 rfl ?_
 unfold M_by at h
 simp only [ZC,A30,V30,body_eq]
 obtain ⟨rZ1,hrZ1,h⟩:=bind_s h
 refine ZF trivial ?_
 refine ZS trivial (w_dl _ _ hrZ1) ?_
 refine ZG ?_
 obtain ⟨cZ2,h⟩ | ⟨cZ2,h⟩:=cond_s h
 · cases h
   exact ZL cZ2 @V30.eq_1
 · obtain ⟨rZ3,hrZ3,h⟩:=bind_s h
   refine ZF cZ2 ?_
   refine ZS cZ2 (w_bx _ _ hrZ3) ?_
   refine ZG ?_
   obtain ⟨cZ4,h⟩ | ⟨cZ4,h⟩:=cond_s h
   · cases h
     exact ZL (ZA cZ2 cZ4) @V30.eq_1
   · obtain ⟨rZ5,hrZ5,h⟩:=bind_s h
     refine ZF (ZA cZ2 cZ4) ?_
     refine ZS (ZA cZ2 cZ4) (w_bl _ _ hrZ5) ?_
     refine ZG ?_
     obtain ⟨cZ6,h⟩ | ⟨cZ6,h⟩:=cond_s h
     · cases h
       exact ZL (ZA cZ2 (ZA cZ4 cZ6)) @V30.eq_1
     · cases h
       exact ZL (ZA cZ2 (ZA cZ4 cZ6)) @V30.eq_1
theorem w_fo (aRZ0:TRestoration) (aFibersZ0:List Int) {r:Bool} (h:M_fo aRZ0 aFibersZ0=some r):Ok Tryz.prog 9 [.agg [.lst .o 1 (aRZ0.Plan.Network.Nodes.map AV.z),.lst .o 4 (aRZ0.Plan.Network.Fibers.map (e_TFiber .o)),.lst .o 5 (aRZ0.Plan.Lights.map (e_TLight .o)),.lst .o 5 (aRZ0.Home.map (e_TLight .o)),.lst .o 1 (aRZ0.Down.map AV.i)],.lst .o 1 (aFibersZ0.map AV.i)] ((fun r=>.b r) r):=by
 refine ok_of_body hmix m9 rfl ?_
 unfold M_fo at h
 simp only [ZC,A9,V9,body_eq]
 obtain ⟨cZ1,h⟩ | ⟨cZ1,h⟩:=cond_s h
 · cases h
   exact ZL cZ1 @V9.eq_1
 · obtain ⟨rZ2,hrZ2,h⟩:=bind_s h
   refine ZF cZ1 ?_
   refine ZS cZ1 (w_dx _ _ hrZ2) ?_
   refine ZG ?_
   obtain ⟨cZ3,h⟩ | ⟨cZ3,h⟩:=cond_s h
   · cases h
     exact ZL (ZA cZ1 cZ3) @V9.eq_1
   · obtain ⟨rZ4,hrZ4,h⟩:=bind_s h
     refine ZF (ZA cZ1 cZ3) ?_
     refine ZU (ZA cZ1 cZ3) (w_bn _ hrZ4) ?_
     refine ZG ?_
     obtain ⟨rZ5,hrZ5,h⟩:=bind_s h
     refine ZF (ZA cZ1 cZ3) ?_
     refine ZU (ZA cZ1 cZ3) (w_bj _ hrZ5) ?_
     refine ZG ?_
     obtain ⟨rZ6,hrZ6,h⟩:=bind_s h
     refine ZF (ZA cZ1 cZ3) ?_
     refine ZW (ZA cZ1 cZ3) (w_dq _ _ _ _ _ _ hrZ6) (h2:=by first | exact nm_ok [5,500000256,500000257,500000258,500000259,500000260,1000000000,1000000001,1000000002,1000000003,1000000004,1000000005] rfl (by decide +kernel) | exact nm_ok2 [5,500000256,500000257,500000258,500000259,500000260,1000000000,1000000001,1000000002,1000000003,1000000004,1000000005] [3400005,503400256,503400257,503400258,503400259,503400260] rfl (by decide +kernel) ZQ | exact ZQ) (hk:=?_)
     refine ZG ?_
     obtain ⟨rZ7,hrZ7,h⟩:=bind_s h
     refine ZF (ZA cZ1 cZ3) ?_
     refine ZU (ZA cZ1 cZ3) (w_bn _ hrZ7) ?_
     refine ZG ?_
     obtain ⟨rZ8,hrZ8,h⟩:=bind_s h
     refine ZF (ZA cZ1 cZ3) ?_
     refine ZU (ZA cZ1 cZ3) (w_bj _ hrZ8) ?_
     refine ZG ?_
     obtain ⟨rZ9,hrZ9,h⟩:=bind_s h
     refine ZF (ZA cZ1 cZ3) ?_
     refine ZU (ZA cZ1 cZ3) (w_ce _ _ hrZ9) ?_
     refine ZG ?_
     obtain ⟨oZ14,hoZ14,h⟩:=bind_s h
     try refine ZF (ZA cZ1 cZ3) ?_
     refine join_rule0 (sh:=(fun v=>⟨[(1,.lst .o 1 (aFibersZ0.map AV.i)),(2,.bp .o (.agg [.lst .o 1 (aRZ0.Plan.Network.Nodes.map AV.z),.lst .o 4 (aRZ0.Plan.Network.Fibers.map (e_TFiber .o)),.lst .o 5 (aRZ0.Plan.Lights.map (e_TLight .o)),.lst .o 5 (aRZ0.Home.map (e_TLight .o)),.lst .o 1 (aRZ0.Down.map AV.i)]) 0),(6,.bp .o (.agg [.lst .o 1 (rZ6.2.2.1.map AV.z),.lst .o 4 (rZ6.2.2.2.1.map (e_TFiber .o)),.lst .o 5 (rZ6.2.2.2.2.1.map (e_TLight .o)),.lst .o 5 (rZ6.2.2.2.2.2.1.map (e_TLight .o)),.lst .o 1 (rZ6.2.2.2.2.2.2.1.map AV.i)]) 0),(7,.lst .o 1 (rZ6.2.1.map AV.i)),(8,.b rZ6.1),(9,.pt 9 0 0),(10,.sl 10 0 rZ8.length),(11,.pt 11 0 0),(12,.sl 12 0 rZ9.2.1.length),(13,.b rZ9.2.2),(62,.b v)],[(9,.var (.agg [.sl 38 0 rZ7.Plan.Network.Nodes.length,.sl 1038 0 rZ7.Plan.Network.Fibers.length,.sl 2038 0 rZ7.Plan.Lights.length,.sl 3038 0 rZ7.Home.length,.sl 4038 0 rZ7.Down.length])),(10,.arr 1 (rZ8.map AV.i)),(11,.var (.agg [.sl 44 0 rZ9.1.Plan.Network.Nodes.length,.sl 1044 0 rZ9.1.Plan.Network.Fibers.length,.sl 2044 0 rZ9.1.Plan.Lights.length,.sl 3044 0 rZ9.1.Home.length,.sl 4044 0 rZ9.1.Down.length])),(12,.arr 1 (rZ9.2.1.map AV.i)),(38,.arr 1 (rZ7.Plan.Network.Nodes.map AV.z)),(44,.arr 1 (rZ9.1.Plan.Network.Nodes.map AV.z)),(1038,.arr 4 (rZ7.Plan.Network.Fibers.map (e_TFiber .u))),(1044,.arr 4 (rZ9.1.Plan.Network.Fibers.map (e_TFiber .u))),(2038,.arr 5 (rZ7.Plan.Lights.map (e_TLight .u))),(2044,.arr 5 (rZ9.1.Plan.Lights.map (e_TLight .u))),(3038,.arr 5 (rZ7.Home.map (e_TLight .u))),(3044,.arr 5 (rZ9.1.Home.map (e_TLight .u))),(4038,.arr 1 (rZ7.Down.map AV.i)),(4044,.arr 1 (rZ9.1.Down.map AV.i))]⟩)) (s:=oZ14) ?_ ?_
     · replace h:=hoZ14
       obtain ⟨rZ10,hrZ10,h⟩:=bind_s h
       refine ZF (ZA cZ1 cZ3) ?_
       refine ZS (ZA cZ1 cZ3) (w_bp _ _ hrZ10) ?_
       refine ZG ?_
       obtain ⟨cZ11,h⟩ | ⟨cZ11,h⟩:=cond_s h
       · cases h
         exact ZL (ZA cZ1 (ZA cZ3 cZ11)) trivial
       · obtain ⟨rZ12,hrZ12,h⟩:=bind_s h
         refine ZF (ZA cZ1 (ZA cZ3 cZ11)) ?_
         refine ZS (ZA cZ1 (ZA cZ3 cZ11)) (w_bk _ _ hrZ12) ?_
         refine ZG ?_
         obtain ⟨cZ13,h⟩ | ⟨cZ13,h⟩:=cond_s h
         · cases h
           exact ZL (ZA cZ1 (ZA cZ3 (ZA cZ11 cZ13))) trivial
         · cases h
           exact ZL (ZA cZ1 (ZA cZ3 (ZA cZ11 cZ13))) trivial
     · simp only [ZC,A9R1]
       obtain ⟨cZ15,h⟩ | ⟨cZ15,h⟩:=cond_s h
       · cases h
         exact ZL (ZA cZ1 (ZA cZ3 cZ15)) @V9.eq_1
       · obtain ⟨rZ16,hrZ16,h⟩:=bind_s h
         refine ZF (ZA cZ1 (ZA cZ3 cZ15)) ?_
         refine ZU (ZA cZ1 (ZA cZ3 cZ15)) (w_bn _ hrZ16) ?_
         refine ZG ?_
         obtain ⟨rZ17,hrZ17,h⟩:=bind_s h
         refine ZF (ZA cZ1 (ZA cZ3 cZ15)) ?_
         refine ZS (ZA cZ1 (ZA cZ3 cZ15)) (w_bp _ _ hrZ17) ?_
         refine ZG ?_
         obtain ⟨cZ18,h⟩ | ⟨cZ18,h⟩:=cond_s h
         · cases h
           exact ZL (ZA cZ1 (ZA cZ3 (ZA cZ15 cZ18))) @V9.eq_1
         · obtain ⟨rZ19,hrZ19,h⟩:=bind_s h
           refine ZF (ZA cZ1 (ZA cZ3 (ZA cZ15 cZ18))) ?_
           refine ZU (ZA cZ1 (ZA cZ3 (ZA cZ15 cZ18))) (w_bj _ hrZ19) ?_
           refine ZG ?_
           obtain ⟨rZ20,hrZ20,h⟩:=bind_s h
           refine ZF (ZA cZ1 (ZA cZ3 (ZA cZ15 cZ18))) ?_
           refine ZS (ZA cZ1 (ZA cZ3 (ZA cZ15 cZ18))) (w_bk _ _ hrZ20) ?_
           refine ZG ?_
           obtain ⟨cZ21,h⟩ | ⟨cZ21,h⟩:=cond_s h
           · cases h
             exact ZL (ZA cZ1 (ZA cZ3 (ZA cZ15 (ZA cZ18 cZ21)))) @V9.eq_1
           · obtain ⟨rZ22,hrZ22,h⟩:=bind_s h
             refine ZF (ZA cZ1 (ZA cZ3 (ZA cZ15 (ZA cZ18 cZ21)))) ?_
             refine ⟨by simp [fz_mk,fz_bpo,fz_sc,fz_lsto,fz_agg,fz_tup,fz_fn,fz_sl,fz_pt,fz_top,fzL_nil,fzL_cons,ou_sc,ou_lstu,ou_lsto,ou_agg,ouL_nil,ouL_cons,rfz_var,rfz_arr,rfz_dead,fzL_mi,fzL_mb,fzL_mz,fzL_m8,fzL_m64,ouL_m8,ouL_m64,ouL_mi,ouL_mb,ouL_mz,VZ1],call_m (ok:=⟨_,_,_⟩) (by simp only [VS1,VS2,VS3,VS4,VS5,VS6,VT1,VT2,finM_ret,finM_nrm,decide_true,decide_false,List.nodup_nil,List.nodup_cons,oks_p,oks_m,oks_h,ne_eq,not_false_eq_true,Int.reduceEq,Int.reduceNe,true_and,false_and,Nat.reduceSub,Nat.reduceMul,↓reduceIte,reduceCtorEq,Nat.reduceEqDiff,Nat.reduceAdd,Nat.reduceLeDiff,Int.reduceLE,cZ1,cZ3,cZ15,cZ18,cZ21]; first | exact w_bw _ _ _ _ _ _ hrZ22 | (have hw:=w_bw _ _ _ _ _ _ hrZ22; simp only [VS1,VS2,VS3,VS4,VS5,VS6,VT1,VT2,finM_ret,finM_nrm,decide_true,decide_false,List.nodup_nil,List.nodup_cons,oks_p,oks_m,oks_h,ne_eq,not_false_eq_true,Int.reduceEq,Int.reduceNe,true_and,false_and,Nat.reduceSub,Nat.reduceMul,↓reduceIte,reduceCtorEq,Nat.reduceEqDiff,Nat.reduceAdd,Nat.reduceLeDiff,Int.reduceLE,cZ1,cZ3,cZ15,cZ18,cZ21] at hw; exact hw)) (by simp [VS1,VS2,VS3,VS4,VS5,VS6,VT1,VT2]) (by first | exact nm_ok [1000000000,1000000001,1000000002,1000000003,1000000004] rfl (by decide +kernel) | exact nm_ok2 [1000000000,1000000001,1000000002,1000000003,1000000004] [] rfl (by decide +kernel) (by simp [VS1,VS2,VS3,VS4,VS5,VS6,VT1,VT2]) | simp [VS1,VS2,VS3,VS4,VS5,VS6,VT1,VT2]) ?_⟩
             refine ZG ?_
             obtain ⟨rZ23,hrZ23,h⟩:=bind_s h
             refine ZF (ZA cZ1 (ZA cZ3 (ZA cZ15 (ZA cZ18 cZ21)))) ?_
             refine ZW (ZA cZ1 (ZA cZ3 (ZA cZ15 (ZA cZ18 cZ21)))) (w_bq _ _ hrZ23) (h2:=by first | exact nm_ok [1000000000] rfl (by decide +kernel) | exact nm_ok2 [1000000000] [] rfl (by decide +kernel) ZQ | exact ZQ) (hk:=?_)
             refine ZG ?_
             obtain ⟨oZ29,hoZ29,h⟩:=bind_s h
             try refine ZF (ZA cZ1 (ZA cZ3 (ZA cZ15 (ZA cZ18 cZ21)))) ?_
             refine join_rule0 (sh:=(fun v=>⟨[(1,.lst .o 1 (aFibersZ0.map AV.i)),(2,.bp .o (.agg [.lst .o 1 (aRZ0.Plan.Network.Nodes.map AV.z),.lst .o 4 (aRZ0.Plan.Network.Fibers.map (e_TFiber .o)),.lst .o 5 (aRZ0.Plan.Lights.map (e_TLight .o)),.lst .o 5 (aRZ0.Home.map (e_TLight .o)),.lst .o 1 (aRZ0.Down.map AV.i)]) 0),(6,.bp .o (.agg [.lst .o 1 (rZ6.2.2.1.map AV.z),.lst .o 4 (rZ6.2.2.2.1.map (e_TFiber .o)),.lst .o 5 (rZ6.2.2.2.2.1.map (e_TLight .o)),.lst .o 5 (rZ6.2.2.2.2.2.1.map (e_TLight .o)),.lst .o 1 (rZ6.2.2.2.2.2.2.1.map AV.i)]) 0),(7,.lst .o 1 (rZ6.2.1.map AV.i)),(8,.b rZ6.1),(11,.pt 11 0 0),(12,.sl 12 0 rZ9.2.1.length),(97,.b v)],[(11,.var (.agg [.sl 44 0 rZ9.1.Plan.Network.Nodes.length,.sl 1044 0 rZ9.1.Plan.Network.Fibers.length,.sl 2044 0 rZ9.1.Plan.Lights.length,.sl 3044 0 rZ9.1.Home.length,.sl 4044 0 rZ9.1.Down.length])),(12,.arr 1 (rZ9.2.1.map AV.i)),(44,.arr 1 (rZ9.1.Plan.Network.Nodes.map AV.z)),(1044,.arr 4 (rZ9.1.Plan.Network.Fibers.map (e_TFiber .u))),(2044,.arr 5 (rZ9.1.Plan.Lights.map (e_TLight .u))),(3044,.arr 5 (rZ9.1.Home.map (e_TLight .u))),(4044,.arr 1 (rZ9.1.Down.map AV.i))]⟩)) (s:=oZ29) ?_ ?_
             · replace h:=hoZ29
               obtain ⟨cZ24,h⟩ | ⟨cZ24,h⟩:=cond_s h
               · cases h
                 exact ZL (ZA cZ1 (ZA cZ3 (ZA cZ15 (ZA cZ18 (ZA cZ21 cZ24))))) trivial
               · obtain ⟨rZ25,hrZ25,h⟩:=bind_s h
                 refine ZF (ZA cZ1 (ZA cZ3 (ZA cZ15 (ZA cZ18 (ZA cZ21 cZ24))))) ?_
                 refine ZS (ZA cZ1 (ZA cZ3 (ZA cZ15 (ZA cZ18 (ZA cZ21 cZ24))))) (w_bp _ _ hrZ25) ?_
                 refine ZG ?_
                 obtain ⟨cZ26,h⟩ | ⟨cZ26,h⟩:=cond_s h
                 · cases h
                   exact ZL (ZA cZ1 (ZA cZ3 (ZA cZ15 (ZA cZ18 (ZA cZ21 (ZA cZ24 cZ26)))))) trivial
                 · obtain ⟨rZ27,hrZ27,h⟩:=bind_s h
                   refine ZF (ZA cZ1 (ZA cZ3 (ZA cZ15 (ZA cZ18 (ZA cZ21 (ZA cZ24 cZ26)))))) ?_
                   refine ZS (ZA cZ1 (ZA cZ3 (ZA cZ15 (ZA cZ18 (ZA cZ21 (ZA cZ24 cZ26)))))) (w_bk _ _ hrZ27) ?_
                   refine ZG ?_
                   obtain ⟨cZ28,h⟩ | ⟨cZ28,h⟩:=cond_s h
                   · cases h
                     exact ZL (ZA cZ1 (ZA cZ3 (ZA cZ15 (ZA cZ18 (ZA cZ21 (ZA cZ24 (ZA cZ26 cZ28))))))) trivial
                   · cases h
                     exact ZL (ZA cZ1 (ZA cZ3 (ZA cZ15 (ZA cZ18 (ZA cZ21 (ZA cZ24 (ZA cZ26 cZ28))))))) trivial
             · simp only [ZC,A9R2]
               obtain ⟨cZ30,h⟩ | ⟨cZ30,h⟩:=cond_s h
               · cases h
                 exact ZL (ZA cZ1 (ZA cZ3 (ZA cZ15 (ZA cZ18 (ZA cZ21 cZ30))))) @V9.eq_1
               · obtain ⟨rZ31,hrZ31,h⟩:=bind_s h
                 refine ZF (ZA cZ1 (ZA cZ3 (ZA cZ15 (ZA cZ18 (ZA cZ21 cZ30))))) ?_
                 refine ⟨by simp [fz_mk,fz_bpo,fz_sc,fz_lsto,fz_agg,fz_tup,fz_fn,fz_sl,fz_pt,fz_top,fzL_nil,fzL_cons,ou_sc,ou_lstu,ou_lsto,ou_agg,ouL_nil,ouL_cons,rfz_var,rfz_arr,rfz_dead,fzL_mi,fzL_mb,fzL_mz,fzL_m8,fzL_m64,ouL_m8,ouL_m64,ouL_mi,ouL_mb,ouL_mz,VZ1],call_m (ok:=⟨_,_,_⟩) (by simp only [VS1,VS2,VS3,VS4,VS5,VS6,VT1,VT2,finM_ret,finM_nrm,decide_true,decide_false,List.nodup_nil,List.nodup_cons,oks_p,oks_m,oks_h,ne_eq,not_false_eq_true,Int.reduceEq,Int.reduceNe,true_and,false_and,Nat.reduceSub,Nat.reduceMul,↓reduceIte,reduceCtorEq,Nat.reduceEqDiff,Nat.reduceAdd,Nat.reduceLeDiff,Int.reduceLE,cZ1,cZ3,cZ15,cZ18,cZ21,cZ30]; first | exact w_bw _ _ _ _ _ _ hrZ31 | (have hw:=w_bw _ _ _ _ _ _ hrZ31; simp only [VS1,VS2,VS3,VS4,VS5,VS6,VT1,VT2,finM_ret,finM_nrm,decide_true,decide_false,List.nodup_nil,List.nodup_cons,oks_p,oks_m,oks_h,ne_eq,not_false_eq_true,Int.reduceEq,Int.reduceNe,true_and,false_and,Nat.reduceSub,Nat.reduceMul,↓reduceIte,reduceCtorEq,Nat.reduceEqDiff,Nat.reduceAdd,Nat.reduceLeDiff,Int.reduceLE,cZ1,cZ3,cZ15,cZ18,cZ21,cZ30] at hw; exact hw)) (by simp [VS1,VS2,VS3,VS4,VS5,VS6,VT1,VT2]) (by first | exact nm_ok [1000000000,1000000001,1000000002,1000000003,1000000004] rfl (by decide +kernel) | exact nm_ok2 [1000000000,1000000001,1000000002,1000000003,1000000004] [] rfl (by decide +kernel) (by simp [VS1,VS2,VS3,VS4,VS5,VS6,VT1,VT2]) | simp [VS1,VS2,VS3,VS4,VS5,VS6,VT1,VT2]) ?_⟩
                 refine ZG ?_
                 obtain ⟨rZ32,hrZ32,h⟩:=bind_s h
                 refine ZF (ZA cZ1 (ZA cZ3 (ZA cZ15 (ZA cZ18 (ZA cZ21 cZ30))))) ?_
                 refine ZW (ZA cZ1 (ZA cZ3 (ZA cZ15 (ZA cZ18 (ZA cZ21 cZ30))))) (w_bq _ _ hrZ32) (h2:=by first | exact nm_ok [1000000000] rfl (by decide +kernel) | exact nm_ok2 [1000000000] [] rfl (by decide +kernel) ZQ | exact ZQ) (hk:=?_)
                 refine ZG ?_
                 obtain ⟨lZ33,hlZ33,h⟩:=bnd_s h
                 have eZ34:sub (rZ31.2.1.map AV.z) 0 rZ9.1.Plan.Network.Nodes.length=lZ33.map AV.z:=by rw [sub_mapT,hlZ33]
                 obtain ⟨lZ35,hlZ35,h⟩:=bnd_s h
                 have eZ36:sub (rZ31.2.2.1.map (e_TFiber .u)) 0 rZ9.1.Plan.Network.Fibers.length=lZ35.map (e_TFiber .u):=by rw [sub_mapT,hlZ35]
                 obtain ⟨lZ37,hlZ37,h⟩:=bnd_s h
                 have eZ38:sub (rZ31.2.2.2.1.map (e_TLight .u)) 0 rZ9.1.Plan.Lights.length=lZ37.map (e_TLight .u):=by rw [sub_mapT,hlZ37]
                 obtain ⟨lZ39,hlZ39,h⟩:=bnd_s h
                 have eZ40:sub (rZ31.2.2.2.2.1.map (e_TLight .u)) 0 rZ9.1.Home.length=lZ39.map (e_TLight .u):=by rw [sub_mapT,hlZ39]
                 obtain ⟨lZ41,hlZ41,h⟩:=bnd_s h
                 have eZ42:sub (rZ31.2.2.2.2.2.map AV.i) 0 rZ9.1.Down.length=lZ41.map AV.i:=by rw [sub_mapT,hlZ41]
                 obtain ⟨rZ43,hrZ43,h⟩:=bind_s h
                 refine ZF (ZA cZ1 (ZA cZ3 (ZA cZ15 (ZA cZ18 (ZA cZ21 (ZA cZ30 (ZA eZ34 (ZA eZ36 (ZA eZ38 (ZA eZ40 eZ42)))))))))) ?_
                 refine ZS (ZA cZ1 (ZA cZ3 (ZA cZ15 (ZA cZ18 (ZA cZ21 (ZA cZ30 (ZA eZ34 (ZA eZ36 (ZA eZ38 (ZA eZ40 eZ42)))))))))) (w_by _ _ hrZ43) ?_
                 refine ZG ?_
                 obtain ⟨cZ44,h⟩ | ⟨cZ44,h⟩:=cond_s h
                 · cases h
                   exact ZL (ZA cZ1 (ZA cZ3 (ZA cZ15 (ZA cZ18 (ZA cZ21 (ZA cZ30 (ZA eZ34 (ZA eZ36 (ZA eZ38 (ZA eZ40 (ZA eZ42 cZ44))))))))))) @V9.eq_1
                 · obtain ⟨lZ45,hlZ45,h⟩:=bnd_s h
                   have eZ46:sub (rZ32.2.map AV.i) 0 rZ9.2.1.length=lZ45.map AV.i:=by rw [sub_mapT,hlZ45]
                   obtain ⟨rZ47,hrZ47,h⟩:=bind_s h
                   refine ZF (ZA cZ1 (ZA cZ3 (ZA cZ15 (ZA cZ18 (ZA cZ21 (ZA cZ30 (ZA eZ34 (ZA eZ36 (ZA eZ38 (ZA eZ40 (ZA eZ42 (ZA cZ44 eZ46)))))))))))) ?_
                   refine ZS (ZA cZ1 (ZA cZ3 (ZA cZ15 (ZA cZ18 (ZA cZ21 (ZA cZ30 (ZA eZ34 (ZA eZ36 (ZA eZ38 (ZA eZ40 (ZA eZ42 (ZA cZ44 eZ46)))))))))))) (w_bl _ _ hrZ47) ?_
                   refine ZG ?_
                   obtain ⟨cZ48,h⟩ | ⟨cZ48,h⟩:=cond_s h
                   · cases h
                     exact ZL (ZA cZ1 (ZA cZ3 (ZA cZ15 (ZA cZ18 (ZA cZ21 (ZA cZ30 (ZA eZ34 (ZA eZ36 (ZA eZ38 (ZA eZ40 (ZA eZ42 (ZA cZ44 (ZA eZ46 cZ48))))))))))))) @V9.eq_1
                   · obtain ⟨cZ49,h⟩ | ⟨cZ49,h⟩:=cond_s h
                     · cases h
                       exact ZL (ZA cZ1 (ZA cZ3 (ZA cZ15 (ZA cZ18 (ZA cZ21 (ZA cZ30 (ZA eZ34 (ZA eZ36 (ZA eZ38 (ZA eZ40 (ZA eZ42 (ZA cZ44 (ZA eZ46 (ZA cZ48 cZ49)))))))))))))) @V9.eq_1
                     · obtain ⟨rZ50,hrZ50,h⟩:=bind_s h
                       refine ZF (ZA cZ1 (ZA cZ3 (ZA cZ15 (ZA cZ18 (ZA cZ21 (ZA cZ30 (ZA eZ34 (ZA eZ36 (ZA eZ38 (ZA eZ40 (ZA eZ42 (ZA cZ44 (ZA eZ46 (ZA cZ48 cZ49)))))))))))))) ?_
                       refine ZU (ZA cZ1 (ZA cZ3 (ZA cZ15 (ZA cZ18 (ZA cZ21 (ZA cZ30 (ZA eZ34 (ZA eZ36 (ZA eZ38 (ZA eZ40 (ZA eZ42 (ZA cZ44 (ZA eZ46 (ZA cZ48 cZ49)))))))))))))) (w_bn _ hrZ50) ?_
                       refine ZG ?_
                       obtain ⟨rZ51,hrZ51,h⟩:=bind_s h
                       refine ZF (ZA cZ1 (ZA cZ3 (ZA cZ15 (ZA cZ18 (ZA cZ21 (ZA cZ30 (ZA eZ34 (ZA eZ36 (ZA eZ38 (ZA eZ40 (ZA eZ42 (ZA cZ44 (ZA eZ46 (ZA cZ48 cZ49)))))))))))))) ?_
                       refine ZU (ZA cZ1 (ZA cZ3 (ZA cZ15 (ZA cZ18 (ZA cZ21 (ZA cZ30 (ZA eZ34 (ZA eZ36 (ZA eZ38 (ZA eZ40 (ZA eZ42 (ZA cZ44 (ZA eZ46 (ZA cZ48 cZ49)))))))))))))) (w_bj _ hrZ51) ?_
                       refine ZG ?_
                       obtain ⟨rZ52,hrZ52,h⟩:=bind_s h
                       refine ZF (ZA cZ1 (ZA cZ3 (ZA cZ15 (ZA cZ18 (ZA cZ21 (ZA cZ30 (ZA eZ34 (ZA eZ36 (ZA eZ38 (ZA eZ40 (ZA eZ42 (ZA cZ44 (ZA eZ46 (ZA cZ48 cZ49)))))))))))))) ?_
                       refine ZU (ZA cZ1 (ZA cZ3 (ZA cZ15 (ZA cZ18 (ZA cZ21 (ZA cZ30 (ZA eZ34 (ZA eZ36 (ZA eZ38 (ZA eZ40 (ZA eZ42 (ZA cZ44 (ZA eZ46 (ZA cZ48 cZ49)))))))))))))) (w_ce _ _ hrZ52) ?_
                       refine ZG ?_
                       obtain ⟨oZ57,hoZ57,h⟩:=bind_s h
                       try refine ZF (ZA cZ1 (ZA cZ3 (ZA cZ15 (ZA cZ18 (ZA cZ21 (ZA cZ30 (ZA eZ34 (ZA eZ36 (ZA eZ38 (ZA eZ40 (ZA eZ42 (ZA cZ44 (ZA eZ46 (ZA cZ48 cZ49)))))))))))))) ?_
                       refine join_rule0 (sh:=(fun v=>⟨[(11,.pt 11 0 0),(12,.sl 12 0 rZ9.2.1.length),(15,.i rZ32.1),(140,.b v)],[(11,.var (.agg [.sl 44 0 rZ9.1.Plan.Network.Nodes.length,.sl 1044 0 rZ9.1.Plan.Network.Fibers.length,.sl 2044 0 rZ9.1.Plan.Lights.length,.sl 3044 0 rZ9.1.Home.length,.sl 4044 0 rZ9.1.Down.length])),(12,.arr 1 (rZ32.2.map AV.i)),(44,.arr 1 (rZ31.2.1.map AV.z)),(1044,.arr 4 (rZ31.2.2.1.map (e_TFiber .u))),(2044,.arr 5 (rZ31.2.2.2.1.map (e_TLight .u))),(3044,.arr 5 (rZ31.2.2.2.2.1.map (e_TLight .u))),(4044,.arr 1 (rZ31.2.2.2.2.2.map AV.i))]⟩)) (s:=oZ57) ?_ ?_
                       · replace h:=hoZ57
                         obtain ⟨rZ53,hrZ53,h⟩:=bind_s h
                         refine ZF (ZA cZ1 (ZA cZ3 (ZA cZ15 (ZA cZ18 (ZA cZ21 (ZA cZ30 (ZA eZ34 (ZA eZ36 (ZA eZ38 (ZA eZ40 (ZA eZ42 (ZA cZ44 (ZA eZ46 (ZA cZ48 cZ49)))))))))))))) ?_
                         refine ZS (ZA cZ1 (ZA cZ3 (ZA cZ15 (ZA cZ18 (ZA cZ21 (ZA cZ30 (ZA eZ34 (ZA eZ36 (ZA eZ38 (ZA eZ40 (ZA eZ42 (ZA cZ44 (ZA eZ46 (ZA cZ48 cZ49)))))))))))))) (w_bp _ _ hrZ53) ?_
                         refine ZG ?_
                         obtain ⟨cZ54,h⟩ | ⟨cZ54,h⟩:=cond_s h
                         · cases h
                           exact ZL (ZA cZ1 (ZA cZ3 (ZA cZ15 (ZA cZ18 (ZA cZ21 (ZA cZ30 (ZA eZ34 (ZA eZ36 (ZA eZ38 (ZA eZ40 (ZA eZ42 (ZA cZ44 (ZA eZ46 (ZA cZ48 (ZA cZ49 cZ54))))))))))))))) trivial
                         · obtain ⟨rZ55,hrZ55,h⟩:=bind_s h
                           refine ZF (ZA cZ1 (ZA cZ3 (ZA cZ15 (ZA cZ18 (ZA cZ21 (ZA cZ30 (ZA eZ34 (ZA eZ36 (ZA eZ38 (ZA eZ40 (ZA eZ42 (ZA cZ44 (ZA eZ46 (ZA cZ48 (ZA cZ49 cZ54))))))))))))))) ?_
                           refine ZS (ZA cZ1 (ZA cZ3 (ZA cZ15 (ZA cZ18 (ZA cZ21 (ZA cZ30 (ZA eZ34 (ZA eZ36 (ZA eZ38 (ZA eZ40 (ZA eZ42 (ZA cZ44 (ZA eZ46 (ZA cZ48 (ZA cZ49 cZ54))))))))))))))) (w_bk _ _ hrZ55) ?_
                           refine ZG ?_
                           obtain ⟨cZ56,h⟩ | ⟨cZ56,h⟩:=cond_s h
                           · cases h
                             exact ZL (ZA cZ1 (ZA cZ3 (ZA cZ15 (ZA cZ18 (ZA cZ21 (ZA cZ30 (ZA eZ34 (ZA eZ36 (ZA eZ38 (ZA eZ40 (ZA eZ42 (ZA cZ44 (ZA eZ46 (ZA cZ48 (ZA cZ49 (ZA cZ54 cZ56)))))))))))))))) trivial
                           · cases h
                             exact ZL (ZA cZ1 (ZA cZ3 (ZA cZ15 (ZA cZ18 (ZA cZ21 (ZA cZ30 (ZA eZ34 (ZA eZ36 (ZA eZ38 (ZA eZ40 (ZA eZ42 (ZA cZ44 (ZA eZ46 (ZA cZ48 (ZA cZ49 (ZA cZ54 cZ56)))))))))))))))) trivial
                       · simp only [ZC,A9R3]
                         obtain ⟨cZ58,h⟩ | ⟨cZ58,h⟩:=cond_s h
                         · cases h
                           exact ZL (ZA cZ1 (ZA cZ3 (ZA cZ15 (ZA cZ18 (ZA cZ21 (ZA cZ30 (ZA eZ34 (ZA eZ36 (ZA eZ38 (ZA eZ40 (ZA eZ42 (ZA cZ44 (ZA eZ46 (ZA cZ48 (ZA cZ49 cZ58))))))))))))))) @V9.eq_1
                         · obtain ⟨rZ59,hrZ59,h⟩:=bind_s h
                           refine ZF (ZA cZ1 (ZA cZ3 (ZA cZ15 (ZA cZ18 (ZA cZ21 (ZA cZ30 (ZA eZ34 (ZA eZ36 (ZA eZ38 (ZA eZ40 (ZA eZ42 (ZA cZ44 (ZA eZ46 (ZA cZ48 (ZA cZ49 cZ58))))))))))))))) ?_
                           refine ZS (ZA cZ1 (ZA cZ3 (ZA cZ15 (ZA cZ18 (ZA cZ21 (ZA cZ30 (ZA eZ34 (ZA eZ36 (ZA eZ38 (ZA eZ40 (ZA eZ42 (ZA cZ44 (ZA eZ46 (ZA cZ48 (ZA cZ49 cZ58))))))))))))))) (w_by _ _ hrZ59) ?_
                           refine ZG ?_
                           obtain ⟨cZ60,h⟩ | ⟨cZ60,h⟩:=cond_s h
                           · cases h
                             exact ZL (ZA cZ1 (ZA cZ3 (ZA cZ15 (ZA cZ18 (ZA cZ21 (ZA cZ30 (ZA eZ34 (ZA eZ36 (ZA eZ38 (ZA eZ40 (ZA eZ42 (ZA cZ44 (ZA eZ46 (ZA cZ48 (ZA cZ49 (ZA cZ58 cZ60)))))))))))))))) @V9.eq_1
                           · obtain ⟨rZ61,hrZ61,h⟩:=bind_s h
                             refine ZF (ZA cZ1 (ZA cZ3 (ZA cZ15 (ZA cZ18 (ZA cZ21 (ZA cZ30 (ZA eZ34 (ZA eZ36 (ZA eZ38 (ZA eZ40 (ZA eZ42 (ZA cZ44 (ZA eZ46 (ZA cZ48 (ZA cZ49 (ZA cZ58 cZ60)))))))))))))))) ?_
                             refine ZS (ZA cZ1 (ZA cZ3 (ZA cZ15 (ZA cZ18 (ZA cZ21 (ZA cZ30 (ZA eZ34 (ZA eZ36 (ZA eZ38 (ZA eZ40 (ZA eZ42 (ZA cZ44 (ZA eZ46 (ZA cZ48 (ZA cZ49 (ZA cZ58 cZ60)))))))))))))))) (w_bl _ _ hrZ61) ?_
                             refine ZG ?_
                             obtain ⟨cZ62,h⟩ | ⟨cZ62,h⟩:=cond_s h
                             · cases h
                               exact ZL (ZA cZ1 (ZA cZ3 (ZA cZ15 (ZA cZ18 (ZA cZ21 (ZA cZ30 (ZA eZ34 (ZA eZ36 (ZA eZ38 (ZA eZ40 (ZA eZ42 (ZA cZ44 (ZA eZ46 (ZA cZ48 (ZA cZ49 (ZA cZ58 (ZA cZ60 cZ62))))))))))))))))) @V9.eq_1
                             · obtain ⟨cZ63,h⟩ | ⟨cZ63,h⟩:=cond_s h
                               · cases h
                                 exact ZL (ZA cZ1 (ZA cZ3 (ZA cZ15 (ZA cZ18 (ZA cZ21 (ZA cZ30 (ZA eZ34 (ZA eZ36 (ZA eZ38 (ZA eZ40 (ZA eZ42 (ZA cZ44 (ZA eZ46 (ZA cZ48 (ZA cZ49 (ZA cZ58 (ZA cZ60 (ZA cZ62 cZ63)))))))))))))))))) @V9.eq_1
                               · cases h
                                 exact ZL (ZA cZ1 (ZA cZ3 (ZA cZ15 (ZA cZ18 (ZA cZ21 (ZA cZ30 (ZA eZ34 (ZA eZ36 (ZA eZ38 (ZA eZ40 (ZA eZ42 (ZA cZ44 (ZA eZ46 (ZA cZ48 (ZA cZ49 (ZA cZ58 (ZA cZ60 (ZA cZ62 cZ63)))))))))))))))))) @V9.eq_1
end Vs

