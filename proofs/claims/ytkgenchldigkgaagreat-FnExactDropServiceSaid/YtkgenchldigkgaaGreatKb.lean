/-
  Part of the proof that the law FnExactDropService returns true at every input; no condition beside the row's own.
-/
import Derived.Test.YtkgenchldigkgaaGreatKa
set_option linter.defProp false
set_option linter.unusedSimpArgs false
set_option linter.unusedVariables false
set_option maxHeartbeats 1000000
set_option maxRecDepth 8000
namespace Vs
open Go Go.Proofs
attribute [local irreducible] AWP stOps eff awpC callA callM
theorem VT1:(∀ (f:Fl) (x:TFiber),e_TFiber f x=.agg [.i x.A,.i x.B,.i x.Length,.i x.Risk]) ∧
 (∀ (f:Fl) (x:TNetwork),e_TNetwork f x=.agg [.lst f 1 (x.Nodes.map AV.z),.lst f 4 (x.Fibers.map (e_TFiber f))]) ∧
 (∀ (f:Fl) (x:TRoute),e_TRoute f x=.agg [.i x.Start,.lst f 1 (x.Fibers.map AV.i)]) ∧
 (∀ (f:Fl) (x:TBlock),e_TBlock f x=.agg [.i x.First,.i x.Count]) ∧
 (∀ (f:Fl) (x:TService),e_TService f x=.agg [.i x.Id,.i x.Class,.i x.Work.Start,.lst f 1 (x.Work.Fibers.map AV.i),.i x.WorkBlock.First,.i x.WorkBlock.Count,.i x.Spare.Start,.lst f 1 (x.Spare.Fibers.map AV.i),.i x.SpareBlock.First,.i x.SpareBlock.Count]) ∧
 (∀ (f:Fl) (x:List Int),e_Li f x=.lst f 1 (x.map AV.i)) ∧
 (∀ (f:Fl) (x:TLight),e_TLight f x=.agg [.i x.Id,.i x.Route.Start,.lst f 1 (x.Route.Fibers.map AV.i),.i x.Block.First,.i x.Block.Count]):=⟨fun _ _=>rfl,fun _ _=>rfl,fun _ _=>rfl,fun _ _=>rfl,fun _ _=>rfl,fun _ _=>rfl,fun _ _=>rfl⟩
theorem VT2:(∀ (f:Fl) (x:TFiber),(e_TFiber f x).nrm=e_TFiber .o x) ∧
 (∀ (f:Fl) (xs:List TFiber),(xs.map (e_TFiber f)).map AV.nrm=xs.map (e_TFiber .o)) ∧
 (∀ (f:Fl) (x:TFiber),(e_TFiber f x).als=e_TFiber f.als x) ∧
 (∀ (f:Fl) (xs:List TFiber),(xs.map (e_TFiber f)).map AV.als=xs.map (e_TFiber f.als)) ∧
 (∀ (f:Fl),AV.als ∘ e_TFiber f=e_TFiber f.als) ∧
 (∀ (f:Fl) (x:TFiber),(e_TFiber f x).fix=e_TFiber f.fix x) ∧
 (∀ (f:Fl) (xs:List TFiber),(xs.map (e_TFiber f)).map AV.fix=xs.map (e_TFiber f.fix)) ∧
 (∀ (f:Fl) (x:TNetwork),(e_TNetwork f x).nrm=e_TNetwork .o x) ∧
 (∀ (f:Fl) (xs:List TNetwork),(xs.map (e_TNetwork f)).map AV.nrm=xs.map (e_TNetwork .o)) ∧
 (∀ (f:Fl) (x:TNetwork),(e_TNetwork f x).als=e_TNetwork f.als x) ∧
 (∀ (f:Fl) (xs:List TNetwork),(xs.map (e_TNetwork f)).map AV.als=xs.map (e_TNetwork f.als)) ∧
 (∀ (f:Fl),AV.als ∘ e_TNetwork f=e_TNetwork f.als) ∧
 (∀ (f:Fl) (x:TNetwork),(e_TNetwork f x).fix=e_TNetwork f.fix x) ∧
 (∀ (f:Fl) (xs:List TNetwork),(xs.map (e_TNetwork f)).map AV.fix=xs.map (e_TNetwork f.fix)) ∧
 (∀ (f:Fl) (x:TRoute),(e_TRoute f x).nrm=e_TRoute .o x) ∧
 (∀ (f:Fl) (xs:List TRoute),(xs.map (e_TRoute f)).map AV.nrm=xs.map (e_TRoute .o)) ∧
 (∀ (f:Fl) (x:TRoute),(e_TRoute f x).als=e_TRoute f.als x) ∧
 (∀ (f:Fl) (xs:List TRoute),(xs.map (e_TRoute f)).map AV.als=xs.map (e_TRoute f.als)) ∧
 (∀ (f:Fl),AV.als ∘ e_TRoute f=e_TRoute f.als) ∧
 (∀ (f:Fl) (x:TRoute),(e_TRoute f x).fix=e_TRoute f.fix x) ∧
 (∀ (f:Fl) (xs:List TRoute),(xs.map (e_TRoute f)).map AV.fix=xs.map (e_TRoute f.fix)) ∧
 (∀ (f:Fl) (x:TBlock),(e_TBlock f x).nrm=e_TBlock .o x) ∧
 (∀ (f:Fl) (xs:List TBlock),(xs.map (e_TBlock f)).map AV.nrm=xs.map (e_TBlock .o)) ∧
 (∀ (f:Fl) (x:TBlock),(e_TBlock f x).als=e_TBlock f.als x) ∧
 (∀ (f:Fl) (xs:List TBlock),(xs.map (e_TBlock f)).map AV.als=xs.map (e_TBlock f.als)) ∧
 (∀ (f:Fl),AV.als ∘ e_TBlock f=e_TBlock f.als) ∧
 (∀ (f:Fl) (x:TBlock),(e_TBlock f x).fix=e_TBlock f.fix x) ∧
 (∀ (f:Fl) (xs:List TBlock),(xs.map (e_TBlock f)).map AV.fix=xs.map (e_TBlock f.fix)) ∧
 (∀ (f:Fl) (x:TService),(e_TService f x).nrm=e_TService .o x) ∧
 (∀ (f:Fl) (xs:List TService),(xs.map (e_TService f)).map AV.nrm=xs.map (e_TService .o)) ∧
 (∀ (f:Fl) (x:TService),(e_TService f x).als=e_TService f.als x) ∧
 (∀ (f:Fl) (xs:List TService),(xs.map (e_TService f)).map AV.als=xs.map (e_TService f.als)) ∧
 (∀ (f:Fl),AV.als ∘ e_TService f=e_TService f.als) ∧
 (∀ (f:Fl) (x:TService),(e_TService f x).fix=e_TService f.fix x) ∧
 (∀ (f:Fl) (xs:List TService),(xs.map (e_TService f)).map AV.fix=xs.map (e_TService f.fix)) ∧
 (∀ (f:Fl) (x:List Int),(e_Li f x).nrm=e_Li .o x) ∧
 (∀ (f:Fl) (xs:List (List Int)),(xs.map (e_Li f)).map AV.nrm=xs.map (e_Li .o)) ∧
 (∀ (f:Fl) (x:List Int),(e_Li f x).als=e_Li f.als x) ∧
 (∀ (f:Fl) (xs:List (List Int)),(xs.map (e_Li f)).map AV.als=xs.map (e_Li f.als)) ∧
 (∀ (f:Fl),AV.als ∘ e_Li f=e_Li f.als) ∧
 (∀ (f:Fl) (x:List Int),(e_Li f x).fix=e_Li f.fix x) ∧
 (∀ (f:Fl) (xs:List (List Int)),(xs.map (e_Li f)).map AV.fix=xs.map (e_Li f.fix)) ∧
 (∀ (f:Fl) (x:TLight),(e_TLight f x).nrm=e_TLight .o x) ∧
 (∀ (f:Fl) (xs:List TLight),(xs.map (e_TLight f)).map AV.nrm=xs.map (e_TLight .o)) ∧
 (∀ (f:Fl) (x:TLight),(e_TLight f x).als=e_TLight f.als x) ∧
 (∀ (f:Fl) (xs:List TLight),(xs.map (e_TLight f)).map AV.als=xs.map (e_TLight f.als)) ∧
 (∀ (f:Fl),AV.als ∘ e_TLight f=e_TLight f.als) ∧
 (∀ (f:Fl) (x:TLight),(e_TLight f x).fix=e_TLight f.fix x) ∧
 (∀ (f:Fl) (xs:List TLight),(xs.map (e_TLight f)).map AV.fix=xs.map (e_TLight f.fix)) ∧
 (∀ {H:World→Prop} {α:Type} {E:Fl→α→AV} {k:Nat} (t:Tok H E k),(tokE t).als=tokE t) ∧
 (∀ {H:World→Prop} {α:Type} {E:Fl→α→AV} {k:Nat} (t:Tok H E k),(tokE t).nrm=tokE t) ∧
 (∀ {H:World→Prop} {α:Type} {E:Fl→α→AV} {k:Nat} (l:List (Tok H E k)),(l.map tokE).map AV.als=l.map tokE) ∧
 (∀ {H:World→Prop} {α:Type} {E:Fl→α→AV} {k:Nat} (l:List (Tok H E k)),alsL (l.map tokE)=l.map tokE) ∧
 (∀ {H:World→Prop} {α:Type} {E:Fl→α→AV} {k:Nat} (t:Tok H E k),(tokE t).width=k) ∧
 (∀ {H:World→Prop} {α:Type} {E:Fl→α→AV} {k:Nat} (t:Tok H E k),(tokE t).isAgg=true) ∧
 (∀ {H:World→Prop} {α:Type} {E:Fl→α→AV} {k:Nat} (t:Tok H E k),(tokE t).ments=[]) ∧
 (∀ {H:World→Prop} {α:Type} {E:Fl→α→AV} {k:Nat} (t:Tok H E k),part (tokE t) 0 k true=some (tokE t)) ∧
 (∀ {H:World→Prop} {α:Type} {E:Fl→α→AV} {k:Nat} (ρ:Nat→Option Row) (j:Nat) (t:Tok H E k),lift ρ (j+2) (tokE t)=tokE t) ∧
 (∀ {H:World→Prop} {α:Type} {E:Fl→α→AV} {k:Nat} (ρ:Nat→Option Row) (j:Nat) (t:Tok H E k),snp ρ (j+2) (tokE t)=tokE t) ∧
 (∀ {H:World→Prop} {α:Type} {E:Fl→α→AV} {k:Nat} (u t:Tok H E k),setPart (tokE u) 0 (tokE t)=some (tokE t)) ∧
 (∀ {H:World→Prop} {α:Type} {E:Fl→α→AV} {k:Nat} (h:Nat→Nat) (t:Tok H E k),(tokE t).rg h=tokE t) ∧
 (∀ {H:World→Prop} {α:Type} {E:Fl→α→AV} {k:Nat} (r d:Nat) (t:Tok H E k),(tokE t).ren r d=tokE t) ∧
 (∀ {H:World→Prop} {α:Type} {E:Fl→α→AV} {k:Nat} (r:Nat) (t:Tok H E k),(tokE t).hush r=tokE t) ∧
 (∀ {H:World→Prop} {α:Type} {E:Fl→α→AV} {k:Nat} (t:Tok H E k),(tokE t).cells.length=k) ∧
 (∀ {H:World→Prop} {α:Type} {E:Fl→α→AV} (a b:AV) (t:Tok H E 2),setPart (.agg [a,b]) 0 (tokE t)=some (tokE t)) ∧
 (∀ {H:World→Prop} {α:Type} {E:Fl→α→AV} (a b c d e:AV) (t:Tok H E 5),setPart (.agg [a,b,c,d,e]) 0 (tokE t)=some (tokE t)) ∧
 (∀ {H:World→Prop} {α:Type} {E:Fl→α→AV} (a b c d e f g h i j:AV) (t:Tok H E 10),setPart (.agg [a,b,c,d,e,f,g,h,i,j]) 0 (tokE t)=some (tokE t)) :=
 ⟨@e_TFiber_nrm,@e_TFiber_nrmm,@e_TFiber_als,@e_TFiber_alsm,@e_TFiber_alsc,@e_TFiber_fix,@e_TFiber_fixm,@e_TNetwork_nrm,@e_TNetwork_nrmm,@e_TNetwork_als,@e_TNetwork_alsm,@e_TNetwork_alsc,@e_TNetwork_fix,@e_TNetwork_fixm,@e_TRoute_nrm,@e_TRoute_nrmm,@e_TRoute_als,@e_TRoute_alsm,@e_TRoute_alsc,@e_TRoute_fix,@e_TRoute_fixm,@e_TBlock_nrm,@e_TBlock_nrmm,@e_TBlock_als,@e_TBlock_alsm,@e_TBlock_alsc,@e_TBlock_fix,@e_TBlock_fixm,@e_TService_nrm,@e_TService_nrmm,@e_TService_als,@e_TService_alsm,@e_TService_alsc,@e_TService_fix,@e_TService_fixm,@e_Li_nrm,@e_Li_nrmm,@e_Li_als,@e_Li_alsm,@e_Li_alsc,@e_Li_fix,@e_Li_fixm,@e_TLight_nrm,@e_TLight_nrmm,@e_TLight_als,@e_TLight_alsm,@e_TLight_alsc,@e_TLight_fix,@e_TLight_fixm,@tokE_als,@tokE_nrm,@tokE_alsm,@tokE_alsL,@tokE_width,@tokE_isAgg,@tokE_ments,@tokE_part,@tokE_lift,@tokE_snp,@tokE_set2,@tokE_rg,@tokE_ren,@tokE_hush,@tokE_cells,@tokE_setB,@tokE_setE,@tokE_setJ⟩
theorem VF1:(∀ (f:Fl) (x:TFiber),(e_TFiber f x).fix=e_TFiber f.fix x) ∧
 (∀ (f:Fl) (xs:List TFiber),(xs.map (e_TFiber f)).map AV.fix=xs.map (e_TFiber f.fix)) ∧
 (∀ (f:Fl) (x:TNetwork),(e_TNetwork f x).fix=e_TNetwork f.fix x) ∧
 (∀ (f:Fl) (xs:List TNetwork),(xs.map (e_TNetwork f)).map AV.fix=xs.map (e_TNetwork f.fix)) ∧
 (∀ (f:Fl) (x:TRoute),(e_TRoute f x).fix=e_TRoute f.fix x) ∧
 (∀ (f:Fl) (xs:List TRoute),(xs.map (e_TRoute f)).map AV.fix=xs.map (e_TRoute f.fix)) ∧
 (∀ (f:Fl) (x:TBlock),(e_TBlock f x).fix=e_TBlock f.fix x) ∧
 (∀ (f:Fl) (xs:List TBlock),(xs.map (e_TBlock f)).map AV.fix=xs.map (e_TBlock f.fix)) ∧
 (∀ (f:Fl) (x:TService),(e_TService f x).fix=e_TService f.fix x) ∧
 (∀ (f:Fl) (xs:List TService),(xs.map (e_TService f)).map AV.fix=xs.map (e_TService f.fix)) ∧
 (∀ (f:Fl) (x:List Int),(e_Li f x).fix=e_Li f.fix x) ∧
 (∀ (f:Fl) (xs:List (List Int)),(xs.map (e_Li f)).map AV.fix=xs.map (e_Li f.fix)) ∧
 (∀ (f:Fl) (x:TLight),(e_TLight f x).fix=e_TLight f.fix x) ∧
 (∀ (f:Fl) (xs:List TLight),(xs.map (e_TLight f)).map AV.fix=xs.map (e_TLight f.fix)) :=
 ⟨@e_TFiber_fix,@e_TFiber_fixm,@e_TNetwork_fix,@e_TNetwork_fixm,@e_TRoute_fix,@e_TRoute_fixm,@e_TBlock_fix,@e_TBlock_fixm,@e_TService_fix,@e_TService_fixm,@e_Li_fix,@e_Li_fixm,@e_TLight_fix,@e_TLight_fixm⟩
theorem VZ1:(∀ (x:TFiber),(e_TFiber .o x).fz=true) ∧
 (∀ (xs:List TFiber),fzL (xs.map (e_TFiber .o))=true) ∧
 (∀ (x:TFiber),(e_TFiber .u x).ouB=true) ∧
 (∀ (xs:List TFiber),ouBL (xs.map (e_TFiber .u))=true) ∧
 (∀ (x:TNetwork),(e_TNetwork .o x).fz=true) ∧
 (∀ (xs:List TNetwork),fzL (xs.map (e_TNetwork .o))=true) ∧
 (∀ (x:TNetwork),(e_TNetwork .u x).ouB=true) ∧
 (∀ (xs:List TNetwork),ouBL (xs.map (e_TNetwork .u))=true) ∧
 (∀ (x:TRoute),(e_TRoute .o x).fz=true) ∧
 (∀ (xs:List TRoute),fzL (xs.map (e_TRoute .o))=true) ∧
 (∀ (x:TRoute),(e_TRoute .u x).ouB=true) ∧
 (∀ (xs:List TRoute),ouBL (xs.map (e_TRoute .u))=true) ∧
 (∀ (x:TBlock),(e_TBlock .o x).fz=true) ∧
 (∀ (xs:List TBlock),fzL (xs.map (e_TBlock .o))=true) ∧
 (∀ (x:TBlock),(e_TBlock .u x).ouB=true) ∧
 (∀ (xs:List TBlock),ouBL (xs.map (e_TBlock .u))=true) ∧
 (∀ (x:TService),(e_TService .o x).fz=true) ∧
 (∀ (xs:List TService),fzL (xs.map (e_TService .o))=true) ∧
 (∀ (x:TService),(e_TService .u x).ouB=true) ∧
 (∀ (xs:List TService),ouBL (xs.map (e_TService .u))=true) ∧
 (∀ (x:List Int),(e_Li .o x).fz=true) ∧
 (∀ (xs:List (List Int)),fzL (xs.map (e_Li .o))=true) ∧
 (∀ (x:List Int),(e_Li .u x).ouB=true) ∧
 (∀ (xs:List (List Int)),ouBL (xs.map (e_Li .u))=true) ∧
 (∀ (x:TLight),(e_TLight .o x).fz=true) ∧
 (∀ (xs:List TLight),fzL (xs.map (e_TLight .o))=true) ∧
 (∀ (x:TLight),(e_TLight .u x).ouB=true) ∧
 (∀ (xs:List TLight),ouBL (xs.map (e_TLight .u))=true) :=
 ⟨@e_TFiber_fz,@e_TFiber_fzm,@e_TFiber_ou,@e_TFiber_oum,@e_TNetwork_fz,@e_TNetwork_fzm,@e_TNetwork_ou,@e_TNetwork_oum,@e_TRoute_fz,@e_TRoute_fzm,@e_TRoute_ou,@e_TRoute_oum,@e_TBlock_fz,@e_TBlock_fzm,@e_TBlock_ou,@e_TBlock_oum,@e_TService_fz,@e_TService_fzm,@e_TService_ou,@e_TService_oum,@e_Li_fz,@e_Li_fzm,@e_Li_ou,@e_Li_oum,@e_TLight_fz,@e_TLight_fzm,@e_TLight_ou,@e_TLight_oum⟩
theorem VE1:e_TFiber .o=e_TFiber .u∧e_TFiber .m=e_TFiber .u∧e_TFiber .s=e_TFiber .u∧e_TBlock .o=e_TBlock .u∧e_TBlock .m=e_TBlock .u∧e_TBlock .s=e_TBlock .u:=⟨rfl,rfl,rfl,rfl,rfl,rfl⟩
theorem Zr {α:Type} (n:Nat) (a:α):(List.replicate n a).length=n:=List.length_replicate
theorem ZA {A B:Prop} (a:A) (b:B):A∧B:=⟨a,b⟩
theorem ZF {A:Prop} (a:A) {P Q:Prop} (k:Q) (e:A→P=Q:=by intro a; simp only [VS1,VS2,VS3,VS4,VS5,VS6,VT1,VT2,finM_ret,finM_nrm,decide_true,decide_false,List.nodup_nil,List.nodup_cons,oks_p,oks_m,oks_h,ne_eq,not_false_eq_true,Int.reduceEq,Int.reduceNe,true_and,false_and,Nat.reduceSub,Nat.reduceMul,↓reduceIte,reduceCtorEq,Nat.reduceEqDiff,Nat.reduceAdd,Nat.reduceLeDiff,Int.reduceLE,a]; exact Eq.refl _):P:=(e a).mpr k
theorem ZG {P Q:Prop} (k:Q) (e:P=Q:=by simp only [VA,VF1,↓reduceIte,Nat.reduceEqDiff,Nat.reduceAdd,Nat.reduceMul,Nat.reduceSub,Nat.reduceLeDiff]; exact Eq.refl _):P:=e.mpr k
theorem ZL {A:Prop} (a:A) {B:Prop} (b:B) {P:Prop} (e:A→B→P:=by intro a b; (try simp only [VS1,VS2,VS3,VS4,VS5,VS6,VT1,VT2,finM_ret,finM_nrm,decide_true,decide_false,List.nodup_nil,List.nodup_cons,oks_p,oks_m,oks_h,ne_eq,not_false_eq_true,Int.reduceEq,Int.reduceNe,true_and,false_and,Nat.reduceSub,Nat.reduceMul,↓reduceIte,reduceCtorEq,Nat.reduceEqDiff,Nat.reduceAdd,Nat.reduceLeDiff,Int.reduceLE,a]); all_goals first | (simp [qL,qJ,qJ0,qS,qX,qR,qM,Shp,sub,tupd,finM_ret,finM_nrm,VS1,VS2,VS3,VS4,VS5,VS6,VT1,VT2,b]; done) | simp [qL,qJ,qJ0,qS,qX,qR,qM,Shp,sub,tupd,finM_ret,finM_nrm,VS1,VS2,VS3,VS4,VS5,VS6,VT1,VT2,VE1,b]):P:=e a b
theorem ZK {B:Prop} (b:B) {P:Prop} (e:B→P:=by intro b; simp [qL,qJ,qJ0,qS,qX,qR,qM,Shp,sub,tupd,finM_ret,finM_nrm,VS1,VS2,VS3,VS4,VS5,VS6,VT1,VT2,b]):P:=e b
theorem ZS {A:Prop} (a:A) {W:Prop} (w:W) {ok:Oks} {ρ:Nat→Option Row} {d f:Nat} {args:List AV} {K:AV→List (Nat×Row)→Prop} {v:Value} (hk:K (.sc v) [])
 (e:A→W→ok.p f (args.map (snp ρ 4)) (.sc v):=by intro a w; simp only [VS1,VS2,VS3,VS4,VS5,VS6,VT1,VT2,finM_ret,finM_nrm,decide_true,decide_false,List.nodup_nil,List.nodup_cons,oks_p,oks_m,oks_h,ne_eq,not_false_eq_true,Int.reduceEq,Int.reduceNe,true_and,false_and,Nat.reduceSub,Nat.reduceMul,↓reduceIte,reduceCtorEq,Nat.reduceEqDiff,Nat.reduceAdd,Nat.reduceLeDiff,Int.reduceLE,a]; exact w):callA ok ρ d f args K:=call_s (e a w) hk
theorem ZU {A:Prop} (a:A) {W:Prop} (w:W) {ok:Oks} {ρ:Nat→Option Row} {d f:Nat} {args:List AV} {K:AV→List (Nat×Row)→Prop} {res:AV} (hk:K (adopt 4 d res).1 (adopt 4 d res).2.1)
 (e:A→W→ok.p f (args.map (snp ρ 4)) res:=by intro a w; simp only [VS1,VS2,VS3,VS4,VS5,VS6,VT1,VT2,finM_ret,finM_nrm,decide_true,decide_false,List.nodup_nil,List.nodup_cons,oks_p,oks_m,oks_h,ne_eq,not_false_eq_true,Int.reduceEq,Int.reduceNe,true_and,false_and,Nat.reduceSub,Nat.reduceMul,↓reduceIte,reduceCtorEq,Nat.reduceEqDiff,Nat.reduceAdd,Nat.reduceLeDiff,Int.reduceLE,a]; exact w) (hu:res.allU:=by simp [AV.allU,allUL,allUL_iff,VT1,VT2]) (hn:∀ p∈(adopt 4 d res).2.1,ρ p.1=none∧p.1 < 1000000000:=by simp only [VS1,VS2,VS3,VS4,VS5,VS6,VT1,VT2,finM_ret,finM_nrm,decide_true,decide_false,List.nodup_nil,List.nodup_cons,oks_p,oks_m,oks_h,ne_eq,not_false_eq_true,Int.reduceEq,Int.reduceNe,true_and,false_and,Nat.reduceSub,Nat.reduceMul,↓reduceIte,reduceCtorEq,Nat.reduceEqDiff,Nat.reduceAdd,Nat.reduceLeDiff,Int.reduceLE,Nat.reduceLT]):callA ok ρ d f args K:=call_u (e a w) hu hn hk
theorem ZQ {P:Prop} (e:P:=by simp [VS1,VS2,VS3,VS4,VS5,VS6,VT1,VT2]):P:=e
theorem ZW {A:Prop} (a:A) {W:Prop} (w:W) {ok:Oks} {ρ:Nat→Option Row} {d f:Nat} {args:List AV} {rs:List Nat} {K:AV→List (Nat×Row)→Prop} {res:AV} {outs:List (Nat×Row)}
 (e:A→W→ok.m f (args.map (AV.rg (cnm rs))) (rs.map (rowIn ρ rs)) res outs:=by intro a w; simp only [VS1,VS2,VS3,VS4,VS5,VS6,VT1,VT2,finM_ret,finM_nrm,decide_true,decide_false,List.nodup_nil,List.nodup_cons,oks_p,oks_m,oks_h,ne_eq,not_false_eq_true,Int.reduceEq,Int.reduceNe,true_and,false_and,Nat.reduceSub,Nat.reduceMul,↓reduceIte,reduceCtorEq,Nat.reduceEqDiff,Nat.reduceAdd,Nat.reduceLeDiff,Int.reduceLE,a]; first | exact w | (simp only [VS1,VS2,VS3,VS4,VS5,VS6,VT1,VT2,finM_ret,finM_nrm,decide_true,decide_false,List.nodup_nil,List.nodup_cons,oks_p,oks_m,oks_h,ne_eq,not_false_eq_true,Int.reduceEq,Int.reduceNe,true_and,false_and,Nat.reduceSub,Nat.reduceMul,↓reduceIte,reduceCtorEq,Nat.reduceEqDiff,Nat.reduceAdd,Nat.reduceLeDiff,Int.reduceLE,a] at w; exact w))
 (h1:rs.Nodup∧(∀ r∈rs,isLive (ρ r))∧(∀ r∈rs,∀ q∈oments (ρ r),q∈rs)∧(∀ r∈mentsL args,r∈rs):=by simp [VS1,VS2,VS3,VS4,VS5,VS6,VT1,VT2])
 (h2:(outs.map fun p=>bkn d rs p.1).Nodup∧(∀ p∈outs,1000000000≤p.1→p.1 - 1000000000 < rs.length)∧(∀ p∈outs,p.1 < 1000000000→ρ (bkn d rs p.1)=none∧bkn d rs p.1 < 1000000000))
 (hk:K (res.rg (bkn d rs)) (gone rs++outs.map (rowBk d rs))):callM ok ρ d f args rs K:=call_m (e a w) h1 h2 hk
def S_af (aZ0:List ByteArray) (v:Int×Int):St:=⟨[(0,.lst .o 1 (aZ0.map AV.z)),(1,.i v.1),(5,.i v.2)],[]⟩
def SX_af (v:Int):St:=⟨[(1,.i v)],[]⟩
theorem w_af (aZ0:List ByteArray) (sZ2:Int×Int) (o:(Int×Int) ⊕ (Int ⊕ Int)) (h:M_af aZ0 sZ2=some o):AWP (OkS Tryz.prog) A43L1 (qL [0,1,5] [] (S_af aZ0) (qS (qX 0 [1] [] (SX_af)) (qR V43 (fun r=>.i r))) o) (S_af aZ0 sZ2):=by
 unfold M_af at h
 simp only [ZC,S_af,A43L1]
 obtain ⟨cZ3,h⟩ | ⟨cZ3,h⟩:=cond_s h
 · obtain ⟨yZ4,hyZ4,h⟩:=bind_s h
   obtain ⟨hyZ4a,hyZ4b⟩:=geti_s hyZ4
   obtain ⟨cZ5,h⟩ | ⟨cZ5,h⟩:=cond_s h
   · cases h
     exact ZL (ZA cZ3 (ZA hyZ4a (ZA hyZ4b cZ5))) @V43.eq_1
   · cases h
     exact ZL (ZA cZ3 (ZA hyZ4a (ZA hyZ4b cZ5))) (ZA @S_af.eq_1 @SX_af.eq_1)
 · cases h
   exact ZL cZ3 (ZA @S_af.eq_1 @SX_af.eq_1)
theorem w_dp (aZ0:List ByteArray) (leftZ0:Int) {r:Int} (h:M_dp aZ0 leftZ0=some r):Ok Tryz.prog 43 [.lst .o 1 (aZ0.map AV.z),.i leftZ0] ((fun r=>.i r) r):=by
 refine ok_of_body hmix m43 rfl ?_
 unfold M_dp at h
 simp only [ZC,A43,V43,body_eq]
 obtain ⟨cZ1,h⟩ | ⟨cZ1,h⟩:=cond_s h
 · cases h
   exact ZL cZ1 @V43.eq_1
 · obtain ⟨oZ6,hoZ6,h⟩:=bind_s h
   try refine ZF cZ1 ?_
   refine join_rule (o:=oZ6) (blk_rule sideR (loop_rule (w_af aZ0) hoZ6 ?_)) (fun vZ7 hv=>?_) (fun xZ8 hv e τ hne hq=>?_)
   · exact ZK (ZA @S_af.eq_1 @SX_af.eq_1)
   · subst hv
     simp only [] at h
     simp only [ZC,SX_af,A43R2]
     cases h
     exact ZL cZ1 @V43.eq_1
   · subst hv
     simp only [] at h
     obtain ⟨rfl,qZ9⟩:=hq
     cases h
     exact qZ9
theorem w_ds (aZ0:List TFiber) (leftZ0:Int) {r:Int} (h:M_ds aZ0 leftZ0=some r):Ok Tryz.prog 44 [.lst .o 4 (aZ0.map (e_TFiber .o)),.i leftZ0] ((fun r=>.i r) r):=by
 refine ok_of_body hmix m44 rfl ?_
 unfold M_ds at h
 simp only [ZC,A44,V44,body_eq]
 obtain ⟨cZ1,h⟩ | ⟨cZ1,h⟩:=cond_s h
 · cases h
   exact ZL cZ1 @V44.eq_1
 · cases h
   exact ZL cZ1 @V44.eq_1
theorem w_dv (aZ0:TNetwork) (leftZ0:Int) {r:Int} (h:M_dv aZ0 leftZ0=some r):Ok Tryz.prog 12 [.agg [.lst .o 1 (aZ0.Nodes.map AV.z),.lst .o 4 (aZ0.Fibers.map (e_TFiber .o))],.i leftZ0] ((fun r=>.i r) r):=by
 refine ok_of_body hmix m12 rfl ?_
 unfold M_dv at h
 simp only [ZC,A12,V12,body_eq]
 obtain ⟨rZ1,hrZ1,h⟩:=bind_s h
 refine ZF trivial ?_
 refine ZS trivial (w_dp _ _ hrZ1) ?_
 refine ZG ?_
 obtain ⟨cZ2,h⟩ | ⟨cZ2,h⟩:=cond_s h
 · cases h
   exact ZL cZ2 @V12.eq_1
 · obtain ⟨rZ3,hrZ3,h⟩:=bind_s h
   refine ZF cZ2 ?_
   refine ZS cZ2 (w_ds _ _ hrZ3) ?_
   refine ZG ?_
   obtain ⟨cZ4,h⟩ | ⟨cZ4,h⟩:=cond_s h
   · cases h
     exact ZL (ZA cZ2 cZ4) @V12.eq_1
   · cases h
     exact ZL (ZA cZ2 cZ4) @V12.eq_1
theorem w_dx (aZ0:List Int) (leftZ0:Int) {r:Int} (h:M_dx aZ0 leftZ0=some r):Ok Tryz.prog 119 [.lst .o 1 (aZ0.map AV.i),.i leftZ0] ((fun r=>.i r) r):=by
 refine ok_of_body hmix m119 rfl ?_
 unfold M_dx at h
 simp only [ZC,A119,V119,body_eq]
 obtain ⟨cZ1,h⟩ | ⟨cZ1,h⟩:=cond_s h
 · cases h
   exact ZL cZ1 @V119.eq_1
 · cases h
   exact ZL cZ1 @V119.eq_1
theorem w_cj (aZ0:TRoute) (leftZ0:Int) {r:Int} (h:M_cj aZ0 leftZ0=some r):Ok Tryz.prog 87 [.agg [.i aZ0.Start,.lst .o 1 (aZ0.Fibers.map AV.i)],.i leftZ0] ((fun r=>.i r) r):=by
 refine ok_of_body hmix m87 rfl ?_
 unfold M_cj at h
 simp only [ZC,A87,V87,body_eq]
 obtain ⟨rZ1,hrZ1,h⟩:=bind_s h
 refine ZF trivial ?_
 refine ZS trivial (w_dx _ _ hrZ1) ?_
 refine ZG ?_
 obtain ⟨cZ2,h⟩ | ⟨cZ2,h⟩:=cond_s h
 · cases h
   exact ZL cZ2 @V87.eq_1
 · cases h
   exact ZL cZ2 @V87.eq_1
theorem w_ea (aZ0:TService) (leftZ0:Int) {r:Int} (h:M_ea aZ0 leftZ0=some r):Ok Tryz.prog 45 [.agg [.i aZ0.Id,.i aZ0.Class,.i aZ0.Work.Start,.lst .o 1 (aZ0.Work.Fibers.map AV.i),.i aZ0.WorkBlock.First,.i aZ0.WorkBlock.Count,.i aZ0.Spare.Start,.lst .o 1 (aZ0.Spare.Fibers.map AV.i),.i aZ0.SpareBlock.First,.i aZ0.SpareBlock.Count],.i leftZ0] ((fun r=>.i r) r):=by
 refine ok_of_body hmix m45 rfl ?_
 unfold M_ea at h
 simp only [ZC,A45,V45,body_eq]
 obtain ⟨rZ1,hrZ1,h⟩:=bind_s h
 refine ZF trivial ?_
 refine ZS trivial (w_cj _ _ hrZ1) ?_
 refine ZG ?_
 obtain ⟨cZ2,h⟩ | ⟨cZ2,h⟩:=cond_s h
 · cases h
   exact ZL cZ2 @V45.eq_1
 · obtain ⟨rZ3,hrZ3,h⟩:=bind_s h
   refine ZF cZ2 ?_
   refine ZS cZ2 (w_cj _ _ hrZ3) ?_
   refine ZG ?_
   obtain ⟨cZ4,h⟩ | ⟨cZ4,h⟩:=cond_s h
   · cases h
     exact ZL (ZA cZ2 cZ4) @V45.eq_1
   · cases h
     exact ZL (ZA cZ2 cZ4) @V45.eq_1
def S_am (aZ0:List TService) (v:Int×Int):St:=⟨[(0,.lst .o 10 (aZ0.map (e_TService .o))),(1,.i v.1),(5,.i v.2)],[]⟩
def SX_am (v:Int):St:=⟨[(1,.i v)],[]⟩
theorem w_am (aZ0:List TService) (sZ2:Int×Int) (o:(Int×Int) ⊕ (Int ⊕ Int)) (h:M_am aZ0 sZ2=some o):AWP (OkS Tryz.prog) A13L1 (qL [0,1,5] [] (S_am aZ0) (qS (qX 0 [1] [] (SX_am)) (qR V13 (fun r=>.i r))) o) (S_am aZ0 sZ2):=by
 unfold M_am at h
 simp only [ZC,S_am,A13L1]
 obtain ⟨cZ3,h⟩ | ⟨cZ3,h⟩:=cond_s h
 · obtain ⟨yZ4,hyZ4,h⟩:=bind_s h
   obtain ⟨hyZ4a,hyZ4b⟩:=geti_s hyZ4
   obtain ⟨rZ5,hrZ5,h⟩:=bind_s h
   refine ZF (ZA cZ3 (ZA hyZ4a hyZ4b)) ?_
   refine ZS (ZA cZ3 (ZA hyZ4a hyZ4b)) (w_ea _ _ hrZ5) ?_
   refine ZG ?_
   obtain ⟨cZ6,h⟩ | ⟨cZ6,h⟩:=cond_s h
   · cases h
     exact ZL (ZA cZ3 (ZA hyZ4a (ZA hyZ4b cZ6))) @V13.eq_1
   · cases h
     exact ZL (ZA cZ3 (ZA hyZ4a (ZA hyZ4b cZ6))) (ZA @S_am.eq_1 @SX_am.eq_1)
 · cases h
   exact ZL cZ3 (ZA @S_am.eq_1 @SX_am.eq_1)
theorem w_eb (aZ0:List TService) (leftZ0:Int) {r:Int} (h:M_eb aZ0 leftZ0=some r):Ok Tryz.prog 13 [.lst .o 10 (aZ0.map (e_TService .o)),.i leftZ0] ((fun r=>.i r) r):=by
 refine ok_of_body hmix m13 rfl ?_
 unfold M_eb at h
 simp only [ZC,A13,V13,body_eq]
 obtain ⟨cZ1,h⟩ | ⟨cZ1,h⟩:=cond_s h
 · cases h
   exact ZL cZ1 @V13.eq_1
 · obtain ⟨oZ7,hoZ7,h⟩:=bind_s h
   try refine ZF cZ1 ?_
   refine join_rule (o:=oZ7) (blk_rule sideR (loop_rule (w_am aZ0) hoZ7 ?_)) (fun vZ8 hv=>?_) (fun xZ9 hv e τ hne hq=>?_)
   · exact ZK (ZA @S_am.eq_1 @SX_am.eq_1)
   · subst hv
     simp only [] at h
     simp only [ZC,SX_am,A13R2]
     cases h
     exact ZL cZ1 @V13.eq_1
   · subst hv
     simp only [] at h
     obtain ⟨rfl,qZ10⟩:=hq
     cases h
     exact qZ10
def S_ag (aZ0:List ByteArray) (v:Int×List ByteArray):St:=⟨[(0,.lst .o 1 (aZ0.map AV.z)),(3,.sl 3 0 v.2.length),(4,.i v.1)],[(3,.arr 1 (v.2.map AV.z))]⟩
def SX_ag (v:List ByteArray):St:=⟨[(3,.sl 3 0 v.length)],[(3,.arr 1 (v.map AV.z))]⟩
theorem w_ag (aZ0:List ByteArray) (sZ4:Int×List ByteArray) (o:(Int×List ByteArray) ⊕ (List ByteArray)) (h:M_ag aZ0 sZ4=some o):AWP (OkS Tryz.prog) A48L1 (qL [0,3,4] [3] (S_ag aZ0) (qX 0 [3] [3] (SX_ag)) o) (S_ag aZ0 sZ4):=by
 unfold M_ag at h
 simp only [ZC,S_ag,A48L1]
 obtain ⟨cZ5,h⟩ | ⟨cZ5,h⟩:=cond_s h
 · obtain ⟨yZ6,hyZ6,h⟩:=bind_s h
   obtain ⟨hyZ6a,hyZ6b⟩:=geti_s hyZ6
   obtain ⟨kZ7,hkZ7,h⟩:=bind_s h
   obtain ⟨hkZ7a,hkZ7b⟩:=grd_s hkZ7
   obtain ⟨yZ8,hyZ8,h⟩:=bind_s h
   obtain ⟨lZ9,hlZ9,h⟩:=bnd_s h
   have eZ10:(sZ4.2.map AV.z).set (Int.toNat sZ4.1) (.z yZ6)=lZ9.map AV.z:=by rw [← hlZ9,List.map_set]
   cases h
   exact ZL (ZA cZ5 (ZA hyZ6a (ZA hyZ6b (ZA hkZ7a (ZA hkZ7b (ZA hyZ8 eZ10)))))) (ZA @S_ag.eq_1 (ZA @SX_ag.eq_1 hlZ9.symm))
 · cases h
   exact ZL cZ5 (ZA @S_ag.eq_1 @SX_ag.eq_1)
theorem w_dq (aZ0:List ByteArray) {r:List ByteArray} (h:M_dq aZ0=some r):Ok Tryz.prog 48 [.lst .o 1 (aZ0.map AV.z)] ((fun r=>.lst .u 1 (r.map AV.z)) r):=by
 refine ok_of_body hmix m48 rfl ?_
 unfold M_dq at h
 simp only [ZC,A48,V48,body_eq]
 obtain ⟨uZ1,huZ1,h⟩:=bind_s h
 obtain ⟨huZ11,huZ12,huZ13,huZ14⟩:=grd_s huZ1
 obtain ⟨lZ2,hlZ2,h⟩:=bnd_s h
 have eZ3:List.replicate (Int.toNat (aZ0.length:Int)) (.z (⟨#[]⟩:ByteArray):AV)=lZ2.map AV.z:=by rw [← hlZ2,List.map_replicate]
 obtain ⟨oZ11,hoZ11,h⟩:=bind_s h
 try refine ZF (ZA huZ11 (ZA huZ12 (ZA huZ13 (ZA huZ14 eZ3)))) ?_
 refine join_rule0 (blk_rule0 (loop_rule (w_ag aZ0) hoZ11 ?_)) ?_
 · exact ZK (ZA @S_ag.eq_1 (ZA @SX_ag.eq_1 (ZA hlZ2.symm @Zr)))
 · simp only [ZC,SX_ag,A48R2]
   cases h
   exact ZL (ZA huZ11 (ZA huZ12 (ZA huZ13 (ZA huZ14 eZ3)))) @V48.eq_1
theorem w_cs (aZ0:TFiber) {r:TFiber} (h:M_cs aZ0=some r):Ok Tryz.prog 91 [.agg [.i aZ0.A,.i aZ0.B,.i aZ0.Length,.i aZ0.Risk]] ((fun r=>.agg [.i r.A,.i r.B,.i r.Length,.i r.Risk]) r):=by
 refine ok_of_body hmix m91 rfl ?_
 unfold M_cs at h
 simp only [ZC,A91,V91,body_eq]
 cases h
 exact ZL trivial @V91.eq_1
def S_ai (aZ0:List TFiber) (v:Int×List TFiber):St:=⟨[(0,.lst .o 4 (aZ0.map (e_TFiber .o))),(3,.sl 3 0 v.2.length),(4,.i v.1)],[(3,.arr 4 (v.2.map (e_TFiber .u)))]⟩
def SX_ai (v:List TFiber):St:=⟨[(3,.sl 3 0 v.length)],[(3,.arr 4 (v.map (e_TFiber .u)))]⟩
theorem w_ai (aZ0:List TFiber) (sZ4:Int×List TFiber) (o:(Int×List TFiber) ⊕ (List TFiber)) (h:M_ai aZ0 sZ4=some o):AWP (OkS Tryz.prog) A49L1 (qL [0,3,4] [3] (S_ai aZ0) (qX 0 [3] [3] (SX_ai)) o) (S_ai aZ0 sZ4):=by
 unfold M_ai at h
 simp only [ZC,S_ai,A49L1]
 obtain ⟨cZ5,h⟩ | ⟨cZ5,h⟩:=cond_s h
 · obtain ⟨yZ6,hyZ6,h⟩:=bind_s h
   obtain ⟨hyZ6a,hyZ6b⟩:=geti_s hyZ6
   obtain ⟨rZ7,hrZ7,h⟩:=bind_s h
   refine ZF (ZA cZ5 (ZA hyZ6a hyZ6b)) ?_
   refine ZU (ZA cZ5 (ZA hyZ6a hyZ6b)) (w_cs _ hrZ7) ?_
   refine ZG ?_
   obtain ⟨kZ8,hkZ8,h⟩:=bind_s h
   obtain ⟨hkZ8a,hkZ8b⟩:=grd_s hkZ8
   obtain ⟨yZ9,hyZ9,h⟩:=bind_s h
   obtain ⟨lZ10,hlZ10,h⟩:=bnd_s h
   have eZ11:(sZ4.2.map (e_TFiber .u)).set (Int.toNat sZ4.1) (.agg [.i rZ7.A,.i rZ7.B,.i rZ7.Length,.i rZ7.Risk])=lZ10.map (e_TFiber .u):=by rw [← hlZ10,List.map_set]; rfl
   cases h
   exact ZL (ZA cZ5 (ZA hyZ6a (ZA hyZ6b (ZA hkZ8a (ZA hkZ8b (ZA hyZ9 eZ11)))))) (ZA @S_ai.eq_1 (ZA @SX_ai.eq_1 hlZ10.symm))
 · cases h
   exact ZL cZ5 (ZA @S_ai.eq_1 @SX_ai.eq_1)
theorem w_dt (aZ0:List TFiber) {r:List TFiber} (h:M_dt aZ0=some r):Ok Tryz.prog 49 [.lst .o 4 (aZ0.map (e_TFiber .o))] ((fun r=>.lst .u 4 (r.map (e_TFiber .u))) r):=by
 refine ok_of_body hmix m49 rfl ?_
 unfold M_dt at h
 simp only [ZC,A49,V49,body_eq]
 obtain ⟨uZ1,huZ1,h⟩:=bind_s h
 obtain ⟨huZ11,huZ12,huZ13,huZ14⟩:=grd_s huZ1
 obtain ⟨lZ2,hlZ2,h⟩:=bnd_s h
 have eZ3:List.replicate (Int.toNat (aZ0.length:Int)) (.agg [.i 0,.i 0,.i 0,.i 0]:AV)=lZ2.map (e_TFiber .u):=by rw [← hlZ2,List.map_replicate]; rfl
 obtain ⟨oZ12,hoZ12,h⟩:=bind_s h
 try refine ZF (ZA huZ11 (ZA huZ12 (ZA huZ13 (ZA huZ14 eZ3)))) ?_
 refine join_rule0 (blk_rule0 (loop_rule (w_ai aZ0) hoZ12 ?_)) ?_
 · exact ZK (ZA @S_ai.eq_1 (ZA @SX_ai.eq_1 (ZA hlZ2.symm @Zr)))
 · simp only [ZC,SX_ai,A49R2]
   cases h
   exact ZL (ZA huZ11 (ZA huZ12 (ZA huZ13 (ZA huZ14 eZ3)))) @V49.eq_1
theorem w_bg (aZ0:TNetwork) {r:TNetwork} (h:M_bg aZ0=some r):Ok Tryz.prog 15 [.agg [.lst .o 1 (aZ0.Nodes.map AV.z),.lst .o 4 (aZ0.Fibers.map (e_TFiber .o))]] ((fun r=>.agg [.lst .u 1 (r.Nodes.map AV.z),.lst .u 4 (r.Fibers.map (e_TFiber .u))]) r):=by
 refine ok_of_body hmix m15 rfl ?_
 unfold M_bg at h
 simp only [ZC,A15,V15,body_eq]
 obtain ⟨rZ1,hrZ1,h⟩:=bind_s h
 refine ZF trivial ?_
 refine ZU trivial (w_dq _ hrZ1) ?_
 refine ZG ?_
 obtain ⟨rZ2,hrZ2,h⟩:=bind_s h
 refine ZF trivial ?_
 refine ZU trivial (w_dt _ hrZ2) ?_
 refine ZG ?_
 cases h
 exact ZL trivial @V15.eq_1
def S_ak (aZ0:List Int) (v:Int×List Int):St:=⟨[(0,.lst .o 1 (aZ0.map AV.i)),(3,.sl 3 0 v.2.length),(4,.i v.1)],[(3,.arr 1 (v.2.map AV.i))]⟩
def SX_ak (v:List Int):St:=⟨[(3,.sl 3 0 v.length)],[(3,.arr 1 (v.map AV.i))]⟩
theorem w_ak (aZ0:List Int) (sZ4:Int×List Int) (o:(Int×List Int) ⊕ (List Int)) (h:M_ak aZ0 sZ4=some o):AWP (OkS Tryz.prog) A26L1 (qL [0,3,4] [3] (S_ak aZ0) (qX 0 [3] [3] (SX_ak)) o) (S_ak aZ0 sZ4):=by
 unfold M_ak at h
 simp only [ZC,S_ak,A26L1]
 obtain ⟨cZ5,h⟩ | ⟨cZ5,h⟩:=cond_s h
 · obtain ⟨yZ6,hyZ6,h⟩:=bind_s h
   obtain ⟨hyZ6a,hyZ6b⟩:=geti_s hyZ6
   obtain ⟨kZ7,hkZ7,h⟩:=bind_s h
   obtain ⟨hkZ7a,hkZ7b⟩:=grd_s hkZ7
   obtain ⟨yZ8,hyZ8,h⟩:=bind_s h
   obtain ⟨lZ9,hlZ9,h⟩:=bnd_s h
   have eZ10:(sZ4.2.map AV.i).set (Int.toNat sZ4.1) (.i yZ6)=lZ9.map AV.i:=by rw [← hlZ9,List.map_set]
   cases h
   exact ZL (ZA cZ5 (ZA hyZ6a (ZA hyZ6b (ZA hkZ7a (ZA hkZ7b (ZA hyZ8 eZ10)))))) (ZA @S_ak.eq_1 (ZA @SX_ak.eq_1 hlZ9.symm))
 · cases h
   exact ZL cZ5 (ZA @S_ak.eq_1 @SX_ak.eq_1)
theorem w_dy (aZ0:List Int) {r:List Int} (h:M_dy aZ0=some r):Ok Tryz.prog 26 [.lst .o 1 (aZ0.map AV.i)] ((fun r=>.lst .u 1 (r.map AV.i)) r):=by
 refine ok_of_body hmix m26 rfl ?_
 unfold M_dy at h
 simp only [ZC,A26,V26,body_eq]
 obtain ⟨uZ1,huZ1,h⟩:=bind_s h
 obtain ⟨huZ11,huZ12,huZ13,huZ14⟩:=grd_s huZ1
 obtain ⟨lZ2,hlZ2,h⟩:=bnd_s h
 have eZ3:List.replicate (Int.toNat (aZ0.length:Int)) (.i 0:AV)=lZ2.map AV.i:=by rw [← hlZ2,List.map_replicate]
 obtain ⟨oZ11,hoZ11,h⟩:=bind_s h
 try refine ZF (ZA huZ11 (ZA huZ12 (ZA huZ13 (ZA huZ14 eZ3)))) ?_
 refine join_rule0 (blk_rule0 (loop_rule (w_ak aZ0) hoZ11 ?_)) ?_
 · exact ZK (ZA @S_ak.eq_1 (ZA @SX_ak.eq_1 (ZA hlZ2.symm @Zr)))
 · simp only [ZC,SX_ak,A26R2]
   cases h
   exact ZL (ZA huZ11 (ZA huZ12 (ZA huZ13 (ZA huZ14 eZ3)))) @V26.eq_1
theorem w_ck (aZ0:TRoute) {r:TRoute} (h:M_ck aZ0=some r):Ok Tryz.prog 92 [.agg [.i aZ0.Start,.lst .o 1 (aZ0.Fibers.map AV.i)]] ((fun r=>.agg [.i r.Start,.lst .u 1 (r.Fibers.map AV.i)]) r):=by
 refine ok_of_body hmix m92 rfl ?_
 unfold M_ck at h
 simp only [ZC,A92,V92,body_eq]
 obtain ⟨rZ1,hrZ1,h⟩:=bind_s h
 refine ZF trivial ?_
 refine ZU trivial (w_dy _ hrZ1) ?_
 refine ZG ?_
 cases h
 exact ZL trivial @V92.eq_1
theorem w_cm (aZ0:TBlock) {r:TBlock} (h:M_cm aZ0=some r):Ok Tryz.prog 93 [.agg [.i aZ0.First,.i aZ0.Count]] ((fun r=>.agg [.i r.First,.i r.Count]) r):=by
 refine ok_of_body hmix m93 rfl ?_
 unfold M_cm at h
 simp only [ZC,A93,V93,body_eq]
 cases h
 exact ZL trivial @V93.eq_1
theorem w_cu (aZ0:TService) {r:TService} (h:M_cu aZ0=some r):Ok Tryz.prog 50 [.agg [.i aZ0.Id,.i aZ0.Class,.i aZ0.Work.Start,.lst .o 1 (aZ0.Work.Fibers.map AV.i),.i aZ0.WorkBlock.First,.i aZ0.WorkBlock.Count,.i aZ0.Spare.Start,.lst .o 1 (aZ0.Spare.Fibers.map AV.i),.i aZ0.SpareBlock.First,.i aZ0.SpareBlock.Count]] ((fun r=>.agg [.i r.Id,.i r.Class,.i r.Work.Start,.lst .u 1 (r.Work.Fibers.map AV.i),.i r.WorkBlock.First,.i r.WorkBlock.Count,.i r.Spare.Start,.lst .u 1 (r.Spare.Fibers.map AV.i),.i r.SpareBlock.First,.i r.SpareBlock.Count]) r):=by
 refine ok_of_body hmix m50 rfl ?_
 unfold M_cu at h
 simp only [ZC,A50,V50,body_eq]
 obtain ⟨rZ1,hrZ1,h⟩:=bind_s h
 refine ZF trivial ?_
 refine ZU trivial (w_ck _ hrZ1) ?_
 refine ZG ?_
 obtain ⟨rZ2,hrZ2,h⟩:=bind_s h
 refine ZF trivial ?_
 refine ZU trivial (w_cm _ hrZ2) ?_
 refine ZG ?_
 obtain ⟨rZ3,hrZ3,h⟩:=bind_s h
 refine ZF trivial ?_
 refine ZU trivial (w_ck _ hrZ3) ?_
 refine ZG ?_
 obtain ⟨rZ4,hrZ4,h⟩:=bind_s h
 refine ZF trivial ?_
 refine ZU trivial (w_cm _ hrZ4) ?_
 refine ZG ?_
 cases h
 exact ZL trivial @V50.eq_1
def S_an (aZ0:List TService) (v:Int×List TService):St:=⟨[(0,.lst .o 10 (aZ0.map (e_TService .o))),(3,.sl 3 0 v.2.length),(4,.i v.1)],[(3,.arr 10 (v.2.map (e_TService .u)))]⟩
def SX_an (v:List TService):St:=⟨[(3,.sl 3 0 v.length)],[(3,.arr 10 (v.map (e_TService .u)))]⟩
theorem w_an (aZ0:List TService) (sZ4:Int×List TService) (o:(Int×List TService) ⊕ (List TService)) (h:M_an aZ0 sZ4=some o):AWP (OkS Tryz.prog) A16L1 (qL [0,3,4] [3] (S_an aZ0) (qX 0 [3] [3] (SX_an)) o) (S_an aZ0 sZ4):=by
 unfold M_an at h
 simp only [ZC,S_an,A16L1]
 obtain ⟨cZ5,h⟩ | ⟨cZ5,h⟩:=cond_s h
 · obtain ⟨yZ6,hyZ6,h⟩:=bind_s h
   obtain ⟨hyZ6a,hyZ6b⟩:=geti_s hyZ6
   obtain ⟨rZ7,hrZ7,h⟩:=bind_s h
   refine ZF (ZA cZ5 (ZA hyZ6a hyZ6b)) ?_
   refine ZU (ZA cZ5 (ZA hyZ6a hyZ6b)) (w_cu _ hrZ7) ?_
   refine ZG ?_
   obtain ⟨kZ8,hkZ8,h⟩:=bind_s h
   obtain ⟨hkZ8a,hkZ8b⟩:=grd_s hkZ8
   obtain ⟨yZ9,hyZ9,h⟩:=bind_s h
   obtain ⟨lZ10,hlZ10,h⟩:=bnd_s h
   have eZ11:(sZ4.2.map (e_TService .u)).set (Int.toNat sZ4.1) (.agg [.i rZ7.Id,.i rZ7.Class,.i rZ7.Work.Start,.lst .u 1 (rZ7.Work.Fibers.map AV.i),.i rZ7.WorkBlock.First,.i rZ7.WorkBlock.Count,.i rZ7.Spare.Start,.lst .u 1 (rZ7.Spare.Fibers.map AV.i),.i rZ7.SpareBlock.First,.i rZ7.SpareBlock.Count])=lZ10.map (e_TService .u):=by rw [← hlZ10,List.map_set]; rfl
   cases h
   exact ZL (ZA cZ5 (ZA hyZ6a (ZA hyZ6b (ZA hkZ8a (ZA hkZ8b (ZA hyZ9 eZ11)))))) (ZA @S_an.eq_1 (ZA @SX_an.eq_1 hlZ10.symm))
 · cases h
   exact ZL cZ5 (ZA @S_an.eq_1 @SX_an.eq_1)
theorem w_bh (aZ0:List TService) {r:List TService} (h:M_bh aZ0=some r):Ok Tryz.prog 16 [.lst .o 10 (aZ0.map (e_TService .o))] ((fun r=>.lst .u 10 (r.map (e_TService .u))) r):=by
 refine ok_of_body hmix m16 rfl ?_
 unfold M_bh at h
 simp only [ZC,A16,V16,body_eq]
 obtain ⟨uZ1,huZ1,h⟩:=bind_s h
 obtain ⟨huZ11,huZ12,huZ13,huZ14⟩:=grd_s huZ1
 obtain ⟨lZ2,hlZ2,h⟩:=bnd_s h
 have eZ3:List.replicate (Int.toNat (aZ0.length:Int)) (.agg [.i 0,.i 0,.i 0,.lst .u 1 [],.i 0,.i 0,.i 0,.lst .u 1 [],.i 0,.i 0]:AV)=lZ2.map (e_TService .u):=by rw [← hlZ2,List.map_replicate]; rfl
 obtain ⟨oZ12,hoZ12,h⟩:=bind_s h
 try refine ZF (ZA huZ11 (ZA huZ12 (ZA huZ13 (ZA huZ14 eZ3)))) ?_
 refine join_rule0 (blk_rule0 (loop_rule (w_an aZ0) hoZ12 ?_)) ?_
 · exact ZK (ZA @S_an.eq_1 (ZA @SX_an.eq_1 (ZA hlZ2.symm @Zr)))
 · simp only [ZC,SX_an,A16R2]
   cases h
   exact ZL (ZA huZ11 (ZA huZ12 (ZA huZ13 (ZA huZ14 eZ3)))) @V16.eq_1
theorem w_a (xZ0:Int) (aZ0:Int) (bZ0:Int) {r:Bool} (h:M_a xZ0 aZ0 bZ0=some r):Ok Tryz.prog 82 [.i xZ0,.i aZ0,.i bZ0] ((fun r=>.b r) r):=by
 refine ok_of_body hmix m82 rfl ?_
 unfold M_a at h
 simp only [ZC,A82,V82,body_eq]
 obtain ⟨cZ1,h⟩ | ⟨cZ1,h⟩:=cond_s h
 · cases h
   exact ZL cZ1 @V82.eq_1
 · cases h
   exact ZL cZ1 @V82.eq_1
theorem w_ek (bZ0:Int) {r:Bool} (h:M_ek bZ0=some r):Ok Tryz.prog 138 [.sc (.int .u8 bZ0)] ((fun r=>.b r) r):=by
 refine ok_of_body hmix m138 rfl ?_
 unfold M_ek at h
 simp only [ZC,A138,V138,body_eq]
 obtain ⟨cZ1,h⟩ | ⟨cZ1,h⟩:=cond_s h
 · obtain ⟨cZ2,h⟩ | ⟨cZ2,h⟩:=cond_s h
   · cases h
     exact ZL (ZA cZ1 cZ2) @V138.eq_1
   · obtain ⟨cZ3,h⟩ | ⟨cZ3,h⟩:=cond_s h
     · cases h
       exact ZL (ZA cZ1 (ZA cZ2 cZ3)) @V138.eq_1
     · cases h
       exact ZL (ZA cZ1 (ZA cZ2 cZ3)) @V138.eq_1
 · obtain ⟨cZ4,h⟩ | ⟨cZ4,h⟩:=cond_s h
   · cases h
     exact ZL (ZA cZ1 cZ4) @V138.eq_1
   · cases h
     exact ZL (ZA cZ1 cZ4) @V138.eq_1
def S_aw (sZ0:ByteArray) (v:Int):St:=⟨[(0,.z sZ0),(3,.i v)],[]⟩
def SX_aw (v:Unit):St:=⟨[],[]⟩
theorem w_aw (sZ0:ByteArray) (sZ7:Int) (o:Int ⊕ (Unit ⊕ Bool)) (h:M_aw sZ0 sZ7=some o):AWP (OkS Tryz.prog) A120L2 (qL [0,3] [] (S_aw sZ0) (qS (qX 0 [] [] (SX_aw)) (qR V120 (fun r=>.b r))) o) (S_aw sZ0 sZ7):=by
 unfold M_aw at h
 simp only [ZC,S_aw,A120L2]
 obtain ⟨cZ8,h⟩ | ⟨cZ8,h⟩:=cond_s h
 · obtain ⟨yZ9,hyZ9,h⟩:=bind_s h
   obtain ⟨hyZ9a,hyZ9b⟩:=getz_s hyZ9
   obtain ⟨rZ10,hrZ10,h⟩:=bind_s h
   refine ZF (ZA cZ8 (ZA hyZ9a hyZ9b)) ?_
   refine ZS (ZA cZ8 (ZA hyZ9a hyZ9b)) (w_ek _ hrZ10) ?_
   refine ZG ?_
   obtain ⟨cZ11,h⟩ | ⟨cZ11,h⟩:=cond_s h
   · cases h
     exact ZL (ZA cZ8 (ZA hyZ9a (ZA hyZ9b cZ11))) @V120.eq_1
   · cases h
     exact ZL (ZA cZ8 (ZA hyZ9a (ZA hyZ9b cZ11))) (ZA @S_aw.eq_1 @SX_aw.eq_1)
 · cases h
   exact ZL cZ8 (ZA @S_aw.eq_1 @SX_aw.eq_1)
theorem w_el (sZ0:ByteArray) {r:Bool} (h:M_el sZ0=some r):Ok Tryz.prog 120 [.z sZ0] ((fun r=>.b r) r):=by
 refine ok_of_body hmix m120 rfl ?_
 unfold M_el at h
 simp only [ZC,A120,V120,body_eq]
 obtain ⟨oZ5,hoZ5,h⟩:=bind_s h
 try refine ZF trivial ?_
 refine join_rule0 (sh:=(fun v=>⟨[(0,.z sZ0),(17,.b v)],[]⟩)) (s:=oZ5) ?_ ?_
 · replace h:=hoZ5
   obtain ⟨rZ1,hrZ1,h⟩:=bind_s h
   refine ZF trivial ?_
   refine ZS trivial (w_a _ _ _ hrZ1) ?_
   refine ZG ?_
   obtain ⟨cZ2,h⟩ | ⟨cZ2,h⟩:=cond_s h
   · cases h
     exact ZL cZ2 trivial
   · obtain ⟨yZ3,hyZ3,h⟩:=bind_s h
     obtain ⟨hyZ3a,hyZ3b⟩:=getz_s hyZ3
     obtain ⟨cZ4,h⟩ | ⟨cZ4,h⟩:=cond_s h
     · cases h
       exact ZL (ZA cZ2 (ZA hyZ3a (ZA hyZ3b cZ4))) trivial
     · cases h
       exact ZL (ZA cZ2 (ZA hyZ3a (ZA hyZ3b cZ4))) trivial
 · simp only [ZC,A120R1]
   obtain ⟨cZ6,h⟩ | ⟨cZ6,h⟩:=cond_s h
   · cases h
     exact ZL cZ6 @V120.eq_1
   · obtain ⟨oZ12,hoZ12,h⟩:=bind_s h
     try refine ZF cZ6 ?_
     refine join_rule (o:=oZ12) (blk_rule sideR (loop_rule (w_aw sZ0) hoZ12 ?_)) (fun vZ13 hv=>?_) (fun xZ14 hv e τ hne hq=>?_)
     · exact ZK (ZA @S_aw.eq_1 @SX_aw.eq_1)
     · subst hv
       simp only [] at h
       simp only [ZC,SX_aw,A120R3]
       cases h
       exact ZL cZ6 @V120.eq_1
     · subst hv
       simp only [] at h
       obtain ⟨rfl,qZ15⟩:=hq
       cases h
       exact qZ15
def S_ax (listZ0:List ByteArray) (nameZ0:ByteArray) (v:Int):St:=⟨[(0,.lst .o 1 (listZ0.map AV.z)),(1,.z nameZ0),(5,.i v)],[]⟩
def SX_ax (v:Unit):St:=⟨[],[]⟩
theorem w_ax (listZ0:List ByteArray) (nameZ0:ByteArray) (sZ1:Int) (o:Int ⊕ (Unit ⊕ Int)) (h:M_ax listZ0 nameZ0 sZ1=some o):AWP (OkS Tryz.prog) A121L1 (qL [0,1,5] [] (S_ax listZ0 nameZ0) (qS (qX 0 [] [] (SX_ax)) (qR V121 (fun r=>.i r))) o) (S_ax listZ0 nameZ0 sZ1):=by
 unfold M_ax at h
 simp only [ZC,S_ax,A121L1]
 obtain ⟨cZ2,h⟩ | ⟨cZ2,h⟩:=cond_s h
 · obtain ⟨yZ3,hyZ3,h⟩:=bind_s h
   obtain ⟨hyZ3a,hyZ3b⟩:=geti_s hyZ3
   obtain ⟨cZ4,h⟩ | ⟨cZ4,h⟩:=cond_s h
   · cases h
     exact ZL (ZA cZ2 (ZA hyZ3a (ZA hyZ3b cZ4))) @V121.eq_1
   · cases h
     exact ZL (ZA cZ2 (ZA hyZ3a (ZA hyZ3b cZ4))) (ZA @S_ax.eq_1 @SX_ax.eq_1)
 · cases h
   exact ZL cZ2 (ZA @S_ax.eq_1 @SX_ax.eq_1)
theorem w_em (listZ0:List ByteArray) (nameZ0:ByteArray) {r:Int} (h:M_em listZ0 nameZ0=some r):Ok Tryz.prog 121 [.lst .o 1 (listZ0.map AV.z),.z nameZ0] ((fun r=>.i r) r):=by
 refine ok_of_body hmix m121 rfl ?_
 unfold M_em at h
 simp only [ZC,A121,V121,body_eq]
 obtain ⟨oZ5,hoZ5,h⟩:=bind_s h
 try refine ZF trivial ?_
 refine join_rule (o:=oZ5) (blk_rule sideR (loop_rule (w_ax listZ0 nameZ0) hoZ5 ?_)) (fun vZ6 hv=>?_) (fun xZ7 hv e τ hne hq=>?_)
 · exact ZK (ZA @S_ax.eq_1 @SX_ax.eq_1)
 · subst hv
   simp only [] at h
   simp only [ZC,SX_ax,A121R2]
   cases h
   exact ZL trivial @V121.eq_1
 · subst hv
   simp only [] at h
   obtain ⟨rfl,qZ8⟩:=hq
   cases h
   exact qZ8
theorem w_dm (fZ0:TFiber) (nodesZ0:Int) {r:Bool} (h:M_dm fZ0 nodesZ0=some r):Ok Tryz.prog 122 [.agg [.i fZ0.A,.i fZ0.B,.i fZ0.Length,.i fZ0.Risk],.i nodesZ0] ((fun r=>.b r) r):=by
 refine ok_of_body hmix m122 rfl ?_
 unfold M_dm at h
 simp only [ZC,A122,V122,body_eq]
 obtain ⟨rZ1,hrZ1,h⟩:=bind_s h
 refine ZF trivial ?_
 refine ZS trivial (w_a _ _ _ hrZ1) ?_
 refine ZG ?_
 obtain ⟨cZ2,h⟩ | ⟨cZ2,h⟩:=cond_s h
 · obtain ⟨rZ3,hrZ3,h⟩:=bind_s h
   refine ZF cZ2 ?_
   refine ZS cZ2 (w_a _ _ _ hrZ3) ?_
   refine ZG ?_
   obtain ⟨cZ4,h⟩ | ⟨cZ4,h⟩:=cond_s h
   · obtain ⟨rZ5,hrZ5,h⟩:=bind_s h
     refine ZF (ZA cZ2 cZ4) ?_
     refine ZS (ZA cZ2 cZ4) (w_a _ _ _ hrZ5) ?_
     refine ZG ?_
     obtain ⟨cZ6,h⟩ | ⟨cZ6,h⟩:=cond_s h
     · obtain ⟨rZ7,hrZ7,h⟩:=bind_s h
       refine ZF (ZA cZ2 (ZA cZ4 cZ6)) ?_
       refine ZS (ZA cZ2 (ZA cZ4 cZ6)) (w_a _ _ _ hrZ7) ?_
       refine ZG ?_
       cases h
       exact ZL (ZA cZ2 (ZA cZ4 cZ6)) @V122.eq_1
     · cases h
       exact ZL (ZA cZ2 (ZA cZ4 cZ6)) @V122.eq_1
   · cases h
     exact ZL (ZA cZ2 cZ4) @V122.eq_1
 · cases h
   exact ZL cZ2 @V122.eq_1
theorem w_dn (fZ0:TFiber) (gZ0:TFiber) {r:Int} (h:M_dn fZ0 gZ0=some r):Ok Tryz.prog 123 [.agg [.i fZ0.A,.i fZ0.B,.i fZ0.Length,.i fZ0.Risk],.agg [.i gZ0.A,.i gZ0.B,.i gZ0.Length,.i gZ0.Risk]] ((fun r=>.i r) r):=by
 refine ok_of_body hmix m123 rfl ?_
 unfold M_dn at h
 simp only [ZC,A123,V123,body_eq]
 obtain ⟨cZ1,h⟩ | ⟨cZ1,h⟩:=cond_s h
 · cases h
   exact ZL cZ1 @V123.eq_1
 · obtain ⟨cZ2,h⟩ | ⟨cZ2,h⟩:=cond_s h
   · cases h
     exact ZL (ZA cZ1 cZ2) @V123.eq_1
   · obtain ⟨cZ3,h⟩ | ⟨cZ3,h⟩:=cond_s h
     · cases h
       exact ZL (ZA cZ1 (ZA cZ2 cZ3)) @V123.eq_1
     · cases h
       exact ZL (ZA cZ1 (ZA cZ2 cZ3)) @V123.eq_1
def S_aa (nZ0:TNetwork) (v:Int):St:=⟨[(1,.pt 1 0 0),(3,.i v)],[(1,.var (.agg [.lst .o 1 (nZ0.Nodes.map AV.z),.lst .o 4 (nZ0.Fibers.map (e_TFiber .o))]))]⟩
def SX_aa (nZ0:TNetwork) (v:Unit):St:=⟨[(1,.pt 1 0 0)],[(1,.var (.agg [.lst .o 1 (nZ0.Nodes.map AV.z),.lst .o 4 (nZ0.Fibers.map (e_TFiber .o))]))]⟩
theorem w_aa (nZ0:TNetwork) (sZ5:Int) (o:Int ⊕ (Unit ⊕ Bool)) (h:M_aa nZ0 sZ5=some o):AWP (OkS Tryz.prog) A88L3 (qL [1,3] [1] (S_aa nZ0) (qS (qX 0 [1] [1] (SX_aa nZ0)) (qR V88 (fun r=>.b r))) o) (S_aa nZ0 sZ5):=by
 unfold M_aa at h
 simp only [ZC,S_aa,A88L3]
 obtain ⟨cZ6,h⟩ | ⟨cZ6,h⟩:=cond_s h
 · obtain ⟨oZ11,hoZ11,h⟩:=bind_s h
   try refine ZF cZ6 ?_
   refine join_rule0 (sh:=(fun v=>⟨[(1,.pt 1 0 0),(3,.i sZ5),(41,.b v)],[(1,.var (.agg [.lst .o 1 (nZ0.Nodes.map AV.z),.lst .o 4 (nZ0.Fibers.map (e_TFiber .o))]))]⟩)) (s:=oZ11) ?_ ?_
   · replace h:=hoZ11
     obtain ⟨yZ7,hyZ7,h⟩:=bind_s h
     obtain ⟨hyZ7a,hyZ7b⟩:=geti_s hyZ7
     obtain ⟨rZ8,hrZ8,h⟩:=bind_s h
     refine ZF (ZA cZ6 (ZA hyZ7a hyZ7b)) ?_
     refine ZS (ZA cZ6 (ZA hyZ7a hyZ7b)) (w_el _ hrZ8) ?_
     refine ZG ?_
     obtain ⟨cZ9,h⟩ | ⟨cZ9,h⟩:=cond_s h
     · cases h
       exact ZL (ZA cZ6 (ZA hyZ7a (ZA hyZ7b cZ9))) trivial
     · obtain ⟨rZ10,hrZ10,h⟩:=bind_s h
       refine ZF (ZA cZ6 (ZA hyZ7a (ZA hyZ7b cZ9))) ?_
       refine ZS (ZA cZ6 (ZA hyZ7a (ZA hyZ7b cZ9))) (w_em _ _ hrZ10) ?_
       refine ZG ?_
       cases h
       exact ZL (ZA cZ6 (ZA hyZ7a (ZA hyZ7b cZ9))) trivial
   · simp only [ZC,A88R2]
     obtain ⟨cZ12,h⟩ | ⟨cZ12,h⟩:=cond_s h
     · cases h
       exact ZL (ZA cZ6 cZ12) @V88.eq_1
     · cases h
       exact ZL (ZA cZ6 cZ12) (ZA @S_aa.eq_1 @SX_aa.eq_1)
 · cases h
   exact ZL cZ6 (ZA @S_aa.eq_1 @SX_aa.eq_1)
def S_ab (nZ0:TNetwork) (v:Int):St:=⟨[(1,.pt 1 0 0),(4,.i v)],[(1,.var (.agg [.lst .o 1 (nZ0.Nodes.map AV.z),.lst .o 4 (nZ0.Fibers.map (e_TFiber .o))]))]⟩
def SX_ab (v:Unit):St:=⟨[],[]⟩
theorem w_ab (nZ0:TNetwork) (sZ16:Int) (o:Int ⊕ (Unit ⊕ Bool)) (h:M_ab nZ0 sZ16=some o):AWP (OkS Tryz.prog) A88L6 (qL [1,4] [1] (S_ab nZ0) (qS (qX 2 [] [] (SX_ab)) (qR V88 (fun r=>.b r))) o) (S_ab nZ0 sZ16):=by
 unfold M_ab at h
 simp only [ZC,S_ab,A88L6]
 obtain ⟨cZ17,h⟩ | ⟨cZ17,h⟩:=cond_s h
 · obtain ⟨oZ24,hoZ24,h⟩:=bind_s h
   try refine ZF cZ17 ?_
   refine join_rule0 (sh:=(fun v=>⟨[(1,.pt 1 0 0),(4,.i sZ16),(77,.b v)],[(1,.var (.agg [.lst .o 1 (nZ0.Nodes.map AV.z),.lst .o 4 (nZ0.Fibers.map (e_TFiber .o))]))]⟩)) (s:=oZ24) ?_ ?_
   · replace h:=hoZ24
     obtain ⟨yZ18,hyZ18,h⟩:=bind_s h
     obtain ⟨hyZ18a,hyZ18b⟩:=geti_s hyZ18
     obtain ⟨rZ19,hrZ19,h⟩:=bind_s h
     refine ZF (ZA cZ17 (ZA hyZ18a hyZ18b)) ?_
     refine ZS (ZA cZ17 (ZA hyZ18a hyZ18b)) (w_dm _ _ hrZ19) ?_
     refine ZG ?_
     obtain ⟨cZ20,h⟩ | ⟨cZ20,h⟩:=cond_s h
     · cases h
       exact ZL (ZA cZ17 (ZA hyZ18a (ZA hyZ18b cZ20))) trivial
     · obtain ⟨cZ21,h⟩ | ⟨cZ21,h⟩:=cond_s h
       · obtain ⟨yZ22,hyZ22,h⟩:=bind_s h
         obtain ⟨hyZ22a,hyZ22b⟩:=geti_s hyZ22
         obtain ⟨rZ23,hrZ23,h⟩:=bind_s h
         refine ZF (ZA cZ17 (ZA hyZ18a (ZA hyZ18b (ZA cZ20 (ZA cZ21 (ZA hyZ22a hyZ22b)))))) ?_
         refine ZS (ZA cZ17 (ZA hyZ18a (ZA hyZ18b (ZA cZ20 (ZA cZ21 (ZA hyZ22a hyZ22b)))))) (w_dn _ _ hrZ23) ?_
         refine ZG ?_
         cases h
         exact ZL (ZA cZ17 (ZA hyZ18a (ZA hyZ18b (ZA cZ20 (ZA cZ21 (ZA hyZ22a hyZ22b)))))) trivial
       · cases h
         exact ZL (ZA cZ17 (ZA hyZ18a (ZA hyZ18b (ZA cZ20 cZ21)))) trivial
   · simp only [ZC,A88R5]
     obtain ⟨cZ25,h⟩ | ⟨cZ25,h⟩:=cond_s h
     · cases h
       exact ZL (ZA cZ17 cZ25) @V88.eq_1
     · cases h
       exact ZL (ZA cZ17 cZ25) (ZA @S_ab.eq_1 @SX_ab.eq_1)
 · cases h
   exact ZL cZ17 (ZA @S_ab.eq_1 @SX_ab.eq_1)
theorem w_cf (nZ0:TNetwork) {r:Bool} (h:M_cf nZ0=some r):Ok Tryz.prog 88 [.agg [.lst .o 1 (nZ0.Nodes.map AV.z),.lst .o 4 (nZ0.Fibers.map (e_TFiber .o))]] ((fun r=>.b r) r):=by
 refine ok_of_body hmix m88 rfl ?_
 unfold M_cf at h
 simp only [ZC,A88,V88,body_eq]
 obtain ⟨oZ3,hoZ3,h⟩:=bind_s h
 try refine ZF trivial ?_
 refine join_rule0 (sh:=(fun v=>⟨[(1,.pt 1 0 0),(15,.b v)],[(1,.var (.agg [.lst .o 1 (nZ0.Nodes.map AV.z),.lst .o 4 (nZ0.Fibers.map (e_TFiber .o))]))]⟩)) (s:=oZ3) ?_ ?_
 · replace h:=hoZ3
   obtain ⟨rZ1,hrZ1,h⟩:=bind_s h
   refine ZF trivial ?_
   refine ZS trivial (w_a _ _ _ hrZ1) ?_
   refine ZG ?_
   obtain ⟨cZ2,h⟩ | ⟨cZ2,h⟩:=cond_s h
   · cases h
     exact ZL cZ2 trivial
   · cases h
     exact ZL cZ2 trivial
 · simp only [ZC,A88R1]
   obtain ⟨cZ4,h⟩ | ⟨cZ4,h⟩:=cond_s h
   · cases h
     exact ZL cZ4 @V88.eq_1
   · obtain ⟨oZ13,hoZ13,h⟩:=bind_s h
     try refine ZF cZ4 ?_
     refine join_rule (o:=oZ13) (blk_rule sideR (loop_rule (w_aa nZ0) hoZ13 ?_)) (fun vZ14 hv=>?_) (fun xZ15 hv e τ hne hq=>?_)
     · exact ZK (ZA @S_aa.eq_1 @SX_aa.eq_1)
     · subst hv
       simp only [] at h
       simp only [ZC,SX_aa,A88R4]
       obtain ⟨oZ26,hoZ26,h⟩:=bind_s h
       try refine ZF cZ4 ?_
       refine join_rule (o:=oZ26) (blk_rule sideR (loop_rule (w_ab nZ0) hoZ26 ?_)) (fun vZ27 hv=>?_) (fun xZ28 hv e τ hne hq=>?_)
       · exact ZK (ZA @S_ab.eq_1 @SX_ab.eq_1)
       · subst hv
         simp only [] at h
         simp only [ZC,SX_ab,A88R7]
         cases h
         exact ZL cZ4 @V88.eq_1
       · subst hv
         simp only [] at h
         obtain ⟨rfl,qZ29⟩:=hq
         cases h
         exact qZ29
     · subst hv
       simp only [] at h
       obtain ⟨rfl,qZ30⟩:=hq
       cases h
       exact qZ30
theorem w_dd (nZ0:TNetwork) (fiberZ0:Int) (nodeZ0:Int) {r:Int} (h:M_dd nZ0 fiberZ0 nodeZ0=some r):Ok Tryz.prog 148 [.agg [.lst .o 1 (nZ0.Nodes.map AV.z),.lst .o 4 (nZ0.Fibers.map (e_TFiber .o))],.i fiberZ0,.i nodeZ0] ((fun r=>.i r) r):=by
 refine ok_of_body hmix m148 rfl ?_
 unfold M_dd at h
 simp only [ZC,A148,V148,body_eq]
 obtain ⟨yZ1,hyZ1,h⟩:=bind_s h
 obtain ⟨hyZ1a,hyZ1b⟩:=geti_s hyZ1
 obtain ⟨cZ2,h⟩ | ⟨cZ2,h⟩:=cond_s h
 · cases h
   exact ZL (ZA hyZ1a (ZA hyZ1b cZ2)) @V148.eq_1
 · obtain ⟨cZ3,h⟩ | ⟨cZ3,h⟩:=cond_s h
   · cases h
     exact ZL (ZA hyZ1a (ZA hyZ1b (ZA cZ2 cZ3))) @V148.eq_1
   · cases h
     exact ZL (ZA hyZ1a (ZA hyZ1b (ZA cZ2 cZ3))) @V148.eq_1
def S_t (lZ0:List Int) (nZ0:Int) (v:Int):St:=⟨[(0,.lst .o 1 (lZ0.map AV.i)),(1,.i nZ0),(5,.i v)],[]⟩
def SX_t (v:Unit):St:=⟨[],[]⟩
theorem w_t (lZ0:List Int) (nZ0:Int) (sZ1:Int) (o:Int ⊕ (Unit ⊕ Bool)) (h:M_t lZ0 nZ0 sZ1=some o):AWP (OkS Tryz.prog) A73L1 (qL [0,1,5] [] (S_t lZ0 nZ0) (qS (qX 0 [] [] (SX_t)) (qR V73 (fun r=>.b r))) o) (S_t lZ0 nZ0 sZ1):=by
 unfold M_t at h
 simp only [ZC,S_t,A73L1]
 obtain ⟨cZ2,h⟩ | ⟨cZ2,h⟩:=cond_s h
 · obtain ⟨yZ3,hyZ3,h⟩:=bind_s h
   obtain ⟨hyZ3a,hyZ3b⟩:=geti_s hyZ3
   obtain ⟨cZ4,h⟩ | ⟨cZ4,h⟩:=cond_s h
   · cases h
     exact ZL (ZA cZ2 (ZA hyZ3a (ZA hyZ3b cZ4))) @V73.eq_1
   · cases h
     exact ZL (ZA cZ2 (ZA hyZ3a (ZA hyZ3b cZ4))) (ZA @S_t.eq_1 @SX_t.eq_1)
 · cases h
   exact ZL cZ2 (ZA @S_t.eq_1 @SX_t.eq_1)
theorem w_bl (lZ0:List Int) (nZ0:Int) {r:Bool} (h:M_bl lZ0 nZ0=some r):Ok Tryz.prog 73 [.lst .o 1 (lZ0.map AV.i),.i nZ0] ((fun r=>.b r) r):=by
 refine ok_of_body hmix m73 rfl ?_
 unfold M_bl at h
 simp only [ZC,A73,V73,body_eq]
 obtain ⟨oZ5,hoZ5,h⟩:=bind_s h
 try refine ZF trivial ?_
 refine join_rule (o:=oZ5) (blk_rule sideR (loop_rule (w_t lZ0 nZ0) hoZ5 ?_)) (fun vZ6 hv=>?_) (fun xZ7 hv e τ hne hq=>?_)
 · exact ZK (ZA @S_t.eq_1 @SX_t.eq_1)
 · subst hv
   simp only [] at h
   simp only [ZC,SX_t,A73R2]
   cases h
   exact ZL trivial @V73.eq_1
 · subst hv
   simp only [] at h
   obtain ⟨rfl,qZ8⟩:=hq
   cases h
   exact qZ8
def S_ad (nZ0:TNetwork) (rZ0:TRoute) (v:Int×List Int):St:=⟨[(2,.pt 2 0 0),(3,.pt 3 0 0),(6,.sl 6 0 v.2.length),(7,.i v.1)],[(2,.var (.agg [.lst .o 1 (nZ0.Nodes.map AV.z),.lst .o 4 (nZ0.Fibers.map (e_TFiber .o))])),(3,.var (.agg [.i rZ0.Start,.lst .o 1 (rZ0.Fibers.map AV.i)])),(6,.arr 1 (v.2.map AV.i))]⟩
def SX_ad (v:List Int):St:=⟨[(6,.sl 6 0 v.length)],[(6,.arr 1 (v.map AV.i))]⟩
theorem w_ad (nZ0:TNetwork) (rZ0:TRoute) (sZ8:Int×List Int) (o:(Int×List Int) ⊕ ((List Int) ⊕ (List Int×Bool))) (h:M_ad nZ0 rZ0 sZ8=some o):AWP (OkS Tryz.prog) A139L3 (qL [2,3,6,7] [2,3,6] (S_ad nZ0 rZ0) (qS (qX 0 [6] [6] (SX_ad)) (qR V139 (fun r=>.tup [.lst .u 1 (r.1.map AV.i),.b r.2]))) o) (S_ad nZ0 rZ0 sZ8):=by
 unfold M_ad at h
 simp only [ZC,S_ad,A139L3]
 obtain ⟨cZ9,h⟩ | ⟨cZ9,h⟩:=cond_s h
 · obtain ⟨yZ10,hyZ10,h⟩:=bind_s h
   obtain ⟨hyZ10a,hyZ10b⟩:=geti_s hyZ10
   obtain ⟨rZ11,hrZ11,h⟩:=bind_s h
   refine ZF (ZA cZ9 (ZA hyZ10a hyZ10b)) ?_
   refine ZS (ZA cZ9 (ZA hyZ10a hyZ10b)) (w_a _ _ _ hrZ11) ?_
   refine ZG ?_
   obtain ⟨cZ12,h⟩ | ⟨cZ12,h⟩:=cond_s h
   · cases h
     exact ZL (ZA cZ9 (ZA hyZ10a (ZA hyZ10b cZ12))) @V139.eq_1
   · obtain ⟨kZ13,hkZ13,h⟩:=bind_s h
     obtain ⟨hkZ13a,hkZ13b⟩:=grd_s hkZ13
     obtain ⟨yZ14,hyZ14,h⟩:=bind_s h
     obtain ⟨rZ15,hrZ15,h⟩:=bind_s h
     refine ZF (ZA cZ9 (ZA hyZ10a (ZA hyZ10b (ZA cZ12 (ZA hkZ13a (ZA hkZ13b hyZ14)))))) ?_
     refine ZS (ZA cZ9 (ZA hyZ10a (ZA hyZ10b (ZA cZ12 (ZA hkZ13a (ZA hkZ13b hyZ14)))))) (w_dd _ _ _ hrZ15) ?_
     refine ZG ?_
     obtain ⟨oZ18,hoZ18,h⟩:=bind_s h
     try refine ZF (ZA cZ9 (ZA hyZ10a (ZA hyZ10b (ZA cZ12 (ZA hkZ13a (ZA hkZ13b hyZ14)))))) ?_
     refine join_rule0 (sh:=(fun v=>⟨[(2,.pt 2 0 0),(3,.pt 3 0 0),(6,.sl 6 0 sZ8.2.length),(7,.i sZ8.1),(8,.i rZ15),(65,.b v)],[(2,.var (.agg [.lst .o 1 (nZ0.Nodes.map AV.z),.lst .o 4 (nZ0.Fibers.map (e_TFiber .o))])),(3,.var (.agg [.i rZ0.Start,.lst .o 1 (rZ0.Fibers.map AV.i)])),(6,.arr 1 (sZ8.2.map AV.i))]⟩)) (s:=oZ18) ?_ ?_
     · replace h:=hoZ18
       obtain ⟨cZ16,h⟩ | ⟨cZ16,h⟩:=cond_s h
       · cases h
         exact ZL (ZA cZ9 (ZA hyZ10a (ZA hyZ10b (ZA cZ12 (ZA hkZ13a (ZA hkZ13b (ZA hyZ14 cZ16))))))) trivial
       · obtain ⟨rZ17,hrZ17,h⟩:=bind_s h
         refine ZF (ZA cZ9 (ZA hyZ10a (ZA hyZ10b (ZA cZ12 (ZA hkZ13a (ZA hkZ13b (ZA hyZ14 cZ16))))))) ?_
         refine ZS (ZA cZ9 (ZA hyZ10a (ZA hyZ10b (ZA cZ12 (ZA hkZ13a (ZA hkZ13b (ZA hyZ14 cZ16))))))) (w_bl _ _ hrZ17) ?_
         refine ZG ?_
         cases h
         exact ZL (ZA cZ9 (ZA hyZ10a (ZA hyZ10b (ZA cZ12 (ZA hkZ13a (ZA hkZ13b (ZA hyZ14 cZ16))))))) trivial
     · simp only [ZC,A139R2]
       obtain ⟨cZ19,h⟩ | ⟨cZ19,h⟩:=cond_s h
       · cases h
         exact ZL (ZA cZ9 (ZA hyZ10a (ZA hyZ10b (ZA cZ12 (ZA hkZ13a (ZA hkZ13b (ZA hyZ14 cZ19))))))) @V139.eq_1
       · obtain ⟨lZ20,hlZ20,h⟩:=bnd_s h
         have eZ21:Row.arr 1 [(.i rZ15:AV)]=Row.arr 1 (lZ20.map AV.i):=by rw [← hlZ20]; rfl
         have jjZ22:lZ20.length=1:=by rw [← hlZ20]; rfl
         obtain ⟨uZ23,huZ23,h⟩:=bind_s h
         have huZ23g:=grd_s huZ23
         obtain ⟨lZ24,hlZ24,h⟩:=bnd_s h
         have eZ25:sZ8.2.map AV.i++lZ20.map AV.i=lZ24.map AV.i:=by rw [← hlZ24,List.map_append]
         have eZ26:sZ8.2.length+1=lZ24.length:=by simp [← hlZ20,← hlZ24] <;> omega
         rw [eZ26] at huZ23g
         cases h
         exact ZL (ZA cZ9 (ZA hyZ10a (ZA hyZ10b (ZA cZ12 (ZA hkZ13a (ZA hkZ13b (ZA hyZ14 (ZA cZ19 (ZA eZ21 (ZA jjZ22 (ZA huZ23g (ZA eZ25 eZ26)))))))))))) (ZA @S_ad.eq_1 (ZA @SX_ad.eq_1 (ZA hlZ20.symm (ZA hlZ24.symm jjZ22))))
 · cases h
   exact ZL cZ9 (ZA @S_ad.eq_1 @SX_ad.eq_1)
theorem w_ch (nZ0:TNetwork) (rZ0:TRoute) {r:List Int×Bool} (h:M_ch nZ0 rZ0=some r):Ok Tryz.prog 139 [.agg [.lst .o 1 (nZ0.Nodes.map AV.z),.lst .o 4 (nZ0.Fibers.map (e_TFiber .o))],.agg [.i rZ0.Start,.lst .o 1 (rZ0.Fibers.map AV.i)]] ((fun r=>.tup [.lst .u 1 (r.1.map AV.i),.b r.2]) r):=by
 refine ok_of_body hmix m139 rfl ?_
 unfold M_ch at h
 simp only [ZC,A139,V139,body_eq]
 obtain ⟨lZ1,hlZ1,h⟩:=bnd_s h
 have eZ2:Row.arr 1 [(.i rZ0.Start:AV)]=Row.arr 1 (lZ1.map AV.i):=by rw [← hlZ1]; rfl
 have jjZ3:lZ1.length=1:=by rw [← hlZ1]; rfl
 obtain ⟨oZ6,hoZ6,h⟩:=bind_s h
 try refine ZF (ZA eZ2 jjZ3) ?_
 refine join_rule0 (sh:=(fun v=>⟨[(2,.pt 2 0 0),(3,.pt 3 0 0),(6,.sl 6 0 lZ1.length),(25,.b v)],[(2,.var (.agg [.lst .o 1 (nZ0.Nodes.map AV.z),.lst .o 4 (nZ0.Fibers.map (e_TFiber .o))])),(3,.var (.agg [.i rZ0.Start,.lst .o 1 (rZ0.Fibers.map AV.i)])),(6,.arr 1 (lZ1.map AV.i))]⟩)) (s:=oZ6) ?_ ?_
 · replace h:=hoZ6
   obtain ⟨rZ4,hrZ4,h⟩:=bind_s h
   refine ZF (ZA eZ2 jjZ3) ?_
   refine ZS (ZA eZ2 jjZ3) (w_a _ _ _ hrZ4) ?_
   refine ZG ?_
   obtain ⟨cZ5,h⟩ | ⟨cZ5,h⟩:=cond_s h
   · cases h
     exact ZL (ZA eZ2 (ZA jjZ3 cZ5)) (ZA hlZ1.symm jjZ3)
   · cases h
     exact ZL (ZA eZ2 (ZA jjZ3 cZ5)) (ZA hlZ1.symm jjZ3)
 · simp only [ZC,A139R1]
   obtain ⟨cZ7,h⟩ | ⟨cZ7,h⟩:=cond_s h
   · cases h
     exact ZL (ZA eZ2 (ZA jjZ3 cZ7)) (ZA @V139.eq_1 jjZ3)
   · obtain ⟨oZ27,hoZ27,h⟩:=bind_s h
     try refine ZF (ZA eZ2 (ZA jjZ3 cZ7)) ?_
     refine join_rule (o:=oZ27) (blk_rule sideR (loop_rule (w_ad nZ0 rZ0) hoZ27 ?_)) (fun vZ28 hv=>?_) (fun xZ29 hv e τ hne hq=>?_)
     · exact ZK (ZA @S_ad.eq_1 (ZA @SX_ad.eq_1 jjZ3))
     · subst hv
       simp only [] at h
       simp only [ZC,SX_ad,A139R4]
       cases h
       exact ZL (ZA eZ2 (ZA jjZ3 cZ7)) (ZA @V139.eq_1 jjZ3)
     · subst hv
       simp only [] at h
       obtain ⟨rfl,qZ30⟩:=hq
       cases h
       exact qZ30
theorem w_bp (nZ0:TNetwork) (rZ0:TRoute) {r:Bool} (h:M_bp nZ0 rZ0=some r):Ok Tryz.prog 124 [.agg [.lst .o 1 (nZ0.Nodes.map AV.z),.lst .o 4 (nZ0.Fibers.map (e_TFiber .o))],.agg [.i rZ0.Start,.lst .o 1 (rZ0.Fibers.map AV.i)]] ((fun r=>.b r) r):=by
 refine ok_of_body hmix m124 rfl ?_
 unfold M_bp at h
 simp only [ZC,A124,V124,body_eq]
 obtain ⟨rZ1,hrZ1,h⟩:=bind_s h
 refine ZF trivial ?_
 refine ZS trivial (w_cf _ hrZ1) ?_
 refine ZG ?_
 obtain ⟨cZ2,h⟩ | ⟨cZ2,h⟩:=cond_s h
 · cases h
   exact ZL cZ2 @V124.eq_1
 · obtain ⟨rZ3,hrZ3,h⟩:=bind_s h
   refine ZF cZ2 ?_
   refine ZU cZ2 (w_ch _ _ hrZ3) ?_
   refine ZG ?_
   cases h
   exact ZL cZ2 @V124.eq_1
theorem w_bw (bZ0:TBlock) {r:Bool} (h:M_bw bZ0=some r):Ok Tryz.prog 125 [.agg [.i bZ0.First,.i bZ0.Count]] ((fun r=>.b r) r):=by
 refine ok_of_body hmix m125 rfl ?_
 unfold M_bw at h
 simp only [ZC,A125,V125,body_eq]
 obtain ⟨rZ1,hrZ1,h⟩:=bind_s h
 refine ZF trivial ?_
 refine ZS trivial (w_a _ _ _ hrZ1) ?_
 refine ZG ?_
 obtain ⟨cZ2,h⟩ | ⟨cZ2,h⟩:=cond_s h
 · obtain ⟨rZ3,hrZ3,h⟩:=bind_s h
   refine ZF cZ2 ?_
   refine ZS cZ2 (w_a _ _ _ hrZ3) ?_
   refine ZG ?_
   cases h
   exact ZL cZ2 @V125.eq_1
 · cases h
   exact ZL cZ2 @V125.eq_1
theorem w_eq (nZ0:TNetwork) (rZ0:TRoute) {r:List Int} (h:M_eq nZ0 rZ0=some r):Ok Tryz.prog 140 [.agg [.lst .o 1 (nZ0.Nodes.map AV.z),.lst .o 4 (nZ0.Fibers.map (e_TFiber .o))],.agg [.i rZ0.Start,.lst .o 1 (rZ0.Fibers.map AV.i)]] ((fun r=>.lst .u 1 (r.map AV.i)) r):=by
 refine ok_of_body hmix m140 rfl ?_
 unfold M_eq at h
 simp only [ZC,A140,V140,body_eq]
 obtain ⟨rZ1,hrZ1,h⟩:=bind_s h
 refine ZF trivial ?_
 refine ZU trivial (w_ch _ _ hrZ1) ?_
 refine ZG ?_
 cases h
 exact ZL trivial @V140.eq_1
theorem w_bt (nZ0:TNetwork) (rZ0:TRoute) {r:Int} (h:M_bt nZ0 rZ0=some r):Ok Tryz.prog 126 [.agg [.lst .o 1 (nZ0.Nodes.map AV.z),.lst .o 4 (nZ0.Fibers.map (e_TFiber .o))],.agg [.i rZ0.Start,.lst .o 1 (rZ0.Fibers.map AV.i)]] ((fun r=>.i r) r):=by
 refine ok_of_body hmix m126 rfl ?_
 unfold M_bt at h
 simp only [ZC,A126,V126,body_eq]
 obtain ⟨rZ1,hrZ1,h⟩:=bind_s h
 refine ZF trivial ?_
 refine ZU trivial (w_eq _ _ hrZ1) ?_
 refine ZG ?_
 obtain ⟨kZ2,hkZ2,h⟩:=bind_s h
 obtain ⟨hkZ2a,hkZ2b⟩:=grd_s hkZ2
 obtain ⟨yZ3,hyZ3,h⟩:=bind_s h
 cases h
 exact ZL (ZA hkZ2a (ZA hkZ2b hyZ3)) @V126.eq_1
def S_m (nZ0:TNetwork) (fiberZ0:Int) (v:Int×List Int):St:=⟨[(1,.i fiberZ0),(2,.pt 2 0 0),(5,.sl 5 0 v.2.length),(6,.i v.1)],[(2,.var (.agg [.lst .o 1 (nZ0.Nodes.map AV.z),.lst .o 4 (nZ0.Fibers.map (e_TFiber .o))])),(5,.arr 1 (v.2.map AV.i))]⟩
def SX_m (v:List Int):St:=⟨[(5,.sl 5 0 v.length)],[(5,.arr 1 (v.map AV.i))]⟩
theorem w_m (nZ0:TNetwork) (fiberZ0:Int) (sZ7:Int×List Int) (o:(Int×List Int) ⊕ (List Int)) (h:M_m nZ0 fiberZ0 sZ7=some o):AWP (OkS Tryz.prog) A107L1 (qL [1,2,5,6] [2,5] (S_m nZ0 fiberZ0) (qX 0 [5] [5] (SX_m)) o) (S_m nZ0 fiberZ0 sZ7):=by
 unfold M_m at h
 simp only [ZC,S_m,A107L1]
 obtain ⟨cZ8,h⟩ | ⟨cZ8,h⟩:=cond_s h
 · obtain ⟨yZ9,hyZ9,h⟩:=bind_s h
   obtain ⟨hyZ9a,hyZ9b⟩:=geti_s hyZ9
   obtain ⟨yZ10,hyZ10,h⟩:=bind_s h
   obtain ⟨hyZ10a,hyZ10b⟩:=geti_s hyZ10
   obtain ⟨cZ11,h⟩ | ⟨cZ11,h⟩:=cond_s h
   · obtain ⟨lZ12,hlZ12,h⟩:=bnd_s h
     have eZ13:Row.arr 1 [(.i sZ7.1:AV)]=Row.arr 1 (lZ12.map AV.i):=by rw [← hlZ12]; rfl
     have jjZ14:lZ12.length=1:=by rw [← hlZ12]; rfl
     obtain ⟨uZ15,huZ15,h⟩:=bind_s h
     have huZ15g:=grd_s huZ15
     obtain ⟨lZ16,hlZ16,h⟩:=bnd_s h
     have eZ17:sZ7.2.map AV.i++lZ12.map AV.i=lZ16.map AV.i:=by rw [← hlZ16,List.map_append]
     have eZ18:sZ7.2.length+1=lZ16.length:=by simp [← hlZ12,← hlZ16] <;> omega
     rw [eZ18] at huZ15g
     cases h
     exact ZL (ZA cZ8 (ZA hyZ9a (ZA hyZ9b (ZA hyZ10a (ZA hyZ10b (ZA cZ11 (ZA eZ13 (ZA jjZ14 (ZA huZ15g (ZA eZ17 eZ18)))))))))) (ZA @S_m.eq_1 (ZA @SX_m.eq_1 (ZA hlZ12.symm (ZA hlZ16.symm jjZ14))))
   · cases h
     exact ZL (ZA cZ8 (ZA hyZ9a (ZA hyZ9b (ZA hyZ10a (ZA hyZ10b cZ11))))) (ZA @S_m.eq_1 @SX_m.eq_1)
 · cases h
   exact ZL cZ8 (ZA @S_m.eq_1 @SX_m.eq_1)
theorem w_cc (nZ0:TNetwork) (fiberZ0:Int) {r:List Int} (h:M_cc nZ0 fiberZ0=some r):Ok Tryz.prog 107 [.agg [.lst .o 1 (nZ0.Nodes.map AV.z),.lst .o 4 (nZ0.Fibers.map (e_TFiber .o))],.i fiberZ0] ((fun r=>.lst .u 1 (r.map AV.i)) r):=by
 refine ok_of_body hmix m107 rfl ?_
 unfold M_cc at h
 simp only [ZC,A107,V107,body_eq]
 obtain ⟨yZ1,hyZ1,h⟩:=bind_s h
 obtain ⟨hyZ1a,hyZ1b⟩:=geti_s hyZ1
 obtain ⟨cZ2,h⟩ | ⟨cZ2,h⟩:=cond_s h
 · obtain ⟨lZ3,hlZ3,h⟩:=bnd_s h
   have eZ4:Row.arr 1 [(.i fiberZ0:AV)]=Row.arr 1 (lZ3.map AV.i):=by rw [← hlZ3]; rfl
   have jjZ5:lZ3.length=1:=by rw [← hlZ3]; rfl
   have nZ6:sub (lZ3.map AV.i) 0 1=lZ3.map AV.i:=sub_n _ (by simp [← hlZ3])
   cases h
   exact ZL (ZA hyZ1a (ZA hyZ1b (ZA cZ2 (ZA eZ4 (ZA jjZ5 nZ6))))) (ZA @V107.eq_1 (ZA hlZ3.symm jjZ5))
 · obtain ⟨oZ19,hoZ19,h⟩:=bind_s h
   try refine ZF (ZA hyZ1a (ZA hyZ1b cZ2)) ?_
   refine join_rule0 (blk_rule0 (loop_rule (w_m nZ0 fiberZ0) hoZ19 ?_)) ?_
   · exact ZK (ZA @S_m.eq_1 @SX_m.eq_1)
   · simp only [ZC,SX_m,A107R2]
     cases h
     exact ZL (ZA hyZ1a (ZA hyZ1b cZ2)) @V107.eq_1
def S_p (nZ0:TNetwork) (aZ0:TRoute) (bZ0:TRoute) (sZ1:Int) (rZ4:List Int) (v:Int):St:=⟨[(3,.pt 3 0 0),(4,.pt 4 0 0),(5,.pt 5 0 0),(7,.i sZ1),(8,.sl 8 0 rZ4.length),(9,.i v)],[(3,.var (.agg [.lst .o 1 (nZ0.Nodes.map AV.z),.lst .o 4 (nZ0.Fibers.map (e_TFiber .o))])),(4,.var (.agg [.i aZ0.Start,.lst .o 1 (aZ0.Fibers.map AV.i)])),(5,.var (.agg [.i bZ0.Start,.lst .o 1 (bZ0.Fibers.map AV.i)])),(8,.arr 1 (rZ4.map AV.i))]⟩
def SX_p (nZ0:TNetwork) (aZ0:TRoute) (bZ0:TRoute) (sZ1:Int) (v:Unit):St:=⟨[(3,.pt 3 0 0),(4,.pt 4 0 0),(5,.pt 5 0 0),(7,.i sZ1)],[(3,.var (.agg [.lst .o 1 (nZ0.Nodes.map AV.z),.lst .o 4 (nZ0.Fibers.map (e_TFiber .o))])),(4,.var (.agg [.i aZ0.Start,.lst .o 1 (aZ0.Fibers.map AV.i)])),(5,.var (.agg [.i bZ0.Start,.lst .o 1 (bZ0.Fibers.map AV.i)]))]⟩
theorem w_p (nZ0:TNetwork) (aZ0:TRoute) (bZ0:TRoute) (sZ1:Int) (rZ4:List Int) (sZ5:Int) (o:Int ⊕ (Unit ⊕ Bool)) (h:M_p bZ0 rZ4 sZ5=some o):AWP (OkS Tryz.prog) A127L1 (qL [3,4,5,7,8,9] [3,4,5,8] (S_p nZ0 aZ0 bZ0 sZ1 rZ4) (qS (qX 2 [3,4,5,7] [3,4,5] (SX_p nZ0 aZ0 bZ0 sZ1)) (qR V127 (fun r=>.b r))) o) (S_p nZ0 aZ0 bZ0 sZ1 rZ4 sZ5):=by
 unfold M_p at h
 simp only [ZC,S_p,A127L1]
 obtain ⟨cZ6,h⟩ | ⟨cZ6,h⟩:=cond_s h
 · obtain ⟨yZ7,hyZ7,h⟩:=bind_s h
   obtain ⟨hyZ7a,hyZ7b⟩:=geti_s hyZ7
   obtain ⟨rZ8,hrZ8,h⟩:=bind_s h
   refine ZF (ZA cZ6 (ZA hyZ7a hyZ7b)) ?_
   refine ZS (ZA cZ6 (ZA hyZ7a hyZ7b)) (w_bl _ _ hrZ8) ?_
   refine ZG ?_
   obtain ⟨cZ9,h⟩ | ⟨cZ9,h⟩:=cond_s h
   · cases h
     exact ZL (ZA cZ6 (ZA hyZ7a (ZA hyZ7b cZ9))) @V127.eq_1
   · cases h
     exact ZL (ZA cZ6 (ZA hyZ7a (ZA hyZ7b cZ9))) (ZA @S_p.eq_1 @SX_p.eq_1)
 · cases h
   exact ZL cZ6 (ZA @S_p.eq_1 @SX_p.eq_1)
def S_x (nZ0:TNetwork) (aZ0:TRoute) (bZ0:TRoute) (v:Int):St:=⟨[(3,.pt 3 0 0),(4,.pt 4 0 0),(5,.pt 5 0 0),(7,.i v)],[(3,.var (.agg [.lst .o 1 (nZ0.Nodes.map AV.z),.lst .o 4 (nZ0.Fibers.map (e_TFiber .o))])),(4,.var (.agg [.i aZ0.Start,.lst .o 1 (aZ0.Fibers.map AV.i)])),(5,.var (.agg [.i bZ0.Start,.lst .o 1 (bZ0.Fibers.map AV.i)]))]⟩
def SX_x (v:Unit):St:=⟨[],[]⟩
theorem w_x (nZ0:TNetwork) (aZ0:TRoute) (bZ0:TRoute) (sZ1:Int) (o:Int ⊕ (Unit ⊕ Bool)) (h:M_x nZ0 aZ0 bZ0 sZ1=some o):AWP (OkS Tryz.prog) A127L3 (qL [3,4,5,7] [3,4,5] (S_x nZ0 aZ0 bZ0) (qS (qX 0 [] [] (SX_x)) (qR V127 (fun r=>.b r))) o) (S_x nZ0 aZ0 bZ0 sZ1):=by
 unfold M_x at h
 simp only [ZC,S_x,A127L3]
 obtain ⟨cZ2,h⟩ | ⟨cZ2,h⟩:=cond_s h
 · obtain ⟨oZ15,hoZ15,h⟩:=bind_s h
   try refine ZF cZ2 ?_
   refine join_rule (sh:=(fun v=>⟨[(3,.pt 3 0 0),(4,.pt 4 0 0),(5,.pt 5 0 0),(7,.i sZ1)],[(3,.var (.agg [.lst .o 1 (nZ0.Nodes.map AV.z),.lst .o 4 (nZ0.Fibers.map (e_TFiber .o))])),(4,.var (.agg [.i aZ0.Start,.lst .o 1 (aZ0.Fibers.map AV.i)])),(5,.var (.agg [.i bZ0.Start,.lst .o 1 (bZ0.Fibers.map AV.i)]))]⟩)) (q:=(qR V127 (fun r=>.b r))) (o:=oZ15) ?_ (fun vZ16 hv=>?_) (fun xZ17 hv e τ hne hq=>?_)
   · replace h:=hoZ15
     obtain ⟨yZ3,hyZ3,h⟩:=bind_s h
     obtain ⟨hyZ3a,hyZ3b⟩:=geti_s hyZ3
     obtain ⟨rZ4,hrZ4,h⟩:=bind_s h
     refine ZF (ZA cZ2 (ZA hyZ3a hyZ3b)) ?_
     refine ZU (ZA cZ2 (ZA hyZ3a hyZ3b)) (w_cc _ _ hrZ4) ?_
     refine ZG ?_
     obtain ⟨oZ10,hoZ10,h⟩:=bind_s h
     try refine ZF (ZA cZ2 (ZA hyZ3a hyZ3b)) ?_
     first | refine tail_rule (o:=oZ10) (blk_rule sideR (loop_rule (w_p nZ0 aZ0 bZ0 sZ1 rZ4) hoZ10 ?_)) (fun vZ11 hv τ qZ13=>?_) (fun xZ12 hv e τ hne hq=>?_) | refine tail_blk (o:=oZ10) sideR (loop_rule (w_p nZ0 aZ0 bZ0 sZ1 rZ4) hoZ10 ?_) (fun vZ11 hv τ qZ13=>?_) (fun xZ12 hv e τ hne hq=>?_)
     · exact ZK (ZA @S_p.eq_1 @SX_p.eq_1)
     · subst hv
       simp only [] at h
       cases h
       try refine ZF trivial ?_
       refine ⟨rfl,Shp.sub qZ13 (by decide) (by decide) ?_⟩
       exact ZK @SX_p.eq_1
     · subst hv
       simp only [] at h
       obtain ⟨rfl,qZ14⟩:=hq
       cases h
       try refine ZF trivial ?_
       first | exact ⟨by simp,qZ14⟩ | exact ⟨by simp,rfl,qZ14⟩
   · subst hv
     simp only [] at h
     simp only [ZC,A127R2]
     cases h
     exact ZL cZ2 (ZA @S_x.eq_1 @SX_x.eq_1)
   · subst hv
     simp only [] at h
     obtain ⟨rfl,qZ18⟩:=hq
     cases h
     try refine ZF trivial ?_
     first | exact ⟨by simp,qZ18⟩ | exact ⟨by simp,rfl,qZ18⟩
 · cases h
   exact ZL cZ2 (ZA @S_x.eq_1 @SX_x.eq_1)
theorem w_cd (nZ0:TNetwork) (aZ0:TRoute) (bZ0:TRoute) {r:Bool} (h:M_cd nZ0 aZ0 bZ0=some r):Ok Tryz.prog 127 [.agg [.lst .o 1 (nZ0.Nodes.map AV.z),.lst .o 4 (nZ0.Fibers.map (e_TFiber .o))],.agg [.i aZ0.Start,.lst .o 1 (aZ0.Fibers.map AV.i)],.agg [.i bZ0.Start,.lst .o 1 (bZ0.Fibers.map AV.i)]] ((fun r=>.b r) r):=by
 refine ok_of_body hmix m127 rfl ?_
 unfold M_cd at h
 simp only [ZC,A127,V127,body_eq]
 obtain ⟨oZ19,hoZ19,h⟩:=bind_s h
 try refine ZF trivial ?_
 refine join_rule (o:=oZ19) (blk_rule sideR (loop_rule (w_x nZ0 aZ0 bZ0) hoZ19 ?_)) (fun vZ20 hv=>?_) (fun xZ21 hv e τ hne hq=>?_)
 · exact ZK (ZA @S_x.eq_1 @SX_x.eq_1)
 · subst hv
   simp only [] at h
   simp only [ZC,SX_x,A127R4]
   cases h
   exact ZL trivial @V127.eq_1
 · subst hv
   simp only [] at h
   obtain ⟨rfl,qZ22⟩:=hq
   cases h
   exact qZ22
theorem w_cw (nZ0:TNetwork) (sZ0:TService) {r:Bool} (h:M_cw nZ0 sZ0=some r):Ok Tryz.prog 89 [.agg [.lst .o 1 (nZ0.Nodes.map AV.z),.lst .o 4 (nZ0.Fibers.map (e_TFiber .o))],.agg [.i sZ0.Id,.i sZ0.Class,.i sZ0.Work.Start,.lst .o 1 (sZ0.Work.Fibers.map AV.i),.i sZ0.WorkBlock.First,.i sZ0.WorkBlock.Count,.i sZ0.Spare.Start,.lst .o 1 (sZ0.Spare.Fibers.map AV.i),.i sZ0.SpareBlock.First,.i sZ0.SpareBlock.Count]] ((fun r=>.b r) r):=by
 refine ok_of_body hmix m89 rfl ?_
 unfold M_cw at h
 simp only [ZC,A89,V89,body_eq]
 obtain ⟨oZ8,hoZ8,h⟩:=bind_s h
 try refine ZF trivial ?_
 refine join_rule0 (sh:=(fun v=>⟨[(2,.pt 2 0 0),(3,.pt 3 0 0),(27,.b v)],[(2,.var (.agg [.lst .o 1 (nZ0.Nodes.map AV.z),.lst .o 4 (nZ0.Fibers.map (e_TFiber .o))])),(3,.var (.agg [.i sZ0.Id,.i sZ0.Class,.i sZ0.Work.Start,.lst .o 1 (sZ0.Work.Fibers.map AV.i),.i sZ0.WorkBlock.First,.i sZ0.WorkBlock.Count,.i sZ0.Spare.Start,.lst .o 1 (sZ0.Spare.Fibers.map AV.i),.i sZ0.SpareBlock.First,.i sZ0.SpareBlock.Count]))]⟩)) (s:=oZ8) ?_ ?_
 · replace h:=hoZ8
   obtain ⟨rZ1,hrZ1,h⟩:=bind_s h
   refine ZF trivial ?_
   refine ZS trivial (w_a _ _ _ hrZ1) ?_
   refine ZG ?_
   obtain ⟨cZ2,h⟩ | ⟨cZ2,h⟩:=cond_s h
   · cases h
     exact ZL cZ2 trivial
   · obtain ⟨rZ3,hrZ3,h⟩:=bind_s h
     refine ZF cZ2 ?_
     refine ZS cZ2 (w_a _ _ _ hrZ3) ?_
     refine ZG ?_
     obtain ⟨cZ4,h⟩ | ⟨cZ4,h⟩:=cond_s h
     · cases h
       exact ZL (ZA cZ2 cZ4) trivial
     · obtain ⟨rZ5,hrZ5,h⟩:=bind_s h
       refine ZF (ZA cZ2 cZ4) ?_
       refine ZS (ZA cZ2 cZ4) (w_bp _ _ hrZ5) ?_
       refine ZG ?_
       obtain ⟨cZ6,h⟩ | ⟨cZ6,h⟩:=cond_s h
       · cases h
         exact ZL (ZA cZ2 (ZA cZ4 cZ6)) trivial
       · obtain ⟨rZ7,hrZ7,h⟩:=bind_s h
         refine ZF (ZA cZ2 (ZA cZ4 cZ6)) ?_
         refine ZS (ZA cZ2 (ZA cZ4 cZ6)) (w_bw _ hrZ7) ?_
         refine ZG ?_
         cases h
         exact ZL (ZA cZ2 (ZA cZ4 cZ6)) trivial
 · simp only [ZC,A89R1]
   obtain ⟨cZ9,h⟩ | ⟨cZ9,h⟩:=cond_s h
   · cases h
     exact ZL cZ9 @V89.eq_1
   · obtain ⟨cZ10,h⟩ | ⟨cZ10,h⟩:=cond_s h
     · obtain ⟨oZ13,hoZ13,h⟩:=bind_s h
       try refine ZF (ZA cZ9 cZ10) ?_
       refine join_rule0 (sh:=(fun v=>⟨[(4,.b v)],[]⟩)) (s:=oZ13) ?_ ?_
       · replace h:=hoZ13
         obtain ⟨cZ11,h⟩ | ⟨cZ11,h⟩:=cond_s h
         · obtain ⟨cZ12,h⟩ | ⟨cZ12,h⟩:=cond_s h
           · cases h
             exact ZL (ZA cZ9 (ZA cZ10 (ZA cZ11 cZ12))) trivial
           · cases h
             exact ZL (ZA cZ9 (ZA cZ10 (ZA cZ11 cZ12))) trivial
         · cases h
           exact ZL (ZA cZ9 (ZA cZ10 cZ11)) trivial
       · simp only [ZC,A89R2]
         cases h
         exact ZL (ZA cZ9 cZ10) @V89.eq_1
     · obtain ⟨rZ14,hrZ14,h⟩:=bind_s h
       refine ZF (ZA cZ9 cZ10) ?_
       refine ZS (ZA cZ9 cZ10) (w_bp _ _ hrZ14) ?_
       refine ZG ?_
       obtain ⟨cZ15,h⟩ | ⟨cZ15,h⟩:=cond_s h
       · obtain ⟨rZ16,hrZ16,h⟩:=bind_s h
         refine ZF (ZA cZ9 (ZA cZ10 cZ15)) ?_
         refine ZS (ZA cZ9 (ZA cZ10 cZ15)) (w_bw _ hrZ16) ?_
         refine ZG ?_
         obtain ⟨cZ17,h⟩ | ⟨cZ17,h⟩:=cond_s h
         · obtain ⟨cZ18,h⟩ | ⟨cZ18,h⟩:=cond_s h
           · obtain ⟨rZ19,hrZ19,h⟩:=bind_s h
             refine ZF (ZA cZ9 (ZA cZ10 (ZA cZ15 (ZA cZ17 cZ18)))) ?_
             refine ZS (ZA cZ9 (ZA cZ10 (ZA cZ15 (ZA cZ17 cZ18)))) (w_bt _ _ hrZ19) ?_
             refine ZG ?_
             obtain ⟨rZ20,hrZ20,h⟩:=bind_s h
             refine ZF (ZA cZ9 (ZA cZ10 (ZA cZ15 (ZA cZ17 cZ18)))) ?_
             refine ZS (ZA cZ9 (ZA cZ10 (ZA cZ15 (ZA cZ17 cZ18)))) (w_bt _ _ hrZ20) ?_
             refine ZG ?_
             obtain ⟨cZ21,h⟩ | ⟨cZ21,h⟩:=cond_s h
             · obtain ⟨rZ22,hrZ22,h⟩:=bind_s h
               refine ZF (ZA cZ9 (ZA cZ10 (ZA cZ15 (ZA cZ17 (ZA cZ18 cZ21))))) ?_
               refine ZS (ZA cZ9 (ZA cZ10 (ZA cZ15 (ZA cZ17 (ZA cZ18 cZ21))))) (w_cd _ _ _ hrZ22) ?_
               refine ZG ?_
               cases h
               exact ZL (ZA cZ9 (ZA cZ10 (ZA cZ15 (ZA cZ17 (ZA cZ18 cZ21))))) @V89.eq_1
             · cases h
               exact ZL (ZA cZ9 (ZA cZ10 (ZA cZ15 (ZA cZ17 (ZA cZ18 cZ21))))) @V89.eq_1
           · cases h
             exact ZL (ZA cZ9 (ZA cZ10 (ZA cZ15 (ZA cZ17 cZ18)))) @V89.eq_1
         · cases h
           exact ZL (ZA cZ9 (ZA cZ10 (ZA cZ15 cZ17))) @V89.eq_1
       · cases h
         exact ZL (ZA cZ9 (ZA cZ10 cZ15)) @V89.eq_1
def S_u (rZ0:TRoute) (groupZ0:List Int) (v:Int):St:=⟨[(1,.lst .o 1 (groupZ0.map AV.i)),(2,.pt 2 0 0),(5,.i v)],[(2,.var (.agg [.i rZ0.Start,.lst .o 1 (rZ0.Fibers.map AV.i)]))]⟩
def SX_u (v:Unit):St:=⟨[],[]⟩
theorem w_u (rZ0:TRoute) (groupZ0:List Int) (sZ1:Int) (o:Int ⊕ (Unit ⊕ Bool)) (h:M_u rZ0 groupZ0 sZ1=some o):AWP (OkS Tryz.prog) A110L1 (qL [1,2,5] [2] (S_u rZ0 groupZ0) (qS (qX 0 [] [] (SX_u)) (qR V110 (fun r=>.b r))) o) (S_u rZ0 groupZ0 sZ1):=by
 unfold M_u at h
 simp only [ZC,S_u,A110L1]
 obtain ⟨cZ2,h⟩ | ⟨cZ2,h⟩:=cond_s h
 · obtain ⟨yZ3,hyZ3,h⟩:=bind_s h
   obtain ⟨hyZ3a,hyZ3b⟩:=geti_s hyZ3
   obtain ⟨rZ4,hrZ4,h⟩:=bind_s h
   refine ZF (ZA cZ2 (ZA hyZ3a hyZ3b)) ?_
   refine ZS (ZA cZ2 (ZA hyZ3a hyZ3b)) (w_bl _ _ hrZ4) ?_
   refine ZG ?_
   obtain ⟨cZ5,h⟩ | ⟨cZ5,h⟩:=cond_s h
   · cases h
     exact ZL (ZA cZ2 (ZA hyZ3a (ZA hyZ3b cZ5))) @V110.eq_1
   · cases h
     exact ZL (ZA cZ2 (ZA hyZ3a (ZA hyZ3b cZ5))) (ZA @S_u.eq_1 @SX_u.eq_1)
 · cases h
   exact ZL cZ2 (ZA @S_u.eq_1 @SX_u.eq_1)
theorem w_de (rZ0:TRoute) (groupZ0:List Int) {r:Bool} (h:M_de rZ0 groupZ0=some r):Ok Tryz.prog 110 [.agg [.i rZ0.Start,.lst .o 1 (rZ0.Fibers.map AV.i)],.lst .o 1 (groupZ0.map AV.i)] ((fun r=>.b r) r):=by
 refine ok_of_body hmix m110 rfl ?_
 unfold M_de at h
 simp only [ZC,A110,V110,body_eq]
 obtain ⟨oZ6,hoZ6,h⟩:=bind_s h
 try refine ZF trivial ?_
 refine join_rule (o:=oZ6) (blk_rule sideR (loop_rule (w_u rZ0 groupZ0) hoZ6 ?_)) (fun vZ7 hv=>?_) (fun xZ8 hv e τ hne hq=>?_)
 · exact ZK (ZA @S_u.eq_1 @SX_u.eq_1)
 · subst hv
   simp only [] at h
   simp only [ZC,SX_u,A110R2]
   cases h
   exact ZL trivial @V110.eq_1
 · subst hv
   simp only [] at h
   obtain ⟨rfl,qZ9⟩:=hq
   cases h
   exact qZ9
theorem w_bz (bZ0:TBlock) {r:Int} (h:M_bz bZ0=some r):Ok Tryz.prog 78 [.agg [.i bZ0.First,.i bZ0.Count]] ((fun r=>.i r) r):=by
 refine ok_of_body hmix m78 rfl ?_
 unfold M_bz at h
 simp only [ZC,A78,V78,body_eq]
 obtain ⟨uZ1,huZ1,h⟩:=bind_s h
 have huZ1g:=grd_s huZ1
 obtain ⟨uZ2,huZ2,h⟩:=bind_s h
 have huZ2g:=grd_s huZ2
 cases h
 exact ZL (ZA huZ1g huZ2g) @V78.eq_1
theorem w_bf (aZ0:TRoute) (xZ0:TBlock) (bZ0:TRoute) (yZ0:TBlock) {r:Bool} (h:M_bf aZ0 xZ0 bZ0 yZ0=some r):Ok Tryz.prog 111 [.agg [.i aZ0.Start,.lst .o 1 (aZ0.Fibers.map AV.i)],.agg [.i xZ0.First,.i xZ0.Count],.agg [.i bZ0.Start,.lst .o 1 (bZ0.Fibers.map AV.i)],.agg [.i yZ0.First,.i yZ0.Count]] ((fun r=>.b r) r):=by
 refine ok_of_body hmix m111 rfl ?_
 unfold M_bf at h
 simp only [ZC,A111,V111,body_eq]
 obtain ⟨rZ1,hrZ1,h⟩:=bind_s h
 refine ZF trivial ?_
 refine ZS trivial (w_de _ _ hrZ1) ?_
 refine ZG ?_
 obtain ⟨cZ2,h⟩ | ⟨cZ2,h⟩:=cond_s h
 · obtain ⟨cZ3,h⟩ | ⟨cZ3,h⟩:=cond_s h
   · obtain ⟨cZ4,h⟩ | ⟨cZ4,h⟩:=cond_s h
     · obtain ⟨rZ5,hrZ5,h⟩:=bind_s h
       refine ZF (ZA cZ2 (ZA cZ3 cZ4)) ?_
       refine ZS (ZA cZ2 (ZA cZ3 cZ4)) (w_bz _ hrZ5) ?_
       refine ZG ?_
       obtain ⟨rZ6,hrZ6,h⟩:=bind_s h
       refine ZF (ZA cZ2 (ZA cZ3 cZ4)) ?_
       refine ZS (ZA cZ2 (ZA cZ3 cZ4)) (w_bz _ hrZ6) ?_
       refine ZG ?_
       cases h
       exact ZL (ZA cZ2 (ZA cZ3 cZ4)) @V111.eq_1
     · cases h
       exact ZL (ZA cZ2 (ZA cZ3 cZ4)) @V111.eq_1
   · cases h
     exact ZL (ZA cZ2 cZ3) @V111.eq_1
 · cases h
   exact ZL cZ2 @V111.eq_1
theorem w_cz (nZ0:TNetwork) (aZ0:TService) (bZ0:TService) {r:Bool} (h:M_cz nZ0 aZ0 bZ0=some r):Ok Tryz.prog 90 [.agg [.lst .o 1 (nZ0.Nodes.map AV.z),.lst .o 4 (nZ0.Fibers.map (e_TFiber .o))],.agg [.i aZ0.Id,.i aZ0.Class,.i aZ0.Work.Start,.lst .o 1 (aZ0.Work.Fibers.map AV.i),.i aZ0.WorkBlock.First,.i aZ0.WorkBlock.Count,.i aZ0.Spare.Start,.lst .o 1 (aZ0.Spare.Fibers.map AV.i),.i aZ0.SpareBlock.First,.i aZ0.SpareBlock.Count],.agg [.i bZ0.Id,.i bZ0.Class,.i bZ0.Work.Start,.lst .o 1 (bZ0.Work.Fibers.map AV.i),.i bZ0.WorkBlock.First,.i bZ0.WorkBlock.Count,.i bZ0.Spare.Start,.lst .o 1 (bZ0.Spare.Fibers.map AV.i),.i bZ0.SpareBlock.First,.i bZ0.SpareBlock.Count]] ((fun r=>.b r) r):=by
 refine ok_of_body hmix m90 rfl ?_
 unfold M_cz at h
 simp only [ZC,A90,V90,body_eq]
 obtain ⟨oZ6,hoZ6,h⟩:=bind_s h
 try refine ZF trivial ?_
 refine join_rule0 (sh:=(fun v=>⟨[(3,.pt 3 0 0),(4,.pt 4 0 0),(5,.pt 5 0 0),(37,.b v)],[(3,.var (.agg [.lst .o 1 (nZ0.Nodes.map AV.z),.lst .o 4 (nZ0.Fibers.map (e_TFiber .o))])),(4,.var (.agg [.i aZ0.Id,.i aZ0.Class,.i aZ0.Work.Start,.lst .o 1 (aZ0.Work.Fibers.map AV.i),.i aZ0.WorkBlock.First,.i aZ0.WorkBlock.Count,.i aZ0.Spare.Start,.lst .o 1 (aZ0.Spare.Fibers.map AV.i),.i aZ0.SpareBlock.First,.i aZ0.SpareBlock.Count])),(5,.var (.agg [.i bZ0.Id,.i bZ0.Class,.i bZ0.Work.Start,.lst .o 1 (bZ0.Work.Fibers.map AV.i),.i bZ0.WorkBlock.First,.i bZ0.WorkBlock.Count,.i bZ0.Spare.Start,.lst .o 1 (bZ0.Spare.Fibers.map AV.i),.i bZ0.SpareBlock.First,.i bZ0.SpareBlock.Count]))]⟩)) (s:=oZ6) ?_ ?_
 · replace h:=hoZ6
   obtain ⟨rZ1,hrZ1,h⟩:=bind_s h
   refine ZF trivial ?_
   refine ZS trivial (w_bf _ _ _ _ hrZ1) ?_
   refine ZG ?_
   obtain ⟨cZ2,h⟩ | ⟨cZ2,h⟩:=cond_s h
   · cases h
     exact ZL cZ2 trivial
   · obtain ⟨rZ3,hrZ3,h⟩:=bind_s h
     refine ZF cZ2 ?_
     refine ZS cZ2 (w_bf _ _ _ _ hrZ3) ?_
     refine ZG ?_
     obtain ⟨cZ4,h⟩ | ⟨cZ4,h⟩:=cond_s h
     · cases h
       exact ZL (ZA cZ2 cZ4) trivial
     · obtain ⟨rZ5,hrZ5,h⟩:=bind_s h
       refine ZF (ZA cZ2 cZ4) ?_
       refine ZS (ZA cZ2 cZ4) (w_bf _ _ _ _ hrZ5) ?_
       refine ZG ?_
       cases h
       exact ZL (ZA cZ2 cZ4) trivial
 · simp only [ZC,A90R1]
   obtain ⟨cZ7,h⟩ | ⟨cZ7,h⟩:=cond_s h
   · cases h
     exact ZL cZ7 @V90.eq_1
   · obtain ⟨oZ11,hoZ11,h⟩:=bind_s h
     try refine ZF cZ7 ?_
     refine join_rule0 (sh:=(fun v=>⟨[(4,.pt 4 0 0),(5,.pt 5 0 0),(53,.b v)],[(4,.var (.agg [.i aZ0.Id,.i aZ0.Class,.i aZ0.Work.Start,.lst .o 1 (aZ0.Work.Fibers.map AV.i),.i aZ0.WorkBlock.First,.i aZ0.WorkBlock.Count,.i aZ0.Spare.Start,.lst .o 1 (aZ0.Spare.Fibers.map AV.i),.i aZ0.SpareBlock.First,.i aZ0.SpareBlock.Count])),(5,.var (.agg [.i bZ0.Id,.i bZ0.Class,.i bZ0.Work.Start,.lst .o 1 (bZ0.Work.Fibers.map AV.i),.i bZ0.WorkBlock.First,.i bZ0.WorkBlock.Count,.i bZ0.Spare.Start,.lst .o 1 (bZ0.Spare.Fibers.map AV.i),.i bZ0.SpareBlock.First,.i bZ0.SpareBlock.Count]))]⟩)) (s:=oZ11) ?_ ?_
     · replace h:=hoZ11
       obtain ⟨cZ8,h⟩ | ⟨cZ8,h⟩:=cond_s h
       · obtain ⟨cZ9,h⟩ | ⟨cZ9,h⟩:=cond_s h
         · obtain ⟨rZ10,hrZ10,h⟩:=bind_s h
           refine ZF (ZA cZ7 (ZA cZ8 cZ9)) ?_
           refine ZS (ZA cZ7 (ZA cZ8 cZ9)) (w_cd _ _ _ hrZ10) ?_
           refine ZG ?_
           cases h
           exact ZL (ZA cZ7 (ZA cZ8 cZ9)) trivial
         · cases h
           exact ZL (ZA cZ7 (ZA cZ8 cZ9)) trivial
       · cases h
         exact ZL (ZA cZ7 cZ8) trivial
     · simp only [ZC,A90R2]
       obtain ⟨cZ12,h⟩ | ⟨cZ12,h⟩:=cond_s h
       · cases h
         exact ZL (ZA cZ7 cZ12) @V90.eq_1
       · obtain ⟨rZ13,hrZ13,h⟩:=bind_s h
         refine ZF (ZA cZ7 cZ12) ?_
         refine ZS (ZA cZ7 cZ12) (w_bf _ _ _ _ hrZ13) ?_
         refine ZG ?_
         cases h
         exact ZL (ZA cZ7 cZ12) @V90.eq_1
def S_g (nZ0:TNetwork) (listZ0:List TService) (sZ5:Int) (v:Int):St:=⟨[(1,.lst .o 10 (listZ0.map (e_TService .o))),(2,.pt 2 0 0),(5,.i sZ5),(6,.i v)],[(2,.var (.agg [.lst .o 1 (nZ0.Nodes.map AV.z),.lst .o 4 (nZ0.Fibers.map (e_TFiber .o))]))]⟩
def SX_g (nZ0:TNetwork) (listZ0:List TService) (sZ5:Int) (v:Unit):St:=⟨[(1,.lst .o 10 (listZ0.map (e_TService .o))),(2,.pt 2 0 0),(5,.i sZ5)],[(2,.var (.agg [.lst .o 1 (nZ0.Nodes.map AV.z),.lst .o 4 (nZ0.Fibers.map (e_TFiber .o))]))]⟩
theorem w_g (nZ0:TNetwork) (listZ0:List TService) (sZ5:Int) (sZ14:Int) (o:Int ⊕ (Unit ⊕ Bool)) (h:M_g nZ0 listZ0 sZ5 sZ14=some o):AWP (OkS Tryz.prog) A46L3 (qL [1,2,5,6] [2] (S_g nZ0 listZ0 sZ5) (qS (qX 2 [1,2,5] [2] (SX_g nZ0 listZ0 sZ5)) (qR V46 (fun r=>.b r))) o) (S_g nZ0 listZ0 sZ5 sZ14):=by
 unfold M_g at h
 simp only [ZC,S_g,A46L3]
 obtain ⟨cZ15,h⟩ | ⟨cZ15,h⟩:=cond_s h
 · obtain ⟨yZ16,hyZ16,h⟩:=bind_s h
   obtain ⟨hyZ16a,hyZ16b⟩:=geti_s hyZ16
   obtain ⟨yZ17,hyZ17,h⟩:=bind_s h
   obtain ⟨hyZ17a,hyZ17b⟩:=geti_s hyZ17
   obtain ⟨rZ18,hrZ18,h⟩:=bind_s h
   refine ZF (ZA cZ15 (ZA hyZ16a (ZA hyZ16b (ZA hyZ17a hyZ17b)))) ?_
   refine ZS (ZA cZ15 (ZA hyZ16a (ZA hyZ16b (ZA hyZ17a hyZ17b)))) (w_cz _ _ _ hrZ18) ?_
   refine ZG ?_
   obtain ⟨cZ19,h⟩ | ⟨cZ19,h⟩:=cond_s h
   · cases h
     exact ZL (ZA cZ15 (ZA hyZ16a (ZA hyZ16b (ZA hyZ17a (ZA hyZ17b cZ19))))) @V46.eq_1
   · cases h
     exact ZL (ZA cZ15 (ZA hyZ16a (ZA hyZ16b (ZA hyZ17a (ZA hyZ17b cZ19))))) (ZA @S_g.eq_1 @SX_g.eq_1)
 · cases h
   exact ZL cZ15 (ZA @S_g.eq_1 @SX_g.eq_1)
def S_r (nZ0:TNetwork) (listZ0:List TService) (v:Int):St:=⟨[(1,.lst .o 10 (listZ0.map (e_TService .o))),(2,.pt 2 0 0),(5,.i v)],[(2,.var (.agg [.lst .o 1 (nZ0.Nodes.map AV.z),.lst .o 4 (nZ0.Fibers.map (e_TFiber .o))]))]⟩
def SX_r (v:Unit):St:=⟨[],[]⟩
theorem w_r (nZ0:TNetwork) (listZ0:List TService) (sZ5:Int) (o:Int ⊕ (Unit ⊕ Bool)) (h:M_r nZ0 listZ0 sZ5=some o):AWP (OkS Tryz.prog) A46L5 (qL [1,2,5] [2] (S_r nZ0 listZ0) (qS (qX 0 [] [] (SX_r)) (qR V46 (fun r=>.b r))) o) (S_r nZ0 listZ0 sZ5):=by
 unfold M_r at h
 simp only [ZC,S_r,A46L5]
 obtain ⟨cZ6,h⟩ | ⟨cZ6,h⟩:=cond_s h
 · obtain ⟨oZ25,hoZ25,h⟩:=bind_s h
   try refine ZF cZ6 ?_
   refine join_rule (sh:=(fun v=>⟨[(1,.lst .o 10 (listZ0.map (e_TService .o))),(2,.pt 2 0 0),(5,.i sZ5)],[(2,.var (.agg [.lst .o 1 (nZ0.Nodes.map AV.z),.lst .o 4 (nZ0.Fibers.map (e_TFiber .o))]))]⟩)) (q:=(qR V46 (fun r=>.b r))) (o:=oZ25) ?_ (fun vZ26 hv=>?_) (fun xZ27 hv e τ hne hq=>?_)
   · replace h:=hoZ25
     obtain ⟨oZ12,hoZ12,h⟩:=bind_s h
     try refine ZF cZ6 ?_
     refine join_rule0 (sh:=(fun v=>⟨[(1,.lst .o 10 (listZ0.map (e_TService .o))),(2,.pt 2 0 0),(5,.i sZ5),(45,.b v)],[(2,.var (.agg [.lst .o 1 (nZ0.Nodes.map AV.z),.lst .o 4 (nZ0.Fibers.map (e_TFiber .o))]))]⟩)) (s:=oZ12) ?_ ?_
     · replace h:=hoZ12
       obtain ⟨yZ7,hyZ7,h⟩:=bind_s h
       obtain ⟨hyZ7a,hyZ7b⟩:=geti_s hyZ7
       obtain ⟨rZ8,hrZ8,h⟩:=bind_s h
       refine ZF (ZA cZ6 (ZA hyZ7a hyZ7b)) ?_
       refine ZS (ZA cZ6 (ZA hyZ7a hyZ7b)) (w_cw _ _ hrZ8) ?_
       refine ZG ?_
       obtain ⟨cZ9,h⟩ | ⟨cZ9,h⟩:=cond_s h
       · cases h
         exact ZL (ZA cZ6 (ZA hyZ7a (ZA hyZ7b cZ9))) trivial
       · obtain ⟨cZ10,h⟩ | ⟨cZ10,h⟩:=cond_s h
         · obtain ⟨yZ11,hyZ11,h⟩:=bind_s h
           obtain ⟨hyZ11a,hyZ11b⟩:=geti_s hyZ11
           cases h
           exact ZL (ZA cZ6 (ZA hyZ7a (ZA hyZ7b (ZA cZ9 (ZA cZ10 (ZA hyZ11a hyZ11b)))))) trivial
         · cases h
           exact ZL (ZA cZ6 (ZA hyZ7a (ZA hyZ7b (ZA cZ9 cZ10)))) trivial
     · simp only [ZC,A46R2]
       obtain ⟨cZ13,h⟩ | ⟨cZ13,h⟩:=cond_s h
       · cases h
         exact ZL (ZA cZ6 cZ13) @V46.eq_1
       · obtain ⟨oZ20,hoZ20,h⟩:=bind_s h
         try refine ZF (ZA cZ6 cZ13) ?_
         first | refine tail_rule (o:=oZ20) (blk_rule sideR (loop_rule (w_g nZ0 listZ0 sZ5) hoZ20 ?_)) (fun vZ21 hv τ qZ23=>?_) (fun xZ22 hv e τ hne hq=>?_) | refine tail_blk (o:=oZ20) sideR (loop_rule (w_g nZ0 listZ0 sZ5) hoZ20 ?_) (fun vZ21 hv τ qZ23=>?_) (fun xZ22 hv e τ hne hq=>?_)
         · exact ZK (ZA @S_g.eq_1 @SX_g.eq_1)
         · subst hv
           simp only [] at h
           cases h
           try refine ZF trivial ?_
           refine ⟨rfl,Shp.sub qZ23 (by decide) (by decide) ?_⟩
           exact ZK @SX_g.eq_1
         · subst hv
           simp only [] at h
           obtain ⟨rfl,qZ24⟩:=hq
           cases h
           try refine ZF trivial ?_
           first | exact ⟨by simp,qZ24⟩ | exact ⟨by simp,rfl,qZ24⟩
   · subst hv
     simp only [] at h
     simp only [ZC,A46R4]
     cases h
     exact ZL cZ6 (ZA @S_r.eq_1 @SX_r.eq_1)
   · subst hv
     simp only [] at h
     obtain ⟨rfl,qZ28⟩:=hq
     cases h
     try refine ZF trivial ?_
     first | exact ⟨by simp,qZ28⟩ | exact ⟨by simp,rfl,qZ28⟩
 · cases h
   exact ZL cZ6 (ZA @S_r.eq_1 @SX_r.eq_1)
theorem w_db (nZ0:TNetwork) (listZ0:List TService) {r:Bool} (h:M_db nZ0 listZ0=some r):Ok Tryz.prog 46 [.agg [.lst .o 1 (nZ0.Nodes.map AV.z),.lst .o 4 (nZ0.Fibers.map (e_TFiber .o))],.lst .o 10 (listZ0.map (e_TService .o))] ((fun r=>.b r) r):=by
 refine ok_of_body hmix m46 rfl ?_
 unfold M_db at h
 simp only [ZC,A46,V46,body_eq]
 obtain ⟨oZ3,hoZ3,h⟩:=bind_s h
 try refine ZF trivial ?_
 refine join_rule0 (sh:=(fun v=>⟨[(1,.lst .o 10 (listZ0.map (e_TService .o))),(2,.pt 2 0 0),(14,.b v)],[(2,.var (.agg [.lst .o 1 (nZ0.Nodes.map AV.z),.lst .o 4 (nZ0.Fibers.map (e_TFiber .o))]))]⟩)) (s:=oZ3) ?_ ?_
 · replace h:=hoZ3
   obtain ⟨rZ1,hrZ1,h⟩:=bind_s h
   refine ZF trivial ?_
   refine ZS trivial (w_cf _ hrZ1) ?_
   refine ZG ?_
   obtain ⟨cZ2,h⟩ | ⟨cZ2,h⟩:=cond_s h
   · cases h
     exact ZL cZ2 trivial
   · cases h
     exact ZL cZ2 trivial
 · simp only [ZC,A46R1]
   obtain ⟨cZ4,h⟩ | ⟨cZ4,h⟩:=cond_s h
   · cases h
     exact ZL cZ4 @V46.eq_1
   · obtain ⟨oZ29,hoZ29,h⟩:=bind_s h
     try refine ZF cZ4 ?_
     refine join_rule (o:=oZ29) (blk_rule sideR (loop_rule (w_r nZ0 listZ0) hoZ29 ?_)) (fun vZ30 hv=>?_) (fun xZ31 hv e τ hne hq=>?_)
     · exact ZK (ZA @S_r.eq_1 @SX_r.eq_1)
     · subst hv
       simp only [] at h
       simp only [ZC,SX_r,A46R6]
       cases h
       exact ZL cZ4 @V46.eq_1
     · subst hv
       simp only [] at h
       obtain ⟨rfl,qZ32⟩:=hq
       cases h
       exact qZ32
theorem w_et (lZ0:List Int) {r:List Int} (h:M_et lZ0=some r):Ok Tryz.prog 118 [.lst .o 1 (lZ0.map AV.i)] ((fun r=>.lst .u 1 (r.map AV.i)) r):=by
 refine ok_of_body hmix m118 rfl ?_
 unfold M_et at h
 simp only [ZC,A118,V118,body_eq]
 obtain ⟨uZ1,huZ1,h⟩:=bind_s h
 have huZ1g:=grd_s huZ1
 cases h
 exact ZL huZ1g @V118.eq_1
theorem w_cr (rZ0:TRoute) {r:TRoute} (h:M_cr rZ0=some r):Ok Tryz.prog 108 [.agg [.i rZ0.Start,.lst .o 1 (rZ0.Fibers.map AV.i)]] ((fun r=>.agg [.i r.Start,.lst .u 1 (r.Fibers.map AV.i)]) r):=by
 refine ok_of_body hmix m108 rfl ?_
 unfold M_cr at h
 simp only [ZC,A108,V108,body_eq]
 obtain ⟨rZ1,hrZ1,h⟩:=bind_s h
 refine ZF trivial ?_
 refine ZU trivial (w_et _ hrZ1) ?_
 refine ZG ?_
 cases h
 exact ZL trivial @V108.eq_1
theorem w_dj (sZ0:TService) {r:TService} (h:M_dj sZ0=some r):Ok Tryz.prog 68 [.agg [.i sZ0.Id,.i sZ0.Class,.i sZ0.Work.Start,.lst .o 1 (sZ0.Work.Fibers.map AV.i),.i sZ0.WorkBlock.First,.i sZ0.WorkBlock.Count,.i sZ0.Spare.Start,.lst .o 1 (sZ0.Spare.Fibers.map AV.i),.i sZ0.SpareBlock.First,.i sZ0.SpareBlock.Count]] ((fun r=>.agg [.i r.Id,.i r.Class,.i r.Work.Start,.lst .u 1 (r.Work.Fibers.map AV.i),.i r.WorkBlock.First,.i r.WorkBlock.Count,.i r.Spare.Start,.lst .u 1 (r.Spare.Fibers.map AV.i),.i r.SpareBlock.First,.i r.SpareBlock.Count]) r):=by
 refine ok_of_body hmix m68 rfl ?_
 unfold M_dj at h
 simp only [ZC,A68,V68,body_eq]
 obtain ⟨rZ1,hrZ1,h⟩:=bind_s h
 refine ZF trivial ?_
 refine ZU trivial (w_cr _ hrZ1) ?_
 refine ZG ?_
 obtain ⟨rZ2,hrZ2,h⟩:=bind_s h
 refine ZF trivial ?_
 refine ZU trivial (w_cr _ hrZ2) ?_
 refine ZG ?_
 cases h
 exact ZL trivial @V68.eq_1
def S_h (listZ0:List TService) (idZ0:Int) (v:Int×List TService):St:=⟨[(1,.lst .o 10 (listZ0.map (e_TService .o))),(2,.i idZ0),(8,.sl 8 0 v.2.length),(9,.i v.1)],[(8,.arr 10 (v.2.map (e_TService .u)))]⟩
def SX_h (listZ0:List TService) (v:List TService):St:=⟨[(1,.lst .o 10 (listZ0.map (e_TService .o))),(8,.sl 8 0 v.length)],[(8,.arr 10 (v.map (e_TService .u)))]⟩
theorem w_h (listZ0:List TService) (idZ0:Int) (sZ3:Int×List TService) (o:(Int×List TService) ⊕ (List TService)) (h:M_h listZ0 idZ0 sZ3=some o):AWP (OkS Tryz.prog) A30L1 (qL [1,2,8,9] [8] (S_h listZ0 idZ0) (qX 0 [1,8] [8] (SX_h listZ0)) o) (S_h listZ0 idZ0 sZ3):=by
 unfold M_h at h
 simp only [ZC,S_h,A30L1]
 obtain ⟨cZ4,h⟩ | ⟨cZ4,h⟩:=cond_s h
 · obtain ⟨yZ5,hyZ5,h⟩:=bind_s h
   obtain ⟨hyZ5a,hyZ5b⟩:=geti_s hyZ5
   obtain ⟨cZ6,h⟩ | ⟨cZ6,h⟩:=cond_s h
   · obtain ⟨rZ7,hrZ7,h⟩:=bind_s h
     refine ZF (ZA cZ4 (ZA hyZ5a (ZA hyZ5b cZ6))) ?_
     refine ZU (ZA cZ4 (ZA hyZ5a (ZA hyZ5b cZ6))) (w_dj _ hrZ7) ?_
     refine ZG ?_
     obtain ⟨lZ8,hlZ8,h⟩:=bnd_s h
     have eZ9:Row.arr 10 [(.agg [.i rZ7.Id,.i rZ7.Class,.i rZ7.Work.Start,.lst .u 1 (rZ7.Work.Fibers.map AV.i),.i rZ7.WorkBlock.First,.i rZ7.WorkBlock.Count,.i rZ7.Spare.Start,.lst .u 1 (rZ7.Spare.Fibers.map AV.i),.i rZ7.SpareBlock.First,.i rZ7.SpareBlock.Count]:AV)]=Row.arr 10 (lZ8.map (e_TService .u)):=by rw [← hlZ8]; rfl
     have jjZ10:lZ8.length=1:=by rw [← hlZ8]; rfl
     obtain ⟨uZ11,huZ11,h⟩:=bind_s h
     have huZ11g:=grd_s huZ11
     obtain ⟨lZ12,hlZ12,h⟩:=bnd_s h
     have eZ13:sZ3.2.map (e_TService .u)++lZ8.map (e_TService .u)=lZ12.map (e_TService .u):=by rw [← hlZ12,List.map_append]
     have eZ14:sZ3.2.length+1=lZ12.length:=by simp [← hlZ8,← hlZ12] <;> omega
     rw [eZ14] at huZ11g
     cases h
     exact ZL (ZA cZ4 (ZA hyZ5a (ZA hyZ5b (ZA cZ6 (ZA eZ9 (ZA jjZ10 (ZA huZ11g (ZA eZ13 eZ14)))))))) (ZA @S_h.eq_1 (ZA @SX_h.eq_1 (ZA hlZ8.symm (ZA hlZ12.symm jjZ10))))
   · cases h
     exact ZL (ZA cZ4 (ZA hyZ5a (ZA hyZ5b cZ6))) (ZA @S_h.eq_1 @SX_h.eq_1)
 · cases h
   exact ZL cZ4 (ZA @S_h.eq_1 @SX_h.eq_1)
theorem w_dk (nZ0:TNetwork) (listZ0:List TService) (idZ0:Int) {r:List TService×Bool} (h:M_dk nZ0 listZ0 idZ0=some r):Ok Tryz.prog 30 [.agg [.lst .o 1 (nZ0.Nodes.map AV.z),.lst .o 4 (nZ0.Fibers.map (e_TFiber .o))],.lst .o 10 (listZ0.map (e_TService .o)),.i idZ0] ((fun r=>.tup [.lst .u 10 (r.1.map (e_TService .u)),.b r.2]) r):=by
 refine ok_of_body hmix m30 rfl ?_
 unfold M_dk at h
 simp only [ZC,A30,V30,body_eq]
 obtain ⟨rZ1,hrZ1,h⟩:=bind_s h
 refine ZF trivial ?_
 refine ZS trivial (w_db _ _ hrZ1) ?_
 refine ZG ?_
 obtain ⟨cZ2,h⟩ | ⟨cZ2,h⟩:=cond_s h
 · cases h
   exact ZL cZ2 @V30.eq_1
 · obtain ⟨oZ15,hoZ15,h⟩:=bind_s h
   try refine ZF cZ2 ?_
   refine join_rule0 (blk_rule0 (loop_rule (w_h listZ0 idZ0) hoZ15 ?_)) ?_
   · exact ZK (ZA @S_h.eq_1 @SX_h.eq_1)
   · simp only [ZC,SX_h,A30R2]
     obtain ⟨cZ16,h⟩ | ⟨cZ16,h⟩:=cond_s h
     · cases h
       exact ZL (ZA cZ2 cZ16) @V30.eq_1
     · cases h
       exact ZL (ZA cZ2 cZ16) @V30.eq_1
theorem w_eu (sZ0:TService) (p1Z0:Int) {r:Bool} (h:M_eu sZ0 p1Z0=some r):Ok Tryz.prog 70 [.agg [.i sZ0.Id,.i sZ0.Class,.i sZ0.Work.Start,.lst .o 1 (sZ0.Work.Fibers.map AV.i),.i sZ0.WorkBlock.First,.i sZ0.WorkBlock.Count,.i sZ0.Spare.Start,.lst .o 1 (sZ0.Spare.Fibers.map AV.i),.i sZ0.SpareBlock.First,.i sZ0.SpareBlock.Count],.bp .o (.i p1Z0) 0] ((fun r=>.b r) r):=by
 refine ok_of_body hmix m70 rfl ?_
 unfold M_eu at h
 simp only [ZC,A70,V70,body_eq]
 cases h
 exact ZL trivial @V70.eq_1
def S_b (sZ0:List TService) (F_fZ0:Nat) (C_fZ0:List AV) (v:Int):St:=⟨[(0,.lst .o 10 (sZ0.map (e_TService .o))),(1,.fn F_fZ0 C_fZ0),(7,.i (sZ0.length:Int)),(8,.i v)],[]⟩
def SX_b (v:Unit):St:=⟨[],[]⟩
theorem w_b (sZ0:List TService) (fZ0:TService→Option Bool) (F_fZ0:Nat) (C_fZ0:List AV) (hC_fZ0:Fixed C_fZ0) (hf_fZ0:∀ (x0:TService) (r:Bool),fZ0 x0=some r→Ok Tryz.prog F_fZ0 ((.agg [.i x0.Id,.i x0.Class,.i x0.Work.Start,.lst .o 1 (x0.Work.Fibers.map AV.i),.i x0.WorkBlock.First,.i x0.WorkBlock.Count,.i x0.Spare.Start,.lst .o 1 (x0.Spare.Fibers.map AV.i),.i x0.SpareBlock.First,.i x0.SpareBlock.Count])::C_fZ0) (.b r)) (sZ1:Int) (o:Int ⊕ (Unit ⊕ Int)) (h:M_b sZ0 fZ0 sZ1=some o):AWP (OkS Tryz.prog) A69L1 (qL [0,1,7,8] [] (S_b sZ0 F_fZ0 C_fZ0) (qS (qX 0 [] [] (SX_b)) (qR V69 (fun r=>.i r))) o) (S_b sZ0 F_fZ0 C_fZ0 sZ1):=by
 unfold M_b at h
 simp only [ZC,S_b,A69L1]
 obtain ⟨cZ2,h⟩ | ⟨cZ2,h⟩:=cond_s h
 · obtain ⟨yZ3,hyZ3,h⟩:=bind_s h
   obtain ⟨hyZ3a,hyZ3b⟩:=geti_s hyZ3
   obtain ⟨rZ4,hrZ4,h⟩:=bind_s h
   refine ZF (ZA cZ2 (ZA hyZ3a hyZ3b)) ?_
   refine ZS (ZA cZ2 (ZA hyZ3a (ZA hyZ3b hC_fZ0.1))) (hf_fZ0 _ _ hrZ4) ?_
   refine ZG ?_
   obtain ⟨cZ5,h⟩ | ⟨cZ5,h⟩:=cond_s h
   · cases h
     exact ZL (ZA cZ2 (ZA hyZ3a (ZA hyZ3b cZ5))) (ZA @V69.eq_1 (ZA hC_fZ0.2 ((fixed_ren hC_fZ0))))
   · cases h
     exact ZL (ZA cZ2 (ZA hyZ3a (ZA hyZ3b cZ5))) (ZA @S_b.eq_1 (ZA @SX_b.eq_1 (ZA hC_fZ0.2 ((fixed_ren hC_fZ0)))))
 · cases h
   exact ZL cZ2 (ZA @S_b.eq_1 (ZA @SX_b.eq_1 (ZA hC_fZ0.2 ((fixed_ren hC_fZ0)))))
theorem w_br (sZ0:List TService) (fZ0:TService→Option Bool) {r:Int} (h:M_br sZ0 fZ0=some r) (F_fZ0:Nat) (C_fZ0:List AV) (hC_fZ0:Fixed C_fZ0) (hf_fZ0:∀ (x0:TService) (r:Bool),fZ0 x0=some r→Ok Tryz.prog F_fZ0 ((.agg [.i x0.Id,.i x0.Class,.i x0.Work.Start,.lst .o 1 (x0.Work.Fibers.map AV.i),.i x0.WorkBlock.First,.i x0.WorkBlock.Count,.i x0.Spare.Start,.lst .o 1 (x0.Spare.Fibers.map AV.i),.i x0.SpareBlock.First,.i x0.SpareBlock.Count])::C_fZ0) (.b r)):Ok Tryz.prog 69 [.lst .o 10 (sZ0.map (e_TService .o)),.fn F_fZ0 C_fZ0] ((fun r=>.i r) r):=by
 refine ok_of_body hmix m69 rfl ?_
 unfold M_br at h
 simp only [ZC,A69,V69,body_eq]
 obtain ⟨oZ6,hoZ6,h⟩:=bind_s h
 try refine ZF trivial ?_
 refine join_rule (o:=oZ6) (blk_rule sideR (loop_rule (w_b sZ0 fZ0 F_fZ0 C_fZ0 hC_fZ0 hf_fZ0) hoZ6 ?_)) (fun vZ7 hv=>?_) (fun xZ8 hv e τ hne hq=>?_)
 · exact ZK (ZA @S_b.eq_1 (ZA @SX_b.eq_1 (ZA hC_fZ0.2 ((fixed_ren hC_fZ0)))))
 · subst hv
   simp only [] at h
   simp only [ZC,SX_b,A69R2]
   cases h
   exact ZL trivial (ZA @V69.eq_1 (ZA hC_fZ0.2 ((fixed_ren hC_fZ0))))
 · subst hv
   simp only [] at h
   obtain ⟨rfl,qZ9⟩:=hq
   cases h
   exact qZ9
theorem w_n (nZ0:Int) (lowZ0:Int) (highZ0:Int) {r:Bool} (h:M_n nZ0 lowZ0 highZ0=some r):Ok Tryz.prog 84 [.i nZ0,.i lowZ0,.i highZ0] ((fun r=>.b r) r):=by
 refine ok_of_body hmix m84 rfl ?_
 unfold M_n at h
 simp only [ZC,A84,V84,body_eq]
 obtain ⟨cZ1,h⟩ | ⟨cZ1,h⟩:=cond_s h
 · cases h
   exact ZL cZ1 @V84.eq_1
 · cases h
   exact ZL cZ1 @V84.eq_1
def S_o (sZ0:ByteArray) (v:Int):St:=⟨[(0,.z sZ0),(7,.i (sZ0.size:Int)),(8,.i v)],[]⟩
def SX_o (sZ0:ByteArray) (v:Unit):St:=⟨[(0,.z sZ0)],[]⟩
theorem w_o (sZ0:ByteArray) (sZ1:Int) (o:Int ⊕ (Unit ⊕ Bool)) (h:M_o sZ0 sZ1=some o):AWP (OkS Tryz.prog) A128L2 (qL [0,7,8] [] (S_o sZ0) (qS (qX 0 [0] [] (SX_o sZ0)) (qR V128 (fun r=>.b r))) o) (S_o sZ0 sZ1):=by
 unfold M_o at h
 simp only [ZC,S_o,A128L2]
 obtain ⟨cZ2,h⟩ | ⟨cZ2,h⟩:=cond_s h
 · obtain ⟨oZ7,hoZ7,h⟩:=bind_s h
   try refine ZF cZ2 ?_
   refine join_rule0 (sh:=(fun v=>⟨[(0,.z sZ0),(3,.i sZ1),(4,.b v.1),(5,.b v.2),(7,.i (sZ0.size:Int)),(8,.i sZ1)],[]⟩)) (s:=oZ7) ?_ ?_
   · replace h:=hoZ7
     obtain ⟨yZ3,hyZ3,h⟩:=bind_s h
     obtain ⟨hyZ3a,hyZ3b⟩:=getz_s hyZ3
     obtain ⟨cZ4,h⟩ | ⟨cZ4,h⟩:=cond_s h
     · obtain ⟨cZ5,h⟩ | ⟨cZ5,h⟩:=cond_s h
       · cases h
         exact ZL (ZA cZ2 (ZA hyZ3a (ZA hyZ3b (ZA cZ4 cZ5)))) trivial
       · cases h
         exact ZL (ZA cZ2 (ZA hyZ3a (ZA hyZ3b (ZA cZ4 cZ5)))) trivial
     · obtain ⟨cZ6,h⟩ | ⟨cZ6,h⟩:=cond_s h
       · cases h
         exact ZL (ZA cZ2 (ZA hyZ3a (ZA hyZ3b (ZA cZ4 cZ6)))) trivial
       · cases h
         exact ZL (ZA cZ2 (ZA hyZ3a (ZA hyZ3b (ZA cZ4 cZ6)))) trivial
   · simp only [ZC,A128R1]
     obtain ⟨cZ8,h⟩ | ⟨cZ8,h⟩:=cond_s h
     · obtain ⟨cZ9,h⟩ | ⟨cZ9,h⟩:=cond_s h
       · cases h
         exact ZL (ZA cZ2 (ZA cZ8 cZ9)) @V128.eq_1
       · obtain ⟨cZ10,h⟩ | ⟨cZ10,h⟩:=cond_s h
         · cases h
           exact ZL (ZA cZ2 (ZA cZ8 (ZA cZ9 cZ10))) @V128.eq_1
         · cases h
           exact ZL (ZA cZ2 (ZA cZ8 (ZA cZ9 cZ10))) (ZA @S_o.eq_1 @SX_o.eq_1)
     · cases h
       exact ZL (ZA cZ2 cZ8) (ZA @S_o.eq_1 @SX_o.eq_1)
 · cases h
   exact ZL cZ2 (ZA @S_o.eq_1 @SX_o.eq_1)
theorem w_en (sZ0:ByteArray) {r:Bool} (h:M_en sZ0=some r):Ok Tryz.prog 128 [.z sZ0] ((fun r=>.b r) r):=by
 refine ok_of_body hmix m128 rfl ?_
 unfold M_en at h
 simp only [ZC,A128,V128,body_eq]
 obtain ⟨oZ11,hoZ11,h⟩:=bind_s h
 try refine ZF trivial ?_
 refine join_rule (o:=oZ11) (blk_rule sideR (loop_rule (w_o sZ0) hoZ11 ?_)) (fun vZ12 hv=>?_) (fun xZ13 hv e τ hne hq=>?_)
 · exact ZK (ZA @S_o.eq_1 @SX_o.eq_1)
 · subst hv
   simp only [] at h
   simp only [ZC,SX_o,A128R3]
   obtain ⟨rZ14,hrZ14,h⟩:=bind_s h
   refine ZF trivial ?_
   refine ZS trivial (w_n _ _ _ hrZ14) ?_
   refine ZG ?_
   cases h
   exact ZL trivial @V128.eq_1
 · subst hv
   simp only [] at h
   obtain ⟨rfl,qZ15⟩:=hq
   cases h
   exact qZ15
def S_ay (sZ0:List ByteArray) (vZ0:ByteArray) (v:Int):St:=⟨[(0,.lst .o 1 (sZ0.map AV.z)),(1,.z vZ0),(7,.i (sZ0.length:Int)),(8,.i v)],[]⟩
def SX_ay (v:Unit):St:=⟨[],[]⟩
theorem w_ay (sZ0:List ByteArray) (vZ0:ByteArray) (sZ1:Int) (o:Int ⊕ (Unit ⊕ Int)) (h:M_ay sZ0 vZ0 sZ1=some o):AWP (OkS Tryz.prog) A141L1 (qL [0,1,7,8] [] (S_ay sZ0 vZ0) (qS (qX 0 [] [] (SX_ay)) (qR V141 (fun r=>.i r))) o) (S_ay sZ0 vZ0 sZ1):=by
 unfold M_ay at h
 simp only [ZC,S_ay,A141L1]
 obtain ⟨cZ2,h⟩ | ⟨cZ2,h⟩:=cond_s h
 · obtain ⟨yZ3,hyZ3,h⟩:=bind_s h
   obtain ⟨hyZ3a,hyZ3b⟩:=geti_s hyZ3
   obtain ⟨cZ4,h⟩ | ⟨cZ4,h⟩:=cond_s h
   · cases h
     exact ZL (ZA cZ2 (ZA hyZ3a (ZA hyZ3b cZ4))) @V141.eq_1
   · cases h
     exact ZL (ZA cZ2 (ZA hyZ3a (ZA hyZ3b cZ4))) (ZA @S_ay.eq_1 @SX_ay.eq_1)
 · cases h
   exact ZL cZ2 (ZA @S_ay.eq_1 @SX_ay.eq_1)
theorem w_ey (sZ0:List ByteArray) (vZ0:ByteArray) {r:Int} (h:M_ey sZ0 vZ0=some r):Ok Tryz.prog 141 [.lst .o 1 (sZ0.map AV.z),.z vZ0] ((fun r=>.i r) r):=by
 refine ok_of_body hmix m141 rfl ?_
 unfold M_ey at h
 simp only [ZC,A141,V141,body_eq]
 obtain ⟨oZ5,hoZ5,h⟩:=bind_s h
 try refine ZF trivial ?_
 refine join_rule (o:=oZ5) (blk_rule sideR (loop_rule (w_ay sZ0 vZ0) hoZ5 ?_)) (fun vZ6 hv=>?_) (fun xZ7 hv e τ hne hq=>?_)
 · exact ZK (ZA @S_ay.eq_1 @SX_ay.eq_1)
 · subst hv
   simp only [] at h
   simp only [ZC,SX_ay,A141R2]
   cases h
   exact ZL trivial @V141.eq_1
 · subst hv
   simp only [] at h
   obtain ⟨rfl,qZ8⟩:=hq
   cases h
   exact qZ8
theorem w_eo (sZ0:List ByteArray) (vZ0:ByteArray) {r:Bool} (h:M_eo sZ0 vZ0=some r):Ok Tryz.prog 129 [.lst .o 1 (sZ0.map AV.z),.z vZ0] ((fun r=>.b r) r):=by
 refine ok_of_body hmix m129 rfl ?_
 unfold M_eo at h
 simp only [ZC,A129,V129,body_eq]
 obtain ⟨rZ1,hrZ1,h⟩:=bind_s h
 refine ZF trivial ?_
 refine ZS trivial (w_ey _ _ hrZ1) ?_
 refine ZG ?_
 cases h
 exact ZL trivial @V129.eq_1
theorem w_bj (xZ0:Int) {r:Bool} (h:M_bj xZ0=some r):Ok Tryz.prog 149 [.i xZ0] ((fun r=>.b r) r):=by
 refine ok_of_body hmix m149 rfl ?_
 unfold M_bj at h
 simp only [ZC,A149,V149,body_eq]
 cases h
 exact ZL trivial @V149.eq_1
theorem w_bk (xZ0:Int) (yZ0:Int) {r:Int} (h:M_bk xZ0 yZ0=some r):Ok Tryz.prog 143 [.i xZ0,.i yZ0] ((fun r=>.i r) r):=by
 refine ok_of_body hmix m143 rfl ?_
 unfold M_bk at h
 simp only [ZC,A143,V143,body_eq]
 obtain ⟨rZ1,hrZ1,h⟩:=bind_s h
 refine ZF trivial ?_
 refine ZS trivial (w_bj _ hrZ1) ?_
 refine ZG ?_
 obtain ⟨rZ2,hrZ2,h⟩:=bind_s h
 refine ZF trivial ?_
 refine ZS trivial (w_bj _ hrZ2) ?_
 refine ZG ?_
 obtain ⟨cZ3,h⟩ | ⟨cZ3,h⟩:=cond_s h
 · obtain ⟨cZ4,h⟩ | ⟨cZ4,h⟩:=cond_s h
   · cases h
     exact ZL (ZA cZ3 cZ4) @V143.eq_1
   · cases h
     exact ZL (ZA cZ3 cZ4) @V143.eq_1
 · obtain ⟨cZ5,h⟩ | ⟨cZ5,h⟩:=cond_s h
   · cases h
     exact ZL (ZA cZ3 cZ5) @V143.eq_1
   · obtain ⟨cZ6,h⟩ | ⟨cZ6,h⟩:=cond_s h
     · cases h
       exact ZL (ZA cZ3 (ZA cZ5 cZ6)) @V143.eq_1
     · obtain ⟨cZ7,h⟩ | ⟨cZ7,h⟩:=cond_s h
       · cases h
         exact ZL (ZA cZ3 (ZA cZ5 (ZA cZ6 cZ7))) @V143.eq_1
       · cases h
         exact ZL (ZA cZ3 (ZA cZ5 (ZA cZ6 cZ7))) @V143.eq_1
def S_az (valsZ0:List Int) (v:Int):St:=⟨[(3,.i 0),(6,.lst .o 1 (valsZ0.map AV.i)),(7,.i (valsZ0.length:Int)),(8,.i v)],[]⟩
def SX_az (v:Unit):St:=⟨[(3,.i 0)],[]⟩
theorem w_az (valsZ0:List Int) (sZ1:Int) (o:Int ⊕ (Unit ⊕ Int)) (h:M_az valsZ0 sZ1=some o):AWP (OkS Tryz.prog) A142L1 (qL [3,6,7,8] [] (S_az valsZ0) (qS (qX 0 [3] [] (SX_az)) (qR V142 (fun r=>.i r))) o) (S_az valsZ0 sZ1):=by
 unfold M_az at h
 simp only [ZC,S_az,A142L1]
 obtain ⟨cZ2,h⟩ | ⟨cZ2,h⟩:=cond_s h
 · obtain ⟨yZ3,hyZ3,h⟩:=bind_s h
   obtain ⟨hyZ3a,hyZ3b⟩:=geti_s hyZ3
   obtain ⟨cZ4,h⟩ | ⟨cZ4,h⟩:=cond_s h
   · cases h
     exact ZL (ZA cZ2 (ZA hyZ3a (ZA hyZ3b cZ4))) @V142.eq_1
   · cases h
     exact ZL (ZA cZ2 (ZA hyZ3a (ZA hyZ3b cZ4))) (ZA @S_az.eq_1 @SX_az.eq_1)
 · cases h
   exact ZL cZ2 (ZA @S_az.eq_1 @SX_az.eq_1)
theorem w_ez (valsZ0:List Int) {r:Int} (h:M_ez valsZ0=some r):Ok Tryz.prog 142 [.lst .o 1 (valsZ0.map AV.i)] ((fun r=>.i r) r):=by
 refine ok_of_body hmix m142 rfl ?_
 unfold M_ez at h
 simp only [ZC,A142,V142,body_eq]
 obtain ⟨oZ5,hoZ5,h⟩:=bind_s h
 try refine ZF trivial ?_
 refine join_rule (o:=oZ5) (blk_rule sideR (loop_rule (w_az valsZ0) hoZ5 ?_)) (fun vZ6 hv=>?_) (fun xZ7 hv e τ hne hq=>?_)
 · exact ZK (ZA @S_az.eq_1 @SX_az.eq_1)
 · subst hv
   simp only [] at h
   simp only [ZC,SX_az,A142R2]
   cases h
   exact ZL trivial @V142.eq_1
 · subst hv
   simp only [] at h
   obtain ⟨rfl,qZ8⟩:=hq
   cases h
   exact qZ8
theorem w_ep (aZ0:TFiber) (bZ0:TFiber) {r:Int} (h:M_ep aZ0 bZ0=some r):Ok Tryz.prog 130 [.agg [.i aZ0.A,.i aZ0.B,.i aZ0.Length,.i aZ0.Risk],.agg [.i bZ0.A,.i bZ0.B,.i bZ0.Length,.i bZ0.Risk]] ((fun r=>.i r) r):=by
 refine ok_of_body hmix m130 rfl ?_
 unfold M_ep at h
 simp only [ZC,A130,V130,body_eq]
 obtain ⟨rZ1,hrZ1,h⟩:=bind_s h
 refine ZF trivial ?_
 refine ZS trivial (w_bk _ _ hrZ1) ?_
 refine ZG ?_
 obtain ⟨rZ2,hrZ2,h⟩:=bind_s h
 refine ZF trivial ?_
 refine ZS trivial (w_bk _ _ hrZ2) ?_
 refine ZG ?_
 obtain ⟨rZ3,hrZ3,h⟩:=bind_s h
 refine ZF trivial ?_
 refine ZS trivial (w_bk _ _ hrZ3) ?_
 refine ZG ?_
 obtain ⟨rZ4,hrZ4,h⟩:=bind_s h
 refine ZF trivial ?_
 refine ZS trivial (w_bk _ _ hrZ4) ?_
 refine ZG ?_
 obtain ⟨lZ5,hlZ5,h⟩:=bnd_s h
 have eZ6:Row.arr 1 [(.i rZ1:AV),(.i rZ2:AV),(.i rZ3:AV),(.i rZ4:AV)]=Row.arr 1 (lZ5.map AV.i):=by rw [← hlZ5]; rfl
 have jjZ7:lZ5.length=4:=by rw [← hlZ5]; rfl
 have nZ8:sub (lZ5.map AV.i) 0 4=lZ5.map AV.i:=sub_n _ (by simp [← hlZ5])
 obtain ⟨rZ9,hrZ9,h⟩:=bind_s h
 refine ZF (ZA eZ6 (ZA jjZ7 nZ8)) ?_
 refine ZS (ZA eZ6 (ZA jjZ7 nZ8)) (w_ez _ hrZ9) ?_
 refine ZG ?_
 cases h
 exact ZL (ZA eZ6 (ZA jjZ7 nZ8)) (ZA @V130.eq_1 (ZA hlZ5.symm jjZ7))
def S_z (nZ0:TNetwork) (v:Int):St:=⟨[(1,.pt 1 0 0),(8,.lst .o 1 (nZ0.Nodes.map AV.z)),(9,.i (nZ0.Nodes.length:Int)),(10,.i v)],[(1,.var (.agg [.lst .o 1 (nZ0.Nodes.map AV.z),.lst .o 4 (nZ0.Fibers.map (e_TFiber .o))]))]⟩
def SX_z (nZ0:TNetwork) (v:Unit):St:=⟨[(1,.pt 1 0 0)],[(1,.var (.agg [.lst .o 1 (nZ0.Nodes.map AV.z),.lst .o 4 (nZ0.Fibers.map (e_TFiber .o))]))]⟩
theorem w_z (nZ0:TNetwork) (sZ1:Int) (o:Int ⊕ (Unit ⊕ Bool)) (h:M_z nZ0 sZ1=some o):AWP (OkS Tryz.prog) A94L1 (qL [1,8,9,10] [1] (S_z nZ0) (qS (qX 0 [1] [1] (SX_z nZ0)) (qR V94 (fun r=>.b r))) o) (S_z nZ0 sZ1):=by
 unfold M_z at h
 simp only [ZC,S_z,A94L1]
 obtain ⟨cZ2,h⟩ | ⟨cZ2,h⟩:=cond_s h
 · obtain ⟨yZ3,hyZ3,h⟩:=bind_s h
   obtain ⟨hyZ3a,hyZ3b⟩:=geti_s hyZ3
   obtain ⟨rZ4,hrZ4,h⟩:=bind_s h
   refine ZF (ZA cZ2 (ZA hyZ3a hyZ3b)) ?_
   refine ZS (ZA cZ2 (ZA hyZ3a hyZ3b)) (w_en _ hrZ4) ?_
   refine ZG ?_
   obtain ⟨cZ5,h⟩ | ⟨cZ5,h⟩:=cond_s h
   · cases h
     exact ZL (ZA cZ2 (ZA hyZ3a (ZA hyZ3b cZ5))) @V94.eq_1
   · obtain ⟨lZ6,hlZ6,h⟩:=bind_s h
     obtain ⟨hlZ6a,hlZ6b,hlZ6c,hlZ6d,hlZ6e⟩:=slT_s AV.z hlZ6
     obtain ⟨rZ7,hrZ7,h⟩:=bind_s h
     refine ZF (ZA cZ2 (ZA hyZ3a (ZA hyZ3b (ZA cZ5 (ZA hlZ6a (ZA hlZ6b (ZA hlZ6c (ZA hlZ6d hlZ6e)))))))) ?_
     refine ZS (ZA cZ2 (ZA hyZ3a (ZA hyZ3b (ZA cZ5 (ZA hlZ6a (ZA hlZ6b (ZA hlZ6c (ZA hlZ6d hlZ6e)))))))) (w_eo _ _ hrZ7) ?_
     refine ZG ?_
     obtain ⟨cZ8,h⟩ | ⟨cZ8,h⟩:=cond_s h
     · cases h
       exact ZL (ZA cZ2 (ZA hyZ3a (ZA hyZ3b (ZA cZ5 (ZA hlZ6a (ZA hlZ6b (ZA hlZ6c (ZA hlZ6d (ZA hlZ6e cZ8))))))))) @V94.eq_1
     · cases h
       exact ZL (ZA cZ2 (ZA hyZ3a (ZA hyZ3b (ZA cZ5 (ZA hlZ6a (ZA hlZ6b (ZA hlZ6c (ZA hlZ6d (ZA hlZ6e cZ8))))))))) (ZA @S_z.eq_1 @SX_z.eq_1)
 · cases h
   exact ZL cZ2 (ZA @S_z.eq_1 @SX_z.eq_1)
def S_i (nZ0:TNetwork) (v:Int):St:=⟨[(1,.pt 1 0 0),(28,.lst .o 4 (nZ0.Fibers.map (e_TFiber .o))),(29,.i (nZ0.Fibers.length:Int)),(30,.i v)],[(1,.var (.agg [.lst .o 1 (nZ0.Nodes.map AV.z),.lst .o 4 (nZ0.Fibers.map (e_TFiber .o))]))]⟩
def SX_i (nZ0:TNetwork) (v:Unit):St:=⟨[(1,.pt 1 0 0)],[(1,.var (.agg [.lst .o 1 (nZ0.Nodes.map AV.z),.lst .o 4 (nZ0.Fibers.map (e_TFiber .o))]))]⟩
theorem w_i (nZ0:TNetwork) (sZ12:Int) (o:Int ⊕ (Unit ⊕ Bool)) (h:M_i nZ0 sZ12=some o):AWP (OkS Tryz.prog) A94L3 (qL [1,28,29,30] [1] (S_i nZ0) (qS (qX 2 [1] [1] (SX_i nZ0)) (qR V94 (fun r=>.b r))) o) (S_i nZ0 sZ12):=by
 unfold M_i at h
 simp only [ZC,S_i,A94L3]
 obtain ⟨cZ13,h⟩ | ⟨cZ13,h⟩:=cond_s h
 · obtain ⟨yZ14,hyZ14,h⟩:=bind_s h
   obtain ⟨hyZ14a,hyZ14b⟩:=geti_s hyZ14
   obtain ⟨cZ15,h⟩ | ⟨cZ15,h⟩:=cond_s h
   · cases h
     exact ZL (ZA cZ13 (ZA hyZ14a (ZA hyZ14b cZ15))) @V94.eq_1
   · obtain ⟨cZ16,h⟩ | ⟨cZ16,h⟩:=cond_s h
     · cases h
       exact ZL (ZA cZ13 (ZA hyZ14a (ZA hyZ14b (ZA cZ15 cZ16)))) @V94.eq_1
     · obtain ⟨cZ17,h⟩ | ⟨cZ17,h⟩:=cond_s h
       · cases h
         exact ZL (ZA cZ13 (ZA hyZ14a (ZA hyZ14b (ZA cZ15 (ZA cZ16 cZ17))))) @V94.eq_1
       · obtain ⟨rZ18,hrZ18,h⟩:=bind_s h
         refine ZF (ZA cZ13 (ZA hyZ14a (ZA hyZ14b (ZA cZ15 (ZA cZ16 cZ17))))) ?_
         refine ZS (ZA cZ13 (ZA hyZ14a (ZA hyZ14b (ZA cZ15 (ZA cZ16 cZ17))))) (w_n _ _ _ hrZ18) ?_
         refine ZG ?_
         obtain ⟨cZ19,h⟩ | ⟨cZ19,h⟩:=cond_s h
         · cases h
           exact ZL (ZA cZ13 (ZA hyZ14a (ZA hyZ14b (ZA cZ15 (ZA cZ16 (ZA cZ17 cZ19)))))) @V94.eq_1
         · obtain ⟨rZ20,hrZ20,h⟩:=bind_s h
           refine ZF (ZA cZ13 (ZA hyZ14a (ZA hyZ14b (ZA cZ15 (ZA cZ16 (ZA cZ17 cZ19)))))) ?_
           refine ZS (ZA cZ13 (ZA hyZ14a (ZA hyZ14b (ZA cZ15 (ZA cZ16 (ZA cZ17 cZ19)))))) (w_n _ _ _ hrZ20) ?_
           refine ZG ?_
           obtain ⟨cZ21,h⟩ | ⟨cZ21,h⟩:=cond_s h
           · cases h
             exact ZL (ZA cZ13 (ZA hyZ14a (ZA hyZ14b (ZA cZ15 (ZA cZ16 (ZA cZ17 (ZA cZ19 cZ21))))))) @V94.eq_1
           · obtain ⟨cZ22,h⟩ | ⟨cZ22,h⟩:=cond_s h
             · obtain ⟨yZ23,hyZ23,h⟩:=bind_s h
               obtain ⟨hyZ23a,hyZ23b⟩:=geti_s hyZ23
               obtain ⟨rZ24,hrZ24,h⟩:=bind_s h
               refine ZF (ZA cZ13 (ZA hyZ14a (ZA hyZ14b (ZA cZ15 (ZA cZ16 (ZA cZ17 (ZA cZ19 (ZA cZ21 (ZA cZ22 (ZA hyZ23a hyZ23b)))))))))) ?_
               refine ZS (ZA cZ13 (ZA hyZ14a (ZA hyZ14b (ZA cZ15 (ZA cZ16 (ZA cZ17 (ZA cZ19 (ZA cZ21 (ZA cZ22 (ZA hyZ23a hyZ23b)))))))))) (w_ep _ _ hrZ24) ?_
               refine ZG ?_
               obtain ⟨cZ25,h⟩ | ⟨cZ25,h⟩:=cond_s h
               · cases h
                 exact ZL (ZA cZ13 (ZA hyZ14a (ZA hyZ14b (ZA cZ15 (ZA cZ16 (ZA cZ17 (ZA cZ19 (ZA cZ21 (ZA cZ22 (ZA hyZ23a (ZA hyZ23b cZ25))))))))))) @V94.eq_1
               · cases h
                 exact ZL (ZA cZ13 (ZA hyZ14a (ZA hyZ14b (ZA cZ15 (ZA cZ16 (ZA cZ17 (ZA cZ19 (ZA cZ21 (ZA cZ22 (ZA hyZ23a (ZA hyZ23b cZ25))))))))))) (ZA @S_i.eq_1 @SX_i.eq_1)
             · cases h
               exact ZL (ZA cZ13 (ZA hyZ14a (ZA hyZ14b (ZA cZ15 (ZA cZ16 (ZA cZ17 (ZA cZ19 (ZA cZ21 cZ22)))))))) (ZA @S_i.eq_1 @SX_i.eq_1)
 · cases h
   exact ZL cZ13 (ZA @S_i.eq_1 @SX_i.eq_1)
theorem w_dl (nZ0:TNetwork) {r:Bool} (h:M_dl nZ0=some r):Ok Tryz.prog 94 [.agg [.lst .o 1 (nZ0.Nodes.map AV.z),.lst .o 4 (nZ0.Fibers.map (e_TFiber .o))]] ((fun r=>.b r) r):=by
 refine ok_of_body hmix m94 rfl ?_
 unfold M_dl at h
 simp only [ZC,A94,V94,body_eq]
 obtain ⟨oZ9,hoZ9,h⟩:=bind_s h
 try refine ZF trivial ?_
 refine join_rule (o:=oZ9) (blk_rule sideR (loop_rule (w_z nZ0) hoZ9 ?_)) (fun vZ10 hv=>?_) (fun xZ11 hv e τ hne hq=>?_)
 · exact ZK (ZA @S_z.eq_1 @SX_z.eq_1)
 · subst hv
   simp only [] at h
   simp only [ZC,SX_z,A94R2]
   obtain ⟨oZ26,hoZ26,h⟩:=bind_s h
   try refine ZF trivial ?_
   refine join_rule (o:=oZ26) (blk_rule sideR (loop_rule (w_i nZ0) hoZ26 ?_)) (fun vZ27 hv=>?_) (fun xZ28 hv e τ hne hq=>?_)
   · exact ZK (ZA @S_i.eq_1 @SX_i.eq_1)
   · subst hv
     simp only [] at h
     simp only [ZC,SX_i,A94R4]
     obtain ⟨rZ29,hrZ29,h⟩:=bind_s h
     refine ZF trivial ?_
     refine ZS trivial (w_n _ _ _ hrZ29) ?_
     refine ZG ?_
     obtain ⟨cZ30,h⟩ | ⟨cZ30,h⟩:=cond_s h
     · cases h
       exact ZL cZ30 @V94.eq_1
     · cases h
       exact ZL cZ30 @V94.eq_1
   · subst hv
     simp only [] at h
     obtain ⟨rfl,qZ31⟩:=hq
     cases h
     exact qZ31
 · subst hv
   simp only [] at h
   obtain ⟨rfl,qZ32⟩:=hq
   cases h
   exact qZ32
theorem w_ef (fZ0:TFiber) (nodeZ0:Int) {r:Int} (h:M_ef fZ0 nodeZ0=some r):Ok Tryz.prog 144 [.agg [.i fZ0.A,.i fZ0.B,.i fZ0.Length,.i fZ0.Risk],.i nodeZ0] ((fun r=>.i r) r):=by
 refine ok_of_body hmix m144 rfl ?_
 unfold M_ef at h
 simp only [ZC,A144,V144,body_eq]
 obtain ⟨cZ1,h⟩ | ⟨cZ1,h⟩:=cond_s h
 · cases h
   exact ZL cZ1 @V144.eq_1
 · obtain ⟨cZ2,h⟩ | ⟨cZ2,h⟩:=cond_s h
   · cases h
     exact ZL (ZA cZ1 cZ2) @V144.eq_1
   · cases h
     exact ZL (ZA cZ1 cZ2) @V144.eq_1
def S_av (sZ0:List Int) (vZ0:Int) (v:Int):St:=⟨[(0,.lst .o 1 (sZ0.map AV.i)),(1,.i vZ0),(7,.i (sZ0.length:Int)),(8,.i v)],[]⟩
def SX_av (v:Unit):St:=⟨[],[]⟩
theorem w_av (sZ0:List Int) (vZ0:Int) (sZ1:Int) (o:Int ⊕ (Unit ⊕ Int)) (h:M_av sZ0 vZ0 sZ1=some o):AWP (OkS Tryz.prog) A112L1 (qL [0,1,7,8] [] (S_av sZ0 vZ0) (qS (qX 0 [] [] (SX_av)) (qR V112 (fun r=>.i r))) o) (S_av sZ0 vZ0 sZ1):=by
 unfold M_av at h
 simp only [ZC,S_av,A112L1]
 obtain ⟨cZ2,h⟩ | ⟨cZ2,h⟩:=cond_s h
 · obtain ⟨yZ3,hyZ3,h⟩:=bind_s h
   obtain ⟨hyZ3a,hyZ3b⟩:=geti_s hyZ3
   obtain ⟨cZ4,h⟩ | ⟨cZ4,h⟩:=cond_s h
   · cases h
     exact ZL (ZA cZ2 (ZA hyZ3a (ZA hyZ3b cZ4))) @V112.eq_1
   · cases h
     exact ZL (ZA cZ2 (ZA hyZ3a (ZA hyZ3b cZ4))) (ZA @S_av.eq_1 @SX_av.eq_1)
 · cases h
   exact ZL cZ2 (ZA @S_av.eq_1 @SX_av.eq_1)
theorem w_ew (sZ0:List Int) (vZ0:Int) {r:Int} (h:M_ew sZ0 vZ0=some r):Ok Tryz.prog 112 [.lst .o 1 (sZ0.map AV.i),.i vZ0] ((fun r=>.i r) r):=by
 refine ok_of_body hmix m112 rfl ?_
 unfold M_ew at h
 simp only [ZC,A112,V112,body_eq]
 obtain ⟨oZ5,hoZ5,h⟩:=bind_s h
 try refine ZF trivial ?_
 refine join_rule (o:=oZ5) (blk_rule sideR (loop_rule (w_av sZ0 vZ0) hoZ5 ?_)) (fun vZ6 hv=>?_) (fun xZ7 hv e τ hne hq=>?_)
 · exact ZK (ZA @S_av.eq_1 @SX_av.eq_1)
 · subst hv
   simp only [] at h
   simp only [ZC,SX_av,A112R2]
   cases h
   exact ZL trivial @V112.eq_1
 · subst hv
   simp only [] at h
   obtain ⟨rfl,qZ8⟩:=hq
   cases h
   exact qZ8
theorem w_bo (sZ0:List Int) (vZ0:Int) {r:Bool} (h:M_bo sZ0 vZ0=some r):Ok Tryz.prog 75 [.lst .o 1 (sZ0.map AV.i),.i vZ0] ((fun r=>.b r) r):=by
 refine ok_of_body hmix m75 rfl ?_
 unfold M_bo at h
 simp only [ZC,A75,V75,body_eq]
 obtain ⟨rZ1,hrZ1,h⟩:=bind_s h
 refine ZF trivial ?_
 refine ZS trivial (w_ew _ _ hrZ1) ?_
 refine ZG ?_
 cases h
 exact ZL trivial @V75.eq_1
def S_ac (nZ0:TNetwork) (rZ0:TRoute) (v:Int×Int×List Int):St:=⟨[(2,.pt 2 0 0),(6,.sl 6 0 v.2.2.length),(7,.i v.1),(30,.lst .o 1 (rZ0.Fibers.map AV.i)),(31,.i (rZ0.Fibers.length:Int)),(32,.i v.2.1)],[(2,.var (.agg [.lst .o 1 (nZ0.Nodes.map AV.z),.lst .o 4 (nZ0.Fibers.map (e_TFiber .o))])),(6,.arr 1 (v.2.2.map AV.i))]⟩
def SX_ac (v:List Int):St:=⟨[(6,.sl 6 0 v.length)],[(6,.arr 1 (v.map AV.i))]⟩
theorem w_ac (nZ0:TNetwork) (rZ0:TRoute) (sZ8:Int×Int×List Int) (o:(Int×Int×List Int) ⊕ ((List Int) ⊕ (List Int×Bool))) (h:M_ac nZ0 rZ0 sZ8=some o):AWP (OkS Tryz.prog) A131L3 (qL [2,6,7,30,31,32] [2,6] (S_ac nZ0 rZ0) (qS (qX 0 [6] [6] (SX_ac)) (qR V131 (fun r=>.tup [.lst .u 1 (r.1.map AV.i),.b r.2]))) o) (S_ac nZ0 rZ0 sZ8):=by
 unfold M_ac at h
 simp only [ZC,S_ac,A131L3]
 obtain ⟨cZ9,h⟩ | ⟨cZ9,h⟩:=cond_s h
 · obtain ⟨yZ10,hyZ10,h⟩:=bind_s h
   obtain ⟨hyZ10a,hyZ10b⟩:=geti_s hyZ10
   obtain ⟨rZ11,hrZ11,h⟩:=bind_s h
   refine ZF (ZA cZ9 (ZA hyZ10a hyZ10b)) ?_
   refine ZS (ZA cZ9 (ZA hyZ10a hyZ10b)) (w_n _ _ _ hrZ11) ?_
   refine ZG ?_
   obtain ⟨cZ12,h⟩ | ⟨cZ12,h⟩:=cond_s h
   · cases h
     exact ZL (ZA cZ9 (ZA hyZ10a (ZA hyZ10b cZ12))) @V131.eq_1
   · obtain ⟨yZ13,hyZ13,h⟩:=bind_s h
     obtain ⟨hyZ13a,hyZ13b⟩:=geti_s hyZ13
     obtain ⟨rZ14,hrZ14,h⟩:=bind_s h
     refine ZF (ZA cZ9 (ZA hyZ10a (ZA hyZ10b (ZA cZ12 (ZA hyZ13a hyZ13b))))) ?_
     refine ZS (ZA cZ9 (ZA hyZ10a (ZA hyZ10b (ZA cZ12 (ZA hyZ13a hyZ13b))))) (w_ef _ _ hrZ14) ?_
     refine ZG ?_
     obtain ⟨oZ17,hoZ17,h⟩:=bind_s h
     try refine ZF (ZA cZ9 (ZA hyZ10a (ZA hyZ10b (ZA cZ12 (ZA hyZ13a hyZ13b))))) ?_
     refine join_rule0 (sh:=(fun v=>⟨[(2,.pt 2 0 0),(6,.sl 6 0 sZ8.2.2.length),(7,.i rZ14),(30,.lst .o 1 (rZ0.Fibers.map AV.i)),(31,.i (rZ0.Fibers.length:Int)),(32,.i sZ8.2.1),(56,.b v)],[(2,.var (.agg [.lst .o 1 (nZ0.Nodes.map AV.z),.lst .o 4 (nZ0.Fibers.map (e_TFiber .o))])),(6,.arr 1 (sZ8.2.2.map AV.i))]⟩)) (s:=oZ17) ?_ ?_
     · replace h:=hoZ17
       obtain ⟨cZ15,h⟩ | ⟨cZ15,h⟩:=cond_s h
       · cases h
         exact ZL (ZA cZ9 (ZA hyZ10a (ZA hyZ10b (ZA cZ12 (ZA hyZ13a (ZA hyZ13b cZ15)))))) trivial
       · obtain ⟨rZ16,hrZ16,h⟩:=bind_s h
         refine ZF (ZA cZ9 (ZA hyZ10a (ZA hyZ10b (ZA cZ12 (ZA hyZ13a (ZA hyZ13b cZ15)))))) ?_
         refine ZS (ZA cZ9 (ZA hyZ10a (ZA hyZ10b (ZA cZ12 (ZA hyZ13a (ZA hyZ13b cZ15)))))) (w_bo _ _ hrZ16) ?_
         refine ZG ?_
         cases h
         exact ZL (ZA cZ9 (ZA hyZ10a (ZA hyZ10b (ZA cZ12 (ZA hyZ13a (ZA hyZ13b cZ15)))))) trivial
     · simp only [ZC,A131R2]
       obtain ⟨cZ18,h⟩ | ⟨cZ18,h⟩:=cond_s h
       · cases h
         exact ZL (ZA cZ9 (ZA hyZ10a (ZA hyZ10b (ZA cZ12 (ZA hyZ13a (ZA hyZ13b cZ18)))))) @V131.eq_1
       · obtain ⟨lZ19,hlZ19,h⟩:=bnd_s h
         have eZ20:Row.arr 1 [(.i rZ14:AV)]=Row.arr 1 (lZ19.map AV.i):=by rw [← hlZ19]; rfl
         have jjZ21:lZ19.length=1:=by rw [← hlZ19]; rfl
         obtain ⟨uZ22,huZ22,h⟩:=bind_s h
         have huZ22g:=grd_s huZ22
         obtain ⟨lZ23,hlZ23,h⟩:=bnd_s h
         have eZ24:sZ8.2.2.map AV.i++lZ19.map AV.i=lZ23.map AV.i:=by rw [← hlZ23,List.map_append]
         have eZ25:sZ8.2.2.length+1=lZ23.length:=by simp [← hlZ19,← hlZ23] <;> omega
         rw [eZ25] at huZ22g
         cases h
         exact ZL (ZA cZ9 (ZA hyZ10a (ZA hyZ10b (ZA cZ12 (ZA hyZ13a (ZA hyZ13b (ZA cZ18 (ZA eZ20 (ZA jjZ21 (ZA huZ22g (ZA eZ24 eZ25))))))))))) (ZA @S_ac.eq_1 (ZA @SX_ac.eq_1 (ZA hlZ19.symm (ZA hlZ23.symm jjZ21))))
 · cases h
   exact ZL cZ9 (ZA @S_ac.eq_1 @SX_ac.eq_1)
theorem w_cg (nZ0:TNetwork) (rZ0:TRoute) {r:List Int×Bool} (h:M_cg nZ0 rZ0=some r):Ok Tryz.prog 131 [.agg [.lst .o 1 (nZ0.Nodes.map AV.z),.lst .o 4 (nZ0.Fibers.map (e_TFiber .o))],.agg [.i rZ0.Start,.lst .o 1 (rZ0.Fibers.map AV.i)]] ((fun r=>.tup [.lst .u 1 (r.1.map AV.i),.b r.2]) r):=by
 refine ok_of_body hmix m131 rfl ?_
 unfold M_cg at h
 simp only [ZC,A131,V131,body_eq]
 obtain ⟨oZ3,hoZ3,h⟩:=bind_s h
 try refine ZF trivial ?_
 refine join_rule0 (sh:=(fun v=>⟨[(2,.pt 2 0 0),(3,.pt 3 0 0),(23,.b v)],[(2,.var (.agg [.lst .o 1 (nZ0.Nodes.map AV.z),.lst .o 4 (nZ0.Fibers.map (e_TFiber .o))])),(3,.var (.agg [.i rZ0.Start,.lst .o 1 (rZ0.Fibers.map AV.i)]))]⟩)) (s:=oZ3) ?_ ?_
 · replace h:=hoZ3
   obtain ⟨rZ1,hrZ1,h⟩:=bind_s h
   refine ZF trivial ?_
   refine ZS trivial (w_n _ _ _ hrZ1) ?_
   refine ZG ?_
   obtain ⟨cZ2,h⟩ | ⟨cZ2,h⟩:=cond_s h
   · cases h
     exact ZL cZ2 trivial
   · cases h
     exact ZL cZ2 trivial
 · simp only [ZC,A131R1]
   obtain ⟨cZ4,h⟩ | ⟨cZ4,h⟩:=cond_s h
   · cases h
     exact ZL cZ4 @V131.eq_1
   · obtain ⟨lZ5,hlZ5,h⟩:=bnd_s h
     have eZ6:Row.arr 1 [(.i rZ0.Start:AV)]=Row.arr 1 (lZ5.map AV.i):=by rw [← hlZ5]; rfl
     have jjZ7:lZ5.length=1:=by rw [← hlZ5]; rfl
     obtain ⟨oZ26,hoZ26,h⟩:=bind_s h
     try refine ZF (ZA cZ4 (ZA eZ6 jjZ7)) ?_
     refine join_rule (o:=oZ26) (blk_rule sideR (loop_rule (w_ac nZ0 rZ0) hoZ26 ?_)) (fun vZ27 hv=>?_) (fun xZ28 hv e τ hne hq=>?_)
     · exact ZK (ZA @S_ac.eq_1 (ZA @SX_ac.eq_1 (ZA hlZ5.symm jjZ7)))
     · subst hv
       simp only [] at h
       simp only [ZC,SX_ac,A131R4]
       cases h
       exact ZL (ZA cZ4 (ZA eZ6 jjZ7)) (ZA @V131.eq_1 jjZ7)
     · subst hv
       simp only [] at h
       obtain ⟨rfl,qZ29⟩:=hq
       cases h
       exact qZ29
theorem w_bx (bZ0:TBlock) {r:Bool} (h:M_bx bZ0=some r):Ok Tryz.prog 132 [.agg [.i bZ0.First,.i bZ0.Count]] ((fun r=>.b r) r):=by
 refine ok_of_body hmix m132 rfl ?_
 unfold M_bx at h
 simp only [ZC,A132,V132,body_eq]
 obtain ⟨cZ1,h⟩ | ⟨cZ1,h⟩:=cond_s h
 · obtain ⟨rZ2,hrZ2,h⟩:=bind_s h
   refine ZF cZ1 ?_
   refine ZS cZ1 (w_n _ _ _ hrZ2) ?_
   refine ZG ?_
   obtain ⟨cZ3,h⟩ | ⟨cZ3,h⟩:=cond_s h
   · cases h
     exact ZL (ZA cZ1 cZ3) @V132.eq_1
   · cases h
     exact ZL (ZA cZ1 cZ3) @V132.eq_1
 · cases h
   exact ZL cZ1 @V132.eq_1
def S_k (nZ0:TNetwork) (sZ1:Int×List (List Int)) (v:Int×List Int):St:=⟨[(1,.pt 1 0 0),(3,.sl 3 0 sZ1.2.length),(4,.i sZ1.1),(5,.sl 5 0 v.2.length),(17,.lst .o 4 (nZ0.Fibers.map (e_TFiber .o))),(18,.i (nZ0.Fibers.length:Int)),(19,.i v.1)],[(1,.var (.agg [.lst .o 1 (nZ0.Nodes.map AV.z),.lst .o 4 (nZ0.Fibers.map (e_TFiber .o))])),(3,.arr 1 (sZ1.2.map (e_Li .u))),(5,.arr 1 (v.2.map AV.i))]⟩
def SX_k (nZ0:TNetwork) (sZ1:Int×List (List Int)) (v:List Int):St:=⟨[(1,.pt 1 0 0),(3,.sl 3 0 sZ1.2.length),(4,.i sZ1.1),(5,.sl 5 0 v.length)],[(1,.var (.agg [.lst .o 1 (nZ0.Nodes.map AV.z),.lst .o 4 (nZ0.Fibers.map (e_TFiber .o))])),(3,.arr 1 (sZ1.2.map (e_Li .u))),(5,.arr 1 (v.map AV.i))]⟩
theorem w_k (nZ0:TNetwork) (sZ1:Int×List (List Int)) (sZ3:Int×List Int) (o:(Int×List Int) ⊕ (List Int)) (h:M_k nZ0 sZ1 sZ3=some o):AWP (OkS Tryz.prog) A66L1 (qL [1,3,4,5,17,18,19] [1,3,5] (S_k nZ0 sZ1) (qX 2 [1,3,4,5] [1,3,5] (SX_k nZ0 sZ1)) o) (S_k nZ0 sZ1 sZ3):=by
 unfold M_k at h
 simp only [ZC,S_k,A66L1]
 obtain ⟨cZ4,h⟩ | ⟨cZ4,h⟩:=cond_s h
 · obtain ⟨yZ5,hyZ5,h⟩:=bind_s h
   obtain ⟨hyZ5a,hyZ5b⟩:=geti_s hyZ5
   obtain ⟨cZ6,h⟩ | ⟨cZ6,h⟩:=cond_s h
   · obtain ⟨lZ7,hlZ7,h⟩:=bnd_s h
     have eZ8:Row.arr 1 [(.i sZ3.1:AV)]=Row.arr 1 (lZ7.map AV.i):=by rw [← hlZ7]; rfl
     have jjZ9:lZ7.length=1:=by rw [← hlZ7]; rfl
     obtain ⟨uZ10,huZ10,h⟩:=bind_s h
     have huZ10g:=grd_s huZ10
     obtain ⟨lZ11,hlZ11,h⟩:=bnd_s h
     have eZ12:sZ3.2.map AV.i++lZ7.map AV.i=lZ11.map AV.i:=by rw [← hlZ11,List.map_append]
     have eZ13:sZ3.2.length+1=lZ11.length:=by simp [← hlZ7,← hlZ11] <;> omega
     rw [eZ13] at huZ10g
     cases h
     exact ZL (ZA cZ4 (ZA hyZ5a (ZA hyZ5b (ZA cZ6 (ZA eZ8 (ZA jjZ9 (ZA huZ10g (ZA eZ12 eZ13)))))))) (ZA @S_k.eq_1 (ZA @SX_k.eq_1 (ZA hlZ7.symm (ZA hlZ11.symm jjZ9))))
   · cases h
     exact ZL (ZA cZ4 (ZA hyZ5a (ZA hyZ5b cZ6))) (ZA @S_k.eq_1 @SX_k.eq_1)
 · cases h
   exact ZL cZ4 (ZA @S_k.eq_1 @SX_k.eq_1)
def S_j (nZ0:TNetwork) (v:Int×List (List Int)):St:=⟨[(1,.pt 1 0 0),(3,.sl 3 0 v.2.length),(4,.i v.1)],[(1,.var (.agg [.lst .o 1 (nZ0.Nodes.map AV.z),.lst .o 4 (nZ0.Fibers.map (e_TFiber .o))])),(3,.arr 1 (v.2.map (e_Li .u)))]⟩
def SX_j (nZ0:TNetwork) (v:List (List Int)):St:=⟨[(1,.pt 1 0 0),(3,.sl 3 0 v.length)],[(1,.var (.agg [.lst .o 1 (nZ0.Nodes.map AV.z),.lst .o 4 (nZ0.Fibers.map (e_TFiber .o))])),(3,.arr 1 (v.map (e_Li .u)))]⟩
theorem w_j (nZ0:TNetwork) (sZ1:Int×List (List Int)) (o:(Int×List (List Int)) ⊕ (List (List Int))) (h:M_j nZ0 sZ1=some o):AWP (OkS Tryz.prog) A66L3 (qL [1,3,4] [1,3] (S_j nZ0) (qX 0 [1,3] [1,3] (SX_j nZ0)) o) (S_j nZ0 sZ1):=by
 unfold M_j at h
 simp only [ZC,S_j,A66L3]
 obtain ⟨cZ2,h⟩ | ⟨cZ2,h⟩:=cond_s h
 · obtain ⟨oZ14,hoZ14,h⟩:=bind_s h
   try refine ZF cZ2 ?_
   refine join_rule0 (blk_rule0 (loop_rule (w_k nZ0 sZ1) hoZ14 ?_)) ?_
   · exact ZK (ZA @S_k.eq_1 @SX_k.eq_1)
   · simp only [ZC,SX_k,A66R2]
     obtain ⟨cZ15,h⟩ | ⟨cZ15,h⟩:=cond_s h
     · obtain ⟨lZ16,hlZ16,h⟩:=bnd_s h
       have eZ17:Row.arr 1 [(.lst .u 1 (oZ14.map AV.i):AV)]=Row.arr 1 (lZ16.map (e_Li .u)):=by rw [← hlZ16]; rfl
       have jjZ18:lZ16.length=1:=by rw [← hlZ16]; rfl
       obtain ⟨uZ19,huZ19,h⟩:=bind_s h
       have huZ19g:=grd_s huZ19
       obtain ⟨lZ20,hlZ20,h⟩:=bnd_s h
       have eZ21:sZ1.2.map (e_Li .u)++lZ16.map (e_Li .u)=lZ20.map (e_Li .u):=by rw [← hlZ20,List.map_append]
       have eZ22:sZ1.2.length+1=lZ20.length:=by simp [← hlZ16,← hlZ20] <;> omega
       rw [eZ22] at huZ19g
       cases h
       exact ZL (ZA cZ2 (ZA cZ15 (ZA eZ17 (ZA jjZ18 (ZA huZ19g (ZA eZ21 eZ22)))))) (ZA @S_j.eq_1 (ZA @SX_j.eq_1 (ZA hlZ16.symm (ZA hlZ20.symm jjZ18))))
     · cases h
       exact ZL (ZA cZ2 cZ15) (ZA @S_j.eq_1 @SX_j.eq_1)
 · cases h
   exact ZL cZ2 (ZA @S_j.eq_1 @SX_j.eq_1)
def S_l (nZ0:TNetwork) (v:Int×List (List Int)):St:=⟨[(3,.sl 3 0 v.2.length),(41,.lst .o 4 (nZ0.Fibers.map (e_TFiber .o))),(42,.i (nZ0.Fibers.length:Int)),(43,.i v.1)],[(3,.arr 1 (v.2.map (e_Li .u)))]⟩
def SX_l (v:List (List Int)):St:=⟨[(3,.sl 3 0 v.length)],[(3,.arr 1 (v.map (e_Li .u)))]⟩
theorem w_l (nZ0:TNetwork) (sZ24:Int×List (List Int)) (o:(Int×List (List Int)) ⊕ (List (List Int))) (h:M_l nZ0 sZ24=some o):AWP (OkS Tryz.prog) A66L5 (qL [3,41,42,43] [3] (S_l nZ0) (qX 4 [3] [3] (SX_l)) o) (S_l nZ0 sZ24):=by
 unfold M_l at h
 simp only [ZC,S_l,A66L5]
 obtain ⟨cZ25,h⟩ | ⟨cZ25,h⟩:=cond_s h
 · obtain ⟨yZ26,hyZ26,h⟩:=bind_s h
   obtain ⟨hyZ26a,hyZ26b⟩:=geti_s hyZ26
   obtain ⟨cZ27,h⟩ | ⟨cZ27,h⟩:=cond_s h
   · obtain ⟨lZ28,hlZ28,h⟩:=bnd_s h
     have eZ29:Row.arr 1 [(.i sZ24.1:AV)]=Row.arr 1 (lZ28.map AV.i):=by rw [← hlZ28]; rfl
     have jjZ30:lZ28.length=1:=by rw [← hlZ28]; rfl
     have nZ31:sub (lZ28.map AV.i) 0 1=lZ28.map AV.i:=sub_n _ (by simp [← hlZ28])
     obtain ⟨lZ32,hlZ32,h⟩:=bnd_s h
     have eZ33:Row.arr 1 [(.lst .u 1 (lZ28.map AV.i):AV)]=Row.arr 1 (lZ32.map (e_Li .u)):=by rw [← hlZ32]; rfl
     have jjZ34:lZ32.length=1:=by rw [← hlZ32]; rfl
     obtain ⟨uZ35,huZ35,h⟩:=bind_s h
     have huZ35g:=grd_s huZ35
     obtain ⟨lZ36,hlZ36,h⟩:=bnd_s h
     have eZ37:sZ24.2.map (e_Li .u)++lZ32.map (e_Li .u)=lZ36.map (e_Li .u):=by rw [← hlZ36,List.map_append]
     have eZ38:sZ24.2.length+1=lZ36.length:=by simp [← hlZ28,← hlZ32,← hlZ36] <;> omega
     rw [eZ38] at huZ35g
     cases h
     exact ZL (ZA cZ25 (ZA hyZ26a (ZA hyZ26b (ZA cZ27 (ZA eZ29 (ZA jjZ30 (ZA nZ31 (ZA eZ33 (ZA jjZ34 (ZA huZ35g (ZA eZ37 eZ38))))))))))) (ZA @S_l.eq_1 (ZA @SX_l.eq_1 (ZA hlZ28.symm (ZA hlZ32.symm (ZA hlZ36.symm (ZA jjZ30 jjZ34))))))
   · cases h
     exact ZL (ZA cZ25 (ZA hyZ26a (ZA hyZ26b cZ27))) (ZA @S_l.eq_1 @SX_l.eq_1)
 · cases h
   exact ZL cZ25 (ZA @S_l.eq_1 @SX_l.eq_1)
theorem w_do (nZ0:TNetwork) {r:List (List Int)} (h:M_do nZ0=some r):Ok Tryz.prog 66 [.agg [.lst .o 1 (nZ0.Nodes.map AV.z),.lst .o 4 (nZ0.Fibers.map (e_TFiber .o))]] ((fun r=>.lst .u 1 (r.map (e_Li .u))) r):=by
 refine ok_of_body hmix m66 rfl ?_
 unfold M_do at h
 simp only [ZC,A66,V66,body_eq]
 obtain ⟨oZ23,hoZ23,h⟩:=bind_s h
 try refine ZF trivial ?_
 refine join_rule0 (blk_rule0 (loop_rule (w_j nZ0) hoZ23 ?_)) ?_
 · exact ZK (ZA @S_j.eq_1 @SX_j.eq_1)
 · simp only [ZC,SX_j,A66R4]
   obtain ⟨oZ39,hoZ39,h⟩:=bind_s h
   try refine ZF trivial ?_
   refine join_rule0 (blk_rule0 (loop_rule (w_l nZ0) hoZ39 ?_)) ?_
   · exact ZK (ZA @S_l.eq_1 @SX_l.eq_1)
   · simp only [ZC,SX_l,A66R6]
     cases h
     exact ZL trivial @V66.eq_1
theorem w_dh (listZ0:List Int) (p1Z0:Int) {r:Bool} (h:M_dh listZ0 p1Z0=some r):Ok Tryz.prog 163 [.lst .o 1 (listZ0.map AV.i),.bp .o (.i p1Z0) 0] ((fun r=>.b r) r):=by
 refine ok_of_body hmix m163 rfl ?_
 unfold M_dh at h
 simp only [ZC,A163,V163,body_eq]
 obtain ⟨rZ1,hrZ1,h⟩:=bind_s h
 refine ZF trivial ?_
 refine ZS trivial (w_bo _ _ hrZ1) ?_
 refine ZG ?_
 cases h
 exact ZL trivial @V163.eq_1
def S_v (sZ0:List (List Int)) (F_fZ0:Nat) (C_fZ0:List AV) (v:Int):St:=⟨[(0,.lst .o 1 (sZ0.map (e_Li .o))),(1,.fn F_fZ0 C_fZ0),(7,.i (sZ0.length:Int)),(8,.i v)],[]⟩
def SX_v (v:Unit):St:=⟨[],[]⟩
theorem w_v (sZ0:List (List Int)) (fZ0:(List Int)→Option Bool) (F_fZ0:Nat) (C_fZ0:List AV) (hC_fZ0:Fixed C_fZ0) (hf_fZ0:∀ (x0:List Int) (r:Bool),fZ0 x0=some r→Ok Tryz.prog F_fZ0 ((.lst .o 1 (x0.map AV.i))::C_fZ0) (.b r)) (sZ1:Int) (o:Int ⊕ (Unit ⊕ Int)) (h:M_v sZ0 fZ0 sZ1=some o):AWP (OkS Tryz.prog) A162L1 (qL [0,1,7,8] [] (S_v sZ0 F_fZ0 C_fZ0) (qS (qX 0 [] [] (SX_v)) (qR V162 (fun r=>.i r))) o) (S_v sZ0 F_fZ0 C_fZ0 sZ1):=by
 unfold M_v at h
 simp only [ZC,S_v,A162L1]
 obtain ⟨cZ2,h⟩ | ⟨cZ2,h⟩:=cond_s h
 · obtain ⟨yZ3,hyZ3,h⟩:=bind_s h
   obtain ⟨hyZ3a,hyZ3b⟩:=geti_s hyZ3
   obtain ⟨rZ4,hrZ4,h⟩:=bind_s h
   refine ZF (ZA cZ2 (ZA hyZ3a hyZ3b)) ?_
   refine ZS (ZA cZ2 (ZA hyZ3a (ZA hyZ3b hC_fZ0.1))) (hf_fZ0 _ _ hrZ4) ?_
   refine ZG ?_
   obtain ⟨cZ5,h⟩ | ⟨cZ5,h⟩:=cond_s h
   · cases h
     exact ZL (ZA cZ2 (ZA hyZ3a (ZA hyZ3b cZ5))) (ZA @V162.eq_1 (ZA hC_fZ0.2 ((fixed_ren hC_fZ0))))
   · cases h
     exact ZL (ZA cZ2 (ZA hyZ3a (ZA hyZ3b cZ5))) (ZA @S_v.eq_1 (ZA @SX_v.eq_1 (ZA hC_fZ0.2 ((fixed_ren hC_fZ0)))))
 · cases h
   exact ZL cZ2 (ZA @S_v.eq_1 (ZA @SX_v.eq_1 (ZA hC_fZ0.2 ((fixed_ren hC_fZ0)))))
theorem w_df (sZ0:List (List Int)) (fZ0:(List Int)→Option Bool) {r:Int} (h:M_df sZ0 fZ0=some r) (F_fZ0:Nat) (C_fZ0:List AV) (hC_fZ0:Fixed C_fZ0) (hf_fZ0:∀ (x0:List Int) (r:Bool),fZ0 x0=some r→Ok Tryz.prog F_fZ0 ((.lst .o 1 (x0.map AV.i))::C_fZ0) (.b r)):Ok Tryz.prog 162 [.lst .o 1 (sZ0.map (e_Li .o)),.fn F_fZ0 C_fZ0] ((fun r=>.i r) r):=by
 refine ok_of_body hmix m162 rfl ?_
 unfold M_df at h
 simp only [ZC,A162,V162,body_eq]
 obtain ⟨oZ6,hoZ6,h⟩:=bind_s h
 try refine ZF trivial ?_
 refine join_rule (o:=oZ6) (blk_rule sideR (loop_rule (w_v sZ0 fZ0 F_fZ0 C_fZ0 hC_fZ0 hf_fZ0) hoZ6 ?_)) (fun vZ7 hv=>?_) (fun xZ8 hv e τ hne hq=>?_)
 · exact ZK (ZA @S_v.eq_1 (ZA @SX_v.eq_1 (ZA hC_fZ0.2 ((fixed_ren hC_fZ0)))))
 · subst hv
   simp only [] at h
   simp only [ZC,SX_v,A162R2]
   cases h
   exact ZL trivial (ZA @V162.eq_1 (ZA hC_fZ0.2 ((fixed_ren hC_fZ0))))
 · subst hv
   simp only [] at h
   obtain ⟨rfl,qZ9⟩:=hq
   cases h
   exact qZ9
theorem w_dg (nZ0:TNetwork) (fiberZ0:Int) {r:Int} (h:M_dg nZ0 fiberZ0=some r):Ok Tryz.prog 150 [.agg [.lst .o 1 (nZ0.Nodes.map AV.z),.lst .o 4 (nZ0.Fibers.map (e_TFiber .o))],.i fiberZ0] ((fun r=>.i r) r):=by
 refine ok_of_body hmix m150 rfl ?_
 unfold M_dg at h
 simp only [ZC,A150,V150,body_eq]
 obtain ⟨rZ1,hrZ1,h⟩:=bind_s h
 refine ZF trivial ?_
 refine ZU trivial (w_do _ hrZ1) ?_
 refine ZG ?_
 obtain ⟨rZ2,hrZ2,h⟩:=bind_s h
 refine ZF trivial ?_
 refine ZS trivial (w_df _ _ hrZ2 163 [.bp .o (.i fiberZ0) 0] ⟨fun ρ k=>by simp only [VS1,VS2,VS3,VS4,VS5,VS6,VT1,VT2,finM_ret,finM_nrm,decide_true,decide_false,List.nodup_nil,List.nodup_cons,oks_p,oks_m,oks_h,ne_eq,not_false_eq_true,Int.reduceEq,Int.reduceNe,true_and,false_and,Nat.reduceSub,Nat.reduceMul,↓reduceIte,reduceCtorEq,Nat.reduceEqDiff,Nat.reduceAdd,Nat.reduceLeDiff,Int.reduceLE],by simp [mentsL,AV.ments]⟩ (fun _ _ h=>w_dh _ _ h)) ?_
 refine ZG ?_
 cases h
 exact ZL trivial @V150.eq_1
def S_w (nZ0:TNetwork) (fibersZ0:List Int) (v:Int×List Int):St:=⟨[(2,.pt 2 0 0),(5,.sl 5 0 v.2.length),(9,.lst .o 1 (fibersZ0.map AV.i)),(10,.i (fibersZ0.length:Int)),(11,.i v.1)],[(2,.var (.agg [.lst .o 1 (nZ0.Nodes.map AV.z),.lst .o 4 (nZ0.Fibers.map (e_TFiber .o))])),(5,.arr 1 (v.2.map AV.i))]⟩
def SX_w (v:List Int):St:=⟨[(5,.sl 5 0 v.length)],[(5,.arr 1 (v.map AV.i))]⟩
theorem w_w (nZ0:TNetwork) (fibersZ0:List Int) (sZ1:Int×List Int) (o:(Int×List Int) ⊕ (List Int)) (h:M_w nZ0 fibersZ0 sZ1=some o):AWP (OkS Tryz.prog) A145L1 (qL [2,5,9,10,11] [2,5] (S_w nZ0 fibersZ0) (qX 0 [5] [5] (SX_w)) o) (S_w nZ0 fibersZ0 sZ1):=by
 unfold M_w at h
 simp only [ZC,S_w,A145L1]
 obtain ⟨cZ2,h⟩ | ⟨cZ2,h⟩:=cond_s h
 · obtain ⟨yZ3,hyZ3,h⟩:=bind_s h
   obtain ⟨hyZ3a,hyZ3b⟩:=geti_s hyZ3
   obtain ⟨rZ4,hrZ4,h⟩:=bind_s h
   refine ZF (ZA cZ2 (ZA hyZ3a hyZ3b)) ?_
   refine ZS (ZA cZ2 (ZA hyZ3a hyZ3b)) (w_dg _ _ hrZ4) ?_
   refine ZG ?_
   obtain ⟨lZ5,hlZ5,h⟩:=bnd_s h
   have eZ6:Row.arr 1 [(.i rZ4:AV)]=Row.arr 1 (lZ5.map AV.i):=by rw [← hlZ5]; rfl
   have jjZ7:lZ5.length=1:=by rw [← hlZ5]; rfl
   obtain ⟨uZ8,huZ8,h⟩:=bind_s h
   have huZ8g:=grd_s huZ8
   obtain ⟨lZ9,hlZ9,h⟩:=bnd_s h
   have eZ10:sZ1.2.map AV.i++lZ5.map AV.i=lZ9.map AV.i:=by rw [← hlZ9,List.map_append]
   have eZ11:sZ1.2.length+1=lZ9.length:=by simp [← hlZ5,← hlZ9] <;> omega
   rw [eZ11] at huZ8g
   cases h
   exact ZL (ZA cZ2 (ZA hyZ3a (ZA hyZ3b (ZA eZ6 (ZA jjZ7 (ZA huZ8g (ZA eZ10 eZ11))))))) (ZA @S_w.eq_1 (ZA @SX_w.eq_1 (ZA hlZ5.symm (ZA hlZ9.symm jjZ7))))
 · cases h
   exact ZL cZ2 (ZA @S_w.eq_1 @SX_w.eq_1)
theorem w_ca (nZ0:TNetwork) (fibersZ0:List Int) {r:List Int} (h:M_ca nZ0 fibersZ0=some r):Ok Tryz.prog 145 [.agg [.lst .o 1 (nZ0.Nodes.map AV.z),.lst .o 4 (nZ0.Fibers.map (e_TFiber .o))],.lst .o 1 (fibersZ0.map AV.i)] ((fun r=>.lst .u 1 (r.map AV.i)) r):=by
 refine ok_of_body hmix m145 rfl ?_
 unfold M_ca at h
 simp only [ZC,A145,V145,body_eq]
 obtain ⟨oZ12,hoZ12,h⟩:=bind_s h
 try refine ZF trivial ?_
 refine join_rule0 (blk_rule0 (loop_rule (w_w nZ0 fibersZ0) hoZ12 ?_)) ?_
 · exact ZK (ZA @S_w.eq_1 @SX_w.eq_1)
 · simp only [ZC,SX_w,A145R2]
   cases h
   exact ZL trivial @V145.eq_1
theorem w_fa (xZ0:Int) {r:Int} (h:M_fa xZ0=some r):Ok Tryz.prog 161 [.sc (.int .u64 xZ0)] ((fun r=>.i r) r):=by
 refine ok_of_body hmix m161 rfl ?_
 unfold M_fa at h
 simp only [ZC,A161,V161,body_eq]
 obtain ⟨oZ2,hoZ2,h⟩:=bind_s h
 try refine ZF trivial ?_
 refine join_rule0 (sh:=(fun v=>⟨[(0,.sc (.int .u64 v.1)),(2,.i v.2)],[]⟩)) (s:=oZ2) ?_ ?_
 · replace h:=hoZ2
   obtain ⟨cZ1,h⟩ | ⟨cZ1,h⟩:=cond_s h
   · cases h
     exact ZL cZ1 trivial
   · cases h
     exact ZL cZ1 trivial
 · simp only [ZC,A161R1]
   obtain ⟨oZ4,hoZ4,h⟩:=bind_s h
   try refine ZF trivial ?_
   refine join_rule0 (sh:=(fun v=>⟨[(0,.sc (.int .u64 v.1)),(2,.i v.2)],[]⟩)) (s:=oZ4) ?_ ?_
   · replace h:=hoZ4
     obtain ⟨cZ3,h⟩ | ⟨cZ3,h⟩:=cond_s h
     · cases h
       exact ZL cZ3 trivial
     · cases h
       exact ZL cZ3 trivial
   · simp only [ZC,A161R2]
     obtain ⟨oZ6,hoZ6,h⟩:=bind_s h
     try refine ZF trivial ?_
     refine join_rule0 (sh:=(fun v=>⟨[(0,.sc (.int .u64 v.1)),(2,.i v.2)],[]⟩)) (s:=oZ6) ?_ ?_
     · replace h:=hoZ6
       obtain ⟨cZ5,h⟩ | ⟨cZ5,h⟩:=cond_s h
       · cases h
         exact ZL cZ5 trivial
       · cases h
         exact ZL cZ5 trivial
     · simp only [ZC,A161R3]
       obtain ⟨yZ7,hyZ7,h⟩:=bind_s h
       obtain ⟨hyZ7a,hyZ7b⟩:=getz_s hyZ7
       cases h
       exact ZL (ZA hyZ7a hyZ7b) @V161.eq_1
theorem w_ei (xZ0:Int) {r:Int} (h:M_ei xZ0=some r):Ok Tryz.prog 147 [.sc (.int .u64 xZ0)] ((fun r=>.i r) r):=by
 refine ok_of_body hmix m147 rfl ?_
 unfold M_ei at h
 simp only [ZC,A147,V147,body_eq]
 obtain ⟨rZ1,hrZ1,h⟩:=bind_s h
 refine ZF trivial ?_
 refine ZS trivial (w_fa _ hrZ1) ?_
 refine ZG ?_
 cases h
 exact ZL trivial @V147.eq_1
theorem w_eg (xZ0:Int) (yZ0:Int) {r:Bool} (h:M_eg xZ0 yZ0=some r):Ok Tryz.prog 157 [.i xZ0,.i yZ0] ((fun r=>.b r) r):=by
 refine ok_of_body hmix m157 rfl ?_
 unfold M_eg at h
 simp only [ZC,A157,V157,body_eq]
 obtain ⟨rZ1,hrZ1,h⟩:=bind_s h
 refine ZF trivial ?_
 refine ZS trivial (w_bj _ hrZ1) ?_
 refine ZG ?_
 obtain ⟨cZ2,h⟩ | ⟨cZ2,h⟩:=cond_s h
 · obtain ⟨rZ3,hrZ3,h⟩:=bind_s h
   refine ZF cZ2 ?_
   refine ZS cZ2 (w_bj _ hrZ3) ?_
   refine ZG ?_
   obtain ⟨cZ4,h⟩ | ⟨cZ4,h⟩:=cond_s h
   · cases h
     exact ZL (ZA cZ2 cZ4) @V157.eq_1
   · cases h
     exact ZL (ZA cZ2 cZ4) @V157.eq_1
 · cases h
   exact ZL cZ2 @V157.eq_1
def S_e (aaZ0:Int) (abZ0:Int) (sZ1:Int×List Int) (v:Int×List Int):St:=⟨[(0,.sl 1000000000 0 v.2.length),(1,.i aaZ0),(2,.i abZ0),(6,.i sZ1.1),(7,.i v.1)],[(1000000000,.arr 1 (v.2.map AV.i))]⟩
def SX_e (aaZ0:Int) (abZ0:Int) (sZ1:Int×List Int) (v:List Int):St:=⟨[(0,.sl 1000000000 0 v.length),(1,.i aaZ0),(2,.i abZ0),(6,.i sZ1.1)],[(1000000000,.arr 1 (v.map AV.i))]⟩
theorem w_e (aaZ0:Int) (abZ0:Int) (sZ1:Int×List Int) (sZ3:Int×List Int) (o:(Int×List Int) ⊕ (List Int)) (h:M_e aaZ0 sZ3=some o):AWP (OkS Tryz.prog) A151M1L2 (qL [0,1,2,6,7] [1000000000] (S_e aaZ0 abZ0 sZ1) (qX 2 [0,1,2,6] [1000000000] (SX_e aaZ0 abZ0 sZ1)) o) (S_e aaZ0 abZ0 sZ1 sZ3):=by
 unfold M_e at h
 simp only [ZC,S_e,A151M1L2]
 obtain ⟨oZ10,hoZ10,h⟩:=bind_s h
 try refine ZF trivial ?_
 refine join_rule0 (sh:=(fun v=>⟨[(0,.sl 1000000000 0 sZ3.2.length),(1,.i aaZ0),(2,.i abZ0),(6,.i sZ1.1),(7,.i sZ3.1),(30,.b v)],[(1000000000,.arr 1 (sZ3.2.map AV.i))]⟩)) (s:=oZ10) ?_ ?_
 · replace h:=hoZ10
   obtain ⟨cZ4,h⟩ | ⟨cZ4,h⟩:=cond_s h
   · obtain ⟨kZ5,hkZ5,h⟩:=bind_s h
     obtain ⟨hkZ5a,hkZ5b⟩:=grd_s hkZ5
     obtain ⟨yZ6,hyZ6,h⟩:=bind_s h
     obtain ⟨kZ7,hkZ7,h⟩:=bind_s h
     obtain ⟨hkZ7a,hkZ7b⟩:=grd_s hkZ7
     obtain ⟨yZ8,hyZ8,h⟩:=bind_s h
     obtain ⟨rZ9,hrZ9,h⟩:=bind_s h
     refine ZF (ZA cZ4 (ZA hkZ5a (ZA hkZ5b (ZA hyZ6 (ZA hkZ7a (ZA hkZ7b hyZ8)))))) ?_
     refine ZS (ZA cZ4 (ZA hkZ5a (ZA hkZ5b (ZA hyZ6 (ZA hkZ7a (ZA hkZ7b hyZ8)))))) (w_eg _ _ hrZ9) ?_
     refine ZG ?_
     cases h
     exact ZL (ZA cZ4 (ZA hkZ5a (ZA hkZ5b (ZA hyZ6 (ZA hkZ7a (ZA hkZ7b hyZ8)))))) trivial
   · cases h
     exact ZL cZ4 trivial
 · simp only [ZC,A151M1R1]
   obtain ⟨cZ11,h⟩ | ⟨cZ11,h⟩:=cond_s h
   · obtain ⟨kZ12,hkZ12,h⟩:=bind_s h
     obtain ⟨hkZ12a,hkZ12b⟩:=grd_s hkZ12
     obtain ⟨yZ13,hyZ13,h⟩:=bind_s h
     obtain ⟨kZ14,hkZ14,h⟩:=bind_s h
     obtain ⟨hkZ14a,hkZ14b⟩:=grd_s hkZ14
     obtain ⟨yZ15,hyZ15,h⟩:=bind_s h
     obtain ⟨lZ16,hlZ16,h⟩:=bnd_s h
     have eZ17:(sZ3.2.map AV.i).set (Int.toNat sZ3.1) (.i yZ13)=lZ16.map AV.i:=by rw [← hlZ16,List.map_set]
     obtain ⟨yZ18,hyZ18,h⟩:=bind_s h
     obtain ⟨lZ19,hlZ19,h⟩:=bnd_s h
     have eZ20:(lZ16.map AV.i).set (Int.toNat (IntKind.wrap .i64 (sZ3.1 - 1))) (.i yZ15)=lZ19.map AV.i:=by rw [← hlZ19,List.map_set]
     cases h
     exact ZL (ZA cZ11 (ZA hkZ12a (ZA hkZ12b (ZA hyZ13 (ZA hkZ14a (ZA hkZ14b (ZA hyZ15 (ZA eZ17 (ZA hyZ18 eZ20))))))))) (ZA @S_e.eq_1 (ZA @SX_e.eq_1 (ZA hlZ16.symm hlZ19.symm)))
   · cases h
     exact ZL cZ11 (ZA @S_e.eq_1 @SX_e.eq_1)
def S_q (aaZ0:Int) (abZ0:Int) (v:Int×List Int):St:=⟨[(0,.sl 1000000000 0 v.2.length),(1,.i aaZ0),(2,.i abZ0),(6,.i v.1)],[(1000000000,.arr 1 (v.2.map AV.i))]⟩
def SX_q (v:List Int):St:=⟨[],[(1000000000,.arr 1 (v.map AV.i))]⟩
theorem w_q (aaZ0:Int) (abZ0:Int) (sZ1:Int×List Int) (o:(Int×List Int) ⊕ (List Int)) (h:M_q aaZ0 abZ0 sZ1=some o):AWP (OkS Tryz.prog) A151M1L4 (qL [0,1,2,6] [1000000000] (S_q aaZ0 abZ0) (qX 0 [] [1000000000] (SX_q)) o) (S_q aaZ0 abZ0 sZ1):=by
 unfold M_q at h
 simp only [ZC,S_q,A151M1L4]
 obtain ⟨cZ2,h⟩ | ⟨cZ2,h⟩:=cond_s h
 · obtain ⟨oZ23,hoZ23,h⟩:=bind_s h
   try refine ZF cZ2 ?_
   refine join_rule0 (sh:=(fun v=>⟨[(0,.sl 1000000000 0 v.length),(1,.i aaZ0),(2,.i abZ0),(6,.i sZ1.1)],[(1000000000,.arr 1 (v.map AV.i))]⟩)) (s:=oZ23) ?_ ?_
   · replace h:=hoZ23
     obtain ⟨oZ21,hoZ21,h⟩:=bind_s h
     try refine ZF cZ2 ?_
     first | refine tail_rule0 (blk_rule0 (loop_rule (w_e aaZ0 abZ0 sZ1) hoZ21 ?_)) (fun τ qZ22=>?_) | refine tail_blk0 (loop_rule (w_e aaZ0 abZ0 sZ1) hoZ21 ?_) (fun τ qZ22=>?_)
     · exact ZK (ZA @S_e.eq_1 @SX_e.eq_1)
     · cases h
       try refine ZF trivial ?_
       refine ⟨rfl,Shp.sub qZ22 (by decide) (by decide) ?_⟩
       exact ZK @SX_e.eq_1
   · simp only [ZC,A151M1R3]
     cases h
     exact ZL cZ2 (ZA @S_q.eq_1 @SX_q.eq_1)
 · cases h
   exact ZL cZ2 (ZA @S_q.eq_1 @SX_q.eq_1)
theorem w_eh (aaZ0:Int) (abZ0:Int) (acZ0:List Int) {r:List Int} (h:M_eh aaZ0 abZ0 acZ0=some r):OkM Tryz.prog 151 [.sl 1000000000 0 acZ0.length,.i aaZ0,.i abZ0] [(1000000000,.arr 1 (acZ0.map AV.i))] ((fun (r:List Int)=>.tup []) r) ((fun (r:List Int)=>[(1000000000,.arr 1 (r.map AV.i))]) r):=by
 refine okM_of_body (lr:=[1000000000]) hmix m151M1 rfl rfl ?_
 unfold M_eh at h
 simp only [ZC,A151M1,V151M1]
 obtain ⟨oZ24,hoZ24,h⟩:=bind_s h
 try refine ZF trivial ?_
 first | refine tail_rule0 (blk_rule0 (loop_rule (w_q aaZ0 abZ0) hoZ24 ?_)) (fun τ qZ25=>?_) | refine tail_blk0 (loop_rule (w_q aaZ0 abZ0) hoZ24 ?_) (fun τ qZ25=>?_)
 · exact ZK (ZA @S_q.eq_1 @SX_q.eq_1)
 · cases h
   refine finM_shp qZ25 (by decide) ?_ rfl
   exact ZK (ZA @V151M1.eq_1 @SX_q.eq_1)
def S_bb (aaZ0:Int) (abZ0:Int) (acZ0:Int) (adZ0:List Int) (v:Unit):St:=⟨[(0,.sl 1000000000 0 adZ0.length),(1,.i aaZ0),(2,.i abZ0),(3,.i acZ0),(8,.b true),(9,.b true)],[(1000000000,.arr 1 (adZ0.map AV.i))]⟩
def SX_bb (v:Empty):St:=⟨[],[]⟩
theorem w_bb (aaZ0:Int) (abZ0:Int) (acZ0:Int) (adZ0:List Int) (sZ1:Unit) (o:Unit ⊕ (Empty ⊕ (List Int))) (h:M_bb aaZ0 abZ0 acZ0 adZ0 sZ1=some o):AWP (OkS Tryz.prog) A146M1L1 (qL [0,1,2,3,8,9] [1000000000] (S_bb aaZ0 abZ0 acZ0 adZ0) (qS (qX 0 [] [] (SX_bb)) (qM V146M1 [1000000000] (fun (r:List Int)=>.tup []) (fun (r:List Int)=>[(1000000000,.arr 1 (r.map AV.i))]))) o) (S_bb aaZ0 abZ0 acZ0 adZ0 sZ1):=by
 unfold M_bb at h
 simp only [ZC,S_bb,A146M1L1]
 obtain ⟨cZ2,h⟩ | ⟨cZ2,h⟩:=cond_s h
 · obtain ⟨rZ3,hrZ3,h⟩:=bind_s h
   refine ZF cZ2 ?_
   refine ZW cZ2 (w_eh _ _ _ hrZ3) (h2:=by first | exact nm_ok [1000000000] rfl (by decide +kernel) | exact nm_ok2 [1000000000] [] rfl (by decide +kernel) ZQ | exact ZQ) (hk:=?_)
   refine ZG ?_
   cases h
   exact ZL cZ2 @V146M1.eq_1
 · obtain ⟨cZ4,h⟩ | ⟨cZ4,h⟩:=cond_s h
   · cases h
   · cases h
theorem w_ex (aaZ0:Int) (abZ0:Int) (acZ0:Int) (adZ0:List Int) {r:List Int} (h:M_ex aaZ0 abZ0 acZ0 adZ0=some r):OkM Tryz.prog 146 [.sl 1000000000 0 adZ0.length,.i aaZ0,.i abZ0,.i acZ0] [(1000000000,.arr 1 (adZ0.map AV.i))] ((fun (r:List Int)=>.tup []) r) ((fun (r:List Int)=>[(1000000000,.arr 1 (r.map AV.i))]) r):=by
 refine okM_of_body (lr:=[1000000000]) hmix m146M1 rfl rfl ?_
 unfold M_ex at h
 simp only [ZC,A146M1,V146M1]
 obtain ⟨oZ5,hoZ5,h⟩:=bind_s h
 try refine ZF trivial ?_
 first | refine tail_rule (o:=oZ5) (blk_rule sideM (loop_rule (w_bb aaZ0 abZ0 acZ0 adZ0) hoZ5 ?_)) (fun vZ6 hv τ qZ8=>?_) (fun xZ7 hv e τ hne hq=>?_) | refine tail_blk (o:=oZ5) sideM (loop_rule (w_bb aaZ0 abZ0 acZ0 adZ0) hoZ5 ?_) (fun vZ6 hv τ qZ8=>?_) (fun xZ7 hv e τ hne hq=>?_)
 · exact ZK (ZA @S_bb.eq_1 @SX_bb.eq_1)
 · exact vZ6.elim
 · subst hv
   simp only [] at h
   obtain ⟨rfl,qZ9⟩:=hq
   cases h
   exact qZ9
theorem w_ej (aaZ0:List Int) {r:List Int} (h:M_ej aaZ0=some r):OkM Tryz.prog 135 [.sl 1000000000 0 aaZ0.length] [(1000000000,.arr 1 (aaZ0.map AV.i))] ((fun (r:List Int)=>.tup []) r) ((fun (r:List Int)=>[(1000000000,.arr 1 (r.map AV.i))]) r):=by
 refine okM_of_body (lr:=[1000000000]) hmix m135M1 rfl rfl ?_
 unfold M_ej at h
 simp only [ZC,A135M1,V135M1]
 obtain ⟨rZ1,hrZ1,h⟩:=bind_s h
 refine ZF trivial ?_
 refine ZS trivial (w_ei _ hrZ1) ?_
 refine ZG ?_
 obtain ⟨rZ2,hrZ2,h⟩:=bind_s h
 refine ZF trivial ?_
 refine ZW trivial (w_ex _ _ _ _ hrZ2) (h2:=by first | exact nm_ok [1000000000] rfl (by decide +kernel) | exact nm_ok2 [1000000000] [] rfl (by decide +kernel) ZQ | exact ZQ) (hk:=?_)
 refine ZG ?_
 cases h
 exact ZL trivial @V135M1.eq_1
def S_d (aaZ0:Nat) (abZ0:Nat) (sZ2:Int) (v:Int×Int×List Int):St:=⟨[(0,.sl 1000000000 aaZ0 abZ0),(3,.i v.1),(4,.sl 1000000000 (aaZ0+(Int.toNat sZ2)) (abZ0 - (Int.toNat sZ2))),(5,.i v.2.1)],[(1000000000,.arr 1 (v.2.2.map AV.i))]⟩
def SX_d (aaZ0:Nat) (abZ0:Nat) (v:Int×List Int):St:=⟨[(0,.sl 1000000000 aaZ0 abZ0),(3,.i v.1)],[(1000000000,.arr 1 (v.2.map AV.i))]⟩
theorem w_d (aaZ0:Nat) (abZ0:Nat) (sZ2:Int) (sZ10:Int×Int×List Int) (o:(Int×Int×List Int) ⊕ (Int×List Int)) (h:M_d aaZ0 abZ0 sZ2 sZ10=some o):AWP (OkS Tryz.prog) A136M1L1 (qL [0,3,4,5] [1000000000] (S_d aaZ0 abZ0 sZ2) (qX 2 [0,3] [1000000000] (SX_d aaZ0 abZ0)) o) (S_d aaZ0 abZ0 sZ2 sZ10):=by
 unfold M_d at h
 simp only [ZC,S_d,A136M1L1]
 obtain ⟨cZ11,h⟩ | ⟨cZ11,h⟩:=cond_s h
 · obtain ⟨kZ12,hkZ12,h⟩:=bind_s h
   obtain ⟨hkZ12a,hkZ12b⟩:=grd_s hkZ12
   obtain ⟨yZ13,hyZ13,h⟩:=bind_s h
   obtain ⟨kZ14,hkZ14,h⟩:=bind_s h
   obtain ⟨hkZ14a,hkZ14b⟩:=grd_s hkZ14
   obtain ⟨yZ15,hyZ15,h⟩:=bind_s h
   obtain ⟨cZ16,h⟩ | ⟨cZ16,h⟩:=cond_s h
   · obtain ⟨kZ17,hkZ17,h⟩:=bind_s h
     obtain ⟨hkZ17a,hkZ17b⟩:=grd_s hkZ17
     obtain ⟨yZ18,hyZ18,h⟩:=bind_s h
     obtain ⟨lZ19,hlZ19,h⟩:=bnd_s h
     have eZ20:(sZ10.2.2.map AV.i).set (aaZ0+(Int.toNat sZ10.1)) (.i yZ13)=lZ19.map AV.i:=by rw [← hlZ19,List.map_set]
     cases h
     exact ZL (ZA cZ11 (ZA hkZ12a (ZA hkZ12b (ZA hyZ13 (ZA hkZ14a (ZA hkZ14b (ZA hyZ15 (ZA cZ16 (ZA hkZ17a (ZA hkZ17b (ZA hyZ18 eZ20))))))))))) (ZA @S_d.eq_1 (ZA @SX_d.eq_1 hlZ19.symm))
   · cases h
     exact ZL (ZA cZ11 (ZA hkZ12a (ZA hkZ12b (ZA hyZ13 (ZA hkZ14a (ZA hkZ14b (ZA hyZ15 cZ16))))))) (ZA @S_d.eq_1 @SX_d.eq_1)
 · cases h
   exact ZL cZ11 (ZA @S_d.eq_1 @SX_d.eq_1)
def S_s (aaZ0:Nat) (abZ0:Nat) (acZ0:List Int) (v:Int):St:=⟨[(0,.sl 1000000000 aaZ0 abZ0),(3,.i v)],[(1000000000,.arr 1 (acZ0.map AV.i))]⟩
def SX_s (aaZ0:Nat) (abZ0:Nat) (acZ0:List Int) (v:Unit):St:=⟨[(0,.sl 1000000000 aaZ0 abZ0)],[(1000000000,.arr 1 (acZ0.map AV.i))]⟩
theorem w_s (aaZ0:Nat) (abZ0:Nat) (acZ0:List Int) (sZ2:Int) (o:Int ⊕ (Unit ⊕ (Nat×Nat×List Int))) (h:M_s aaZ0 abZ0 acZ0 sZ2=some o):AWP (OkS Tryz.prog) A136M1L3 (qL [0,3] [1000000000] (S_s aaZ0 abZ0 acZ0) (qS (qX 0 [0] [1000000000] (SX_s aaZ0 abZ0 acZ0)) (qM V136M1 [1000000000] (fun (r:Nat×Nat×List Int)=>.sl 1000000000 r.1 r.2.1) (fun (r:Nat×Nat×List Int)=>[(1000000000,.arr 1 (r.2.2.map AV.i))]))) o) (S_s aaZ0 abZ0 acZ0 sZ2):=by
 unfold M_s at h
 simp only [ZC,S_s,A136M1L3]
 obtain ⟨cZ3,h⟩ | ⟨cZ3,h⟩:=cond_s h
 · obtain ⟨kZ4,hkZ4,h⟩:=bind_s h
   obtain ⟨hkZ4a,hkZ4b⟩:=grd_s hkZ4
   obtain ⟨yZ5,hyZ5,h⟩:=bind_s h
   obtain ⟨kZ6,hkZ6,h⟩:=bind_s h
   obtain ⟨hkZ6a,hkZ6b⟩:=grd_s hkZ6
   obtain ⟨yZ7,hyZ7,h⟩:=bind_s h
   obtain ⟨cZ8,h⟩ | ⟨cZ8,h⟩:=cond_s h
   · obtain ⟨uZ9,huZ9,h⟩:=bind_s h
     obtain ⟨huZ9a,huZ9b,huZ9c,huZ9d⟩:=grd_s huZ9
     obtain ⟨oZ21,hoZ21,h⟩:=bind_s h
     try refine ZF (ZA cZ3 (ZA hkZ4a (ZA hkZ4b (ZA hyZ5 (ZA hkZ6a (ZA hkZ6b (ZA hyZ7 (ZA cZ8 (ZA huZ9a (ZA huZ9b (ZA huZ9c huZ9d))))))))))) ?_
     refine join_rule0 (blk_rule0 (loop_rule (w_d aaZ0 abZ0 sZ2) hoZ21 ?_)) ?_
     · exact ZK (ZA @S_d.eq_1 @SX_d.eq_1)
     · simp only [ZC,SX_d,A136M1R2]
       obtain ⟨uZ22,huZ22,h⟩:=bind_s h
       obtain ⟨huZ22a,huZ22b,huZ22c,huZ22d⟩:=grd_s huZ22
       obtain ⟨lZ23,hlZ23,h⟩:=bnd_s h
       have eZ24:over (oZ21.2.map AV.i) (aaZ0+(Int.toNat oZ21.1)) (List.replicate (abZ0 - (Int.toNat oZ21.1)) (.i 0:AV))=lZ23.map AV.i:=by rw [← hlZ23,← over_map] <;> simp [List.map_take]
       try simp only [Int.toNat_natCast] at eZ24
       have eZ25:lZ23.length=oZ21.2.length:=by rw [← hlZ23]; exact over_length _ _ _
       obtain ⟨uZ26,huZ26,h⟩:=bind_s h
       obtain ⟨huZ26a,huZ26b,huZ26c,huZ26d⟩:=grd_s huZ26
       cases h
       exact ZL (ZA cZ3 (ZA hkZ4a (ZA hkZ4b (ZA hyZ5 (ZA hkZ6a (ZA hkZ6b (ZA hyZ7 (ZA cZ8 (ZA huZ9a (ZA huZ9b (ZA huZ9c (ZA huZ9d (ZA huZ22a (ZA huZ22b (ZA huZ22c (ZA huZ22d (ZA eZ24 (ZA huZ26a (ZA huZ26b (ZA huZ26c huZ26d)))))))))))))))))))) (ZA @V136M1.eq_1 eZ25)
   · cases h
     exact ZL (ZA cZ3 (ZA hkZ4a (ZA hkZ4b (ZA hyZ5 (ZA hkZ6a (ZA hkZ6b (ZA hyZ7 cZ8))))))) (ZA @S_s.eq_1 @SX_s.eq_1)
 · cases h
   exact ZL cZ3 (ZA @S_s.eq_1 @SX_s.eq_1)
theorem w_dc (aaZ0:Nat) (abZ0:Nat) (acZ0:List Int) {r:Nat×Nat×List Int} (h:M_dc aaZ0 abZ0 acZ0=some r):OkM Tryz.prog 136 [.sl 1000000000 aaZ0 abZ0] [(1000000000,.arr 1 (acZ0.map AV.i))] ((fun (r:Nat×Nat×List Int)=>.sl 1000000000 r.1 r.2.1) r) ((fun (r:Nat×Nat×List Int)=>[(1000000000,.arr 1 (r.2.2.map AV.i))]) r):=by
 refine okM_of_body (lr:=[1000000000]) hmix m136M1 rfl rfl ?_
 unfold M_dc at h
 simp only [ZC,A136M1,V136M1]
 obtain ⟨cZ1,h⟩ | ⟨cZ1,h⟩:=cond_s h
 · cases h
   exact ZL cZ1 @V136M1.eq_1
 · obtain ⟨oZ27,hoZ27,h⟩:=bind_s h
   try refine ZF cZ1 ?_
   refine join_rule (o:=oZ27) (blk_rule sideM (loop_rule (w_s aaZ0 abZ0 acZ0) hoZ27 ?_)) (fun vZ28 hv=>?_) (fun xZ29 hv e τ hne hq=>?_)
   · exact ZK (ZA @S_s.eq_1 @SX_s.eq_1)
   · subst hv
     simp only [] at h
     simp only [ZC,SX_s,A136M1R4]
     cases h
     exact ZL cZ1 @V136M1.eq_1
   · subst hv
     simp only [] at h
     obtain ⟨rfl,qZ30⟩:=hq
     cases h
     exact qZ30
def S_c (aZ0:List Int) (bZ0:List Int) (v:Int×List Int):St:=⟨[(1,.lst .o 1 (bZ0.map AV.i)),(5,.sl 5 0 v.2.length),(9,.lst .o 1 (aZ0.map AV.i)),(10,.i (aZ0.length:Int)),(11,.i v.1)],[(5,.arr 1 (v.2.map AV.i))]⟩
def SX_c (v:List Int):St:=⟨[(5,.sl 5 0 v.length)],[(5,.arr 1 (v.map AV.i))]⟩
theorem w_c (aZ0:List Int) (bZ0:List Int) (sZ1:Int×List Int) (o:(Int×List Int) ⊕ (List Int)) (h:M_c aZ0 bZ0 sZ1=some o):AWP (OkS Tryz.prog) A113L1 (qL [1,5,9,10,11] [5] (S_c aZ0 bZ0) (qX 0 [5] [5] (SX_c)) o) (S_c aZ0 bZ0 sZ1):=by
 unfold M_c at h
 simp only [ZC,S_c,A113L1]
 obtain ⟨cZ2,h⟩ | ⟨cZ2,h⟩:=cond_s h
 · obtain ⟨yZ3,hyZ3,h⟩:=bind_s h
   obtain ⟨hyZ3a,hyZ3b⟩:=geti_s hyZ3
   obtain ⟨rZ4,hrZ4,h⟩:=bind_s h
   refine ZF (ZA cZ2 (ZA hyZ3a hyZ3b)) ?_
   refine ZS (ZA cZ2 (ZA hyZ3a hyZ3b)) (w_bo _ _ hrZ4) ?_
   refine ZG ?_
   obtain ⟨cZ5,h⟩ | ⟨cZ5,h⟩:=cond_s h
   · obtain ⟨lZ6,hlZ6,h⟩:=bnd_s h
     have eZ7:Row.arr 1 [(.i yZ3:AV)]=Row.arr 1 (lZ6.map AV.i):=by rw [← hlZ6]; rfl
     have jjZ8:lZ6.length=1:=by rw [← hlZ6]; rfl
     obtain ⟨uZ9,huZ9,h⟩:=bind_s h
     have huZ9g:=grd_s huZ9
     obtain ⟨lZ10,hlZ10,h⟩:=bnd_s h
     have eZ11:sZ1.2.map AV.i++lZ6.map AV.i=lZ10.map AV.i:=by rw [← hlZ10,List.map_append]
     have eZ12:sZ1.2.length+1=lZ10.length:=by simp [← hlZ6,← hlZ10] <;> omega
     rw [eZ12] at huZ9g
     cases h
     exact ZL (ZA cZ2 (ZA hyZ3a (ZA hyZ3b (ZA cZ5 (ZA eZ7 (ZA jjZ8 (ZA huZ9g (ZA eZ11 eZ12)))))))) (ZA @S_c.eq_1 (ZA @SX_c.eq_1 (ZA hlZ6.symm (ZA hlZ10.symm jjZ8))))
   · cases h
     exact ZL (ZA cZ2 (ZA hyZ3a (ZA hyZ3b cZ5))) (ZA @S_c.eq_1 @SX_c.eq_1)
 · cases h
   exact ZL cZ2 (ZA @S_c.eq_1 @SX_c.eq_1)
theorem w_bv (aZ0:List Int) (bZ0:List Int) {r:List Int} (h:M_bv aZ0 bZ0=some r):Ok Tryz.prog 113 [.lst .o 1 (aZ0.map AV.i),.lst .o 1 (bZ0.map AV.i)] ((fun r=>.lst .u 1 (r.map AV.i)) r):=by
 refine ok_of_body hmix m113 rfl ?_
 unfold M_bv at h
 simp only [ZC,A113,V113,body_eq]
 obtain ⟨oZ13,hoZ13,h⟩:=bind_s h
 try refine ZF trivial ?_
 refine join_rule0 (blk_rule0 (loop_rule (w_c aZ0 bZ0) hoZ13 ?_)) ?_
 · exact ZK (ZA @S_c.eq_1 @SX_c.eq_1)
 · simp only [ZC,SX_c,A113R2]
   obtain ⟨rZ14,hrZ14,h⟩:=bind_s h
   refine ZF trivial ?_
   refine ZW trivial (w_ej _ hrZ14) (h2:=by first | exact nm_ok [1000000000] rfl (by decide +kernel) | exact nm_ok2 [1000000000] [] rfl (by decide +kernel) ZQ | exact ZQ) (hk:=?_)
   refine ZG ?_
   obtain ⟨rZ15,hrZ15,h⟩:=bind_s h
   refine ZF trivial ?_
   refine ZW trivial (w_dc _ _ _ hrZ15) (h2:=by first | exact nm_ok [1000000000] rfl (by decide +kernel) | exact nm_ok2 [1000000000] [] rfl (by decide +kernel) ZQ | exact ZQ) (hk:=?_)
   refine ZG ?_
   obtain ⟨lZ16,hlZ16,h⟩:=bnd_s h
   have eZ17:sub (rZ15.2.2.map AV.i) rZ15.1 rZ15.2.1=lZ16.map AV.i:=by rw [sub_mapT,hlZ16]
   cases h
   exact ZL eZ17 @V113.eq_1
theorem w_cb (nZ0:TNetwork) (aZ0:List Int) (bZ0:List Int) {r:Bool} (h:M_cb nZ0 aZ0 bZ0=some r):Ok Tryz.prog 133 [.agg [.lst .o 1 (nZ0.Nodes.map AV.z),.lst .o 4 (nZ0.Fibers.map (e_TFiber .o))],.lst .o 1 (aZ0.map AV.i),.lst .o 1 (bZ0.map AV.i)] ((fun r=>.b r) r):=by
 refine ok_of_body hmix m133 rfl ?_
 unfold M_cb at h
 simp only [ZC,A133,V133,body_eq]
 obtain ⟨rZ1,hrZ1,h⟩:=bind_s h
 refine ZF trivial ?_
 refine ZU trivial (w_ca _ _ hrZ1) ?_
 refine ZG ?_
 obtain ⟨rZ2,hrZ2,h⟩:=bind_s h
 refine ZF trivial ?_
 refine ZU trivial (w_ca _ _ hrZ2) ?_
 refine ZG ?_
 obtain ⟨rZ3,hrZ3,h⟩:=bind_s h
 refine ZF trivial ?_
 refine ZU trivial (w_bv _ _ hrZ3) ?_
 refine ZG ?_
 cases h
 exact ZL trivial @V133.eq_1
theorem w_cx (nZ0:TNetwork) (sZ0:TService) {r:Bool} (h:M_cx nZ0 sZ0=some r):Ok Tryz.prog 95 [.agg [.lst .o 1 (nZ0.Nodes.map AV.z),.lst .o 4 (nZ0.Fibers.map (e_TFiber .o))],.agg [.i sZ0.Id,.i sZ0.Class,.i sZ0.Work.Start,.lst .o 1 (sZ0.Work.Fibers.map AV.i),.i sZ0.WorkBlock.First,.i sZ0.WorkBlock.Count,.i sZ0.Spare.Start,.lst .o 1 (sZ0.Spare.Fibers.map AV.i),.i sZ0.SpareBlock.First,.i sZ0.SpareBlock.Count]] ((fun r=>.b r) r):=by
 refine ok_of_body hmix m95 rfl ?_
 unfold M_cx at h
 simp only [ZC,A95,V95,body_eq]
 obtain ⟨rZ1,hrZ1,h⟩:=bind_s h
 refine ZF trivial ?_
 refine ZU trivial (w_cg _ _ hrZ1) ?_
 refine ZG ?_
 obtain ⟨oZ8,hoZ8,h⟩:=bind_s h
 try refine ZF trivial ?_
 refine join_rule0 (sh:=(fun v=>⟨[(2,.pt 2 0 0),(3,.pt 3 0 0),(5,.sl 5 0 rZ1.1.length),(35,.b v)],[(2,.var (.agg [.lst .o 1 (nZ0.Nodes.map AV.z),.lst .o 4 (nZ0.Fibers.map (e_TFiber .o))])),(3,.var (.agg [.i sZ0.Id,.i sZ0.Class,.i sZ0.Work.Start,.lst .o 1 (sZ0.Work.Fibers.map AV.i),.i sZ0.WorkBlock.First,.i sZ0.WorkBlock.Count,.i sZ0.Spare.Start,.lst .o 1 (sZ0.Spare.Fibers.map AV.i),.i sZ0.SpareBlock.First,.i sZ0.SpareBlock.Count])),(5,.arr 1 (rZ1.1.map AV.i))]⟩)) (s:=oZ8) ?_ ?_
 · replace h:=hoZ8
   obtain ⟨rZ2,hrZ2,h⟩:=bind_s h
   refine ZF trivial ?_
   refine ZS trivial (w_n _ _ _ hrZ2) ?_
   refine ZG ?_
   obtain ⟨cZ3,h⟩ | ⟨cZ3,h⟩:=cond_s h
   · cases h
     exact ZL cZ3 trivial
   · obtain ⟨rZ4,hrZ4,h⟩:=bind_s h
     refine ZF cZ3 ?_
     refine ZS cZ3 (w_n _ _ _ hrZ4) ?_
     refine ZG ?_
     obtain ⟨cZ5,h⟩ | ⟨cZ5,h⟩:=cond_s h
     · cases h
       exact ZL (ZA cZ3 cZ5) trivial
     · obtain ⟨cZ6,h⟩ | ⟨cZ6,h⟩:=cond_s h
       · cases h
         exact ZL (ZA cZ3 (ZA cZ5 cZ6)) trivial
       · obtain ⟨rZ7,hrZ7,h⟩:=bind_s h
         refine ZF (ZA cZ3 (ZA cZ5 cZ6)) ?_
         refine ZS (ZA cZ3 (ZA cZ5 cZ6)) (w_bx _ hrZ7) ?_
         refine ZG ?_
         cases h
         exact ZL (ZA cZ3 (ZA cZ5 cZ6)) trivial
 · simp only [ZC,A95R1]
   obtain ⟨cZ9,h⟩ | ⟨cZ9,h⟩:=cond_s h
   · cases h
     exact ZL cZ9 @V95.eq_1
   · obtain ⟨cZ10,h⟩ | ⟨cZ10,h⟩:=cond_s h
     · obtain ⟨oZ13,hoZ13,h⟩:=bind_s h
       try refine ZF (ZA cZ9 cZ10) ?_
       refine join_rule0 (sh:=(fun v=>⟨[(4,.b v)],[]⟩)) (s:=oZ13) ?_ ?_
       · replace h:=hoZ13
         obtain ⟨cZ11,h⟩ | ⟨cZ11,h⟩:=cond_s h
         · obtain ⟨cZ12,h⟩ | ⟨cZ12,h⟩:=cond_s h
           · cases h
             exact ZL (ZA cZ9 (ZA cZ10 (ZA cZ11 cZ12))) trivial
           · cases h
             exact ZL (ZA cZ9 (ZA cZ10 (ZA cZ11 cZ12))) trivial
         · cases h
           exact ZL (ZA cZ9 (ZA cZ10 cZ11)) trivial
       · simp only [ZC,A95R2]
         cases h
         exact ZL (ZA cZ9 cZ10) @V95.eq_1
     · obtain ⟨rZ14,hrZ14,h⟩:=bind_s h
       refine ZF (ZA cZ9 cZ10) ?_
       refine ZU (ZA cZ9 cZ10) (w_cg _ _ hrZ14) ?_
       refine ZG ?_
       obtain ⟨cZ15,h⟩ | ⟨cZ15,h⟩:=cond_s h
       · obtain ⟨rZ16,hrZ16,h⟩:=bind_s h
         refine ZF (ZA cZ9 (ZA cZ10 cZ15)) ?_
         refine ZS (ZA cZ9 (ZA cZ10 cZ15)) (w_bx _ hrZ16) ?_
         refine ZG ?_
         obtain ⟨cZ17,h⟩ | ⟨cZ17,h⟩:=cond_s h
         · obtain ⟨kZ18,hkZ18,h⟩:=bind_s h
           obtain ⟨hkZ18a,hkZ18b⟩:=grd_s hkZ18
           obtain ⟨yZ19,hyZ19,h⟩:=bind_s h
           obtain ⟨kZ20,hkZ20,h⟩:=bind_s h
           obtain ⟨hkZ20a,hkZ20b⟩:=grd_s hkZ20
           obtain ⟨yZ21,hyZ21,h⟩:=bind_s h
           obtain ⟨cZ22,h⟩ | ⟨cZ22,h⟩:=cond_s h
           · obtain ⟨kZ23,hkZ23,h⟩:=bind_s h
             obtain ⟨hkZ23a,hkZ23b⟩:=grd_s hkZ23
             obtain ⟨yZ24,hyZ24,h⟩:=bind_s h
             obtain ⟨kZ25,hkZ25,h⟩:=bind_s h
             obtain ⟨hkZ25a,hkZ25b⟩:=grd_s hkZ25
             obtain ⟨yZ26,hyZ26,h⟩:=bind_s h
             obtain ⟨cZ27,h⟩ | ⟨cZ27,h⟩:=cond_s h
             · obtain ⟨rZ28,hrZ28,h⟩:=bind_s h
               refine ZF (ZA cZ9 (ZA cZ10 (ZA cZ15 (ZA cZ17 (ZA hkZ18a (ZA hkZ18b (ZA hyZ19 (ZA hkZ20a (ZA hkZ20b (ZA hyZ21 (ZA cZ22 (ZA hkZ23a (ZA hkZ23b (ZA hyZ24 (ZA hkZ25a (ZA hkZ25b (ZA hyZ26 cZ27))))))))))))))))) ?_
               refine ZS (ZA cZ9 (ZA cZ10 (ZA cZ15 (ZA cZ17 (ZA hkZ18a (ZA hkZ18b (ZA hyZ19 (ZA hkZ20a (ZA hkZ20b (ZA hyZ21 (ZA cZ22 (ZA hkZ23a (ZA hkZ23b (ZA hyZ24 (ZA hkZ25a (ZA hkZ25b (ZA hyZ26 cZ27))))))))))))))))) (w_cb _ _ _ hrZ28) ?_
               refine ZG ?_
               cases h
               exact ZL (ZA cZ9 (ZA cZ10 (ZA cZ15 (ZA cZ17 (ZA hkZ18a (ZA hkZ18b (ZA hyZ19 (ZA hkZ20a (ZA hkZ20b (ZA hyZ21 (ZA cZ22 (ZA hkZ23a (ZA hkZ23b (ZA hyZ24 (ZA hkZ25a (ZA hkZ25b (ZA hyZ26 cZ27))))))))))))))))) @V95.eq_1
             · cases h
               exact ZL (ZA cZ9 (ZA cZ10 (ZA cZ15 (ZA cZ17 (ZA hkZ18a (ZA hkZ18b (ZA hyZ19 (ZA hkZ20a (ZA hkZ20b (ZA hyZ21 (ZA cZ22 (ZA hkZ23a (ZA hkZ23b (ZA hyZ24 (ZA hkZ25a (ZA hkZ25b (ZA hyZ26 cZ27))))))))))))))))) @V95.eq_1
           · cases h
             exact ZL (ZA cZ9 (ZA cZ10 (ZA cZ15 (ZA cZ17 (ZA hkZ18a (ZA hkZ18b (ZA hyZ19 (ZA hkZ20a (ZA hkZ20b (ZA hyZ21 cZ22)))))))))) @V95.eq_1
         · cases h
           exact ZL (ZA cZ9 (ZA cZ10 (ZA cZ15 cZ17))) @V95.eq_1
       · cases h
         exact ZL (ZA cZ9 (ZA cZ10 cZ15)) @V95.eq_1
theorem w_by (bZ0:TBlock) {r:Int} (h:M_by bZ0=some r):Ok Tryz.prog 81 [.agg [.i bZ0.First,.i bZ0.Count]] ((fun r=>.i r) r):=by
 refine ok_of_body hmix m81 rfl ?_
 unfold M_by at h
 simp only [ZC,A81,V81,body_eq]
 obtain ⟨uZ1,huZ1,h⟩:=bind_s h
 have huZ1g:=grd_s huZ1
 obtain ⟨uZ2,huZ2,h⟩:=bind_s h
 have huZ2g:=grd_s huZ2
 cases h
 exact ZL (ZA huZ1g huZ2g) @V81.eq_1
theorem w_es (aZ0:TLight) (bZ0:TLight) {r:Bool} (h:M_es aZ0 bZ0=some r):Ok Tryz.prog 137 [.agg [.i aZ0.Id,.i aZ0.Route.Start,.lst .o 1 (aZ0.Route.Fibers.map AV.i),.i aZ0.Block.First,.i aZ0.Block.Count],.agg [.i bZ0.Id,.i bZ0.Route.Start,.lst .o 1 (bZ0.Route.Fibers.map AV.i),.i bZ0.Block.First,.i bZ0.Block.Count]] ((fun r=>.b r) r):=by
 refine ok_of_body hmix m137 rfl ?_
 unfold M_es at h
 simp only [ZC,A137,V137,body_eq]
 obtain ⟨rZ1,hrZ1,h⟩:=bind_s h
 refine ZF trivial ?_
 refine ZS trivial (w_by _ hrZ1) ?_
 refine ZG ?_
 obtain ⟨rZ2,hrZ2,h⟩:=bind_s h
 refine ZF trivial ?_
 refine ZS trivial (w_by _ hrZ2) ?_
 refine ZG ?_
 obtain ⟨cZ3,h⟩ | ⟨cZ3,h⟩:=cond_s h
 · obtain ⟨rZ4,hrZ4,h⟩:=bind_s h
   refine ZF cZ3 ?_
   refine ZU cZ3 (w_bv _ _ hrZ4) ?_
   refine ZG ?_
   cases h
   exact ZL cZ3 @V137.eq_1
 · cases h
   exact ZL cZ3 @V137.eq_1
theorem w_be (aZ0:TRoute) (xZ0:TBlock) (bZ0:TRoute) (yZ0:TBlock) {r:Bool} (h:M_be aZ0 xZ0 bZ0 yZ0=some r):Ok Tryz.prog 115 [.agg [.i aZ0.Start,.lst .o 1 (aZ0.Fibers.map AV.i)],.agg [.i xZ0.First,.i xZ0.Count],.agg [.i bZ0.Start,.lst .o 1 (bZ0.Fibers.map AV.i)],.agg [.i yZ0.First,.i yZ0.Count]] ((fun r=>.b r) r):=by
 refine ok_of_body hmix m115 rfl ?_
 unfold M_be at h
 simp only [ZC,A115,V115,body_eq]
 obtain ⟨rZ1,hrZ1,h⟩:=bind_s h
 refine ZF trivial ?_
 refine ZS trivial (w_es _ _ hrZ1) ?_
 refine ZG ?_
 cases h
 exact ZL trivial @V115.eq_1
theorem w_cy (nZ0:TNetwork) (aZ0:TService) (bZ0:TService) {r:Bool} (h:M_cy nZ0 aZ0 bZ0=some r):Ok Tryz.prog 98 [.agg [.lst .o 1 (nZ0.Nodes.map AV.z),.lst .o 4 (nZ0.Fibers.map (e_TFiber .o))],.agg [.i aZ0.Id,.i aZ0.Class,.i aZ0.Work.Start,.lst .o 1 (aZ0.Work.Fibers.map AV.i),.i aZ0.WorkBlock.First,.i aZ0.WorkBlock.Count,.i aZ0.Spare.Start,.lst .o 1 (aZ0.Spare.Fibers.map AV.i),.i aZ0.SpareBlock.First,.i aZ0.SpareBlock.Count],.agg [.i bZ0.Id,.i bZ0.Class,.i bZ0.Work.Start,.lst .o 1 (bZ0.Work.Fibers.map AV.i),.i bZ0.WorkBlock.First,.i bZ0.WorkBlock.Count,.i bZ0.Spare.Start,.lst .o 1 (bZ0.Spare.Fibers.map AV.i),.i bZ0.SpareBlock.First,.i bZ0.SpareBlock.Count]] ((fun r=>.b r) r):=by
 refine ok_of_body hmix m98 rfl ?_
 unfold M_cy at h
 simp only [ZC,A98,V98,body_eq]
 obtain ⟨oZ6,hoZ6,h⟩:=bind_s h
 try refine ZF trivial ?_
 refine join_rule0 (sh:=(fun v=>⟨[(3,.pt 3 0 0),(4,.pt 4 0 0),(5,.pt 5 0 0),(38,.b v)],[(3,.var (.agg [.lst .o 1 (nZ0.Nodes.map AV.z),.lst .o 4 (nZ0.Fibers.map (e_TFiber .o))])),(4,.var (.agg [.i aZ0.Id,.i aZ0.Class,.i aZ0.Work.Start,.lst .o 1 (aZ0.Work.Fibers.map AV.i),.i aZ0.WorkBlock.First,.i aZ0.WorkBlock.Count,.i aZ0.Spare.Start,.lst .o 1 (aZ0.Spare.Fibers.map AV.i),.i aZ0.SpareBlock.First,.i aZ0.SpareBlock.Count])),(5,.var (.agg [.i bZ0.Id,.i bZ0.Class,.i bZ0.Work.Start,.lst .o 1 (bZ0.Work.Fibers.map AV.i),.i bZ0.WorkBlock.First,.i bZ0.WorkBlock.Count,.i bZ0.Spare.Start,.lst .o 1 (bZ0.Spare.Fibers.map AV.i),.i bZ0.SpareBlock.First,.i bZ0.SpareBlock.Count]))]⟩)) (s:=oZ6) ?_ ?_
 · replace h:=hoZ6
   obtain ⟨rZ1,hrZ1,h⟩:=bind_s h
   refine ZF trivial ?_
   refine ZS trivial (w_be _ _ _ _ hrZ1) ?_
   refine ZG ?_
   obtain ⟨cZ2,h⟩ | ⟨cZ2,h⟩:=cond_s h
   · cases h
     exact ZL cZ2 trivial
   · obtain ⟨rZ3,hrZ3,h⟩:=bind_s h
     refine ZF cZ2 ?_
     refine ZS cZ2 (w_be _ _ _ _ hrZ3) ?_
     refine ZG ?_
     obtain ⟨cZ4,h⟩ | ⟨cZ4,h⟩:=cond_s h
     · cases h
       exact ZL (ZA cZ2 cZ4) trivial
     · obtain ⟨rZ5,hrZ5,h⟩:=bind_s h
       refine ZF (ZA cZ2 cZ4) ?_
       refine ZS (ZA cZ2 cZ4) (w_be _ _ _ _ hrZ5) ?_
       refine ZG ?_
       cases h
       exact ZL (ZA cZ2 cZ4) trivial
 · simp only [ZC,A98R1]
   obtain ⟨cZ7,h⟩ | ⟨cZ7,h⟩:=cond_s h
   · cases h
     exact ZL cZ7 @V98.eq_1
   · obtain ⟨oZ11,hoZ11,h⟩:=bind_s h
     try refine ZF cZ7 ?_
     refine join_rule0 (sh:=(fun v=>⟨[(4,.pt 4 0 0),(5,.pt 5 0 0),(7,.b v)],[(4,.var (.agg [.i aZ0.Id,.i aZ0.Class,.i aZ0.Work.Start,.lst .o 1 (aZ0.Work.Fibers.map AV.i),.i aZ0.WorkBlock.First,.i aZ0.WorkBlock.Count,.i aZ0.Spare.Start,.lst .o 1 (aZ0.Spare.Fibers.map AV.i),.i aZ0.SpareBlock.First,.i aZ0.SpareBlock.Count])),(5,.var (.agg [.i bZ0.Id,.i bZ0.Class,.i bZ0.Work.Start,.lst .o 1 (bZ0.Work.Fibers.map AV.i),.i bZ0.WorkBlock.First,.i bZ0.WorkBlock.Count,.i bZ0.Spare.Start,.lst .o 1 (bZ0.Spare.Fibers.map AV.i),.i bZ0.SpareBlock.First,.i bZ0.SpareBlock.Count]))]⟩)) (s:=oZ11) ?_ ?_
     · replace h:=hoZ11
       obtain ⟨cZ8,h⟩ | ⟨cZ8,h⟩:=cond_s h
       · obtain ⟨cZ9,h⟩ | ⟨cZ9,h⟩:=cond_s h
         · obtain ⟨rZ10,hrZ10,h⟩:=bind_s h
           refine ZF (ZA cZ7 (ZA cZ8 cZ9)) ?_
           refine ZS (ZA cZ7 (ZA cZ8 cZ9)) (w_cb _ _ _ hrZ10) ?_
           refine ZG ?_
           cases h
           exact ZL (ZA cZ7 (ZA cZ8 cZ9)) trivial
         · cases h
           exact ZL (ZA cZ7 (ZA cZ8 cZ9)) trivial
       · cases h
         exact ZL (ZA cZ7 cZ8) trivial
     · simp only [ZC,A98R2]
       obtain ⟨cZ12,h⟩ | ⟨cZ12,h⟩:=cond_s h
       · cases h
         exact ZL (ZA cZ7 cZ12) @V98.eq_1
       · obtain ⟨rZ13,hrZ13,h⟩:=bind_s h
         refine ZF (ZA cZ7 cZ12) ?_
         refine ZS (ZA cZ7 cZ12) (w_be _ _ _ _ hrZ13) ?_
         refine ZG ?_
         cases h
         exact ZL (ZA cZ7 cZ12) @V98.eq_1
theorem w_bu (ownZ0:TService) (p1Z0:TNetwork) (p2Z0:TService) {r:Bool} (h:M_bu ownZ0 p1Z0 p2Z0=some r):Ok Tryz.prog 97 [.agg [.i ownZ0.Id,.i ownZ0.Class,.i ownZ0.Work.Start,.lst .o 1 (ownZ0.Work.Fibers.map AV.i),.i ownZ0.WorkBlock.First,.i ownZ0.WorkBlock.Count,.i ownZ0.Spare.Start,.lst .o 1 (ownZ0.Spare.Fibers.map AV.i),.i ownZ0.SpareBlock.First,.i ownZ0.SpareBlock.Count],.bp .o (.agg [.lst .o 1 (p1Z0.Nodes.map AV.z),.lst .o 4 (p1Z0.Fibers.map (e_TFiber .o))]) 0,.bp .o (.agg [.i p2Z0.Id,.i p2Z0.Class,.i p2Z0.Work.Start,.lst .o 1 (p2Z0.Work.Fibers.map AV.i),.i p2Z0.WorkBlock.First,.i p2Z0.WorkBlock.Count,.i p2Z0.Spare.Start,.lst .o 1 (p2Z0.Spare.Fibers.map AV.i),.i p2Z0.SpareBlock.First,.i p2Z0.SpareBlock.Count]) 0] ((fun r=>.b r) r):=by
 refine ok_of_body hmix m97 rfl ?_
 unfold M_bu at h
 simp only [ZC,A97,V97,body_eq]
 obtain ⟨rZ1,hrZ1,h⟩:=bind_s h
 refine ZF trivial ?_
 refine ZS trivial (w_cy _ _ _ hrZ1) ?_
 refine ZG ?_
 cases h
 exact ZL trivial @V97.eq_1
theorem w_bq (sZ0:List TService) (fZ0:TService→Option Bool) {r:Bool} (h:M_bq sZ0 fZ0=some r) (F_fZ0:Nat) (C_fZ0:List AV) (hC_fZ0:Fixed C_fZ0) (hf_fZ0:∀ (x0:TService) (r:Bool),fZ0 x0=some r→Ok Tryz.prog F_fZ0 ((.agg [.i x0.Id,.i x0.Class,.i x0.Work.Start,.lst .o 1 (x0.Work.Fibers.map AV.i),.i x0.WorkBlock.First,.i x0.WorkBlock.Count,.i x0.Spare.Start,.lst .o 1 (x0.Spare.Fibers.map AV.i),.i x0.SpareBlock.First,.i x0.SpareBlock.Count])::C_fZ0) (.b r)):Ok Tryz.prog 96 [.lst .o 10 (sZ0.map (e_TService .o)),.fn F_fZ0 C_fZ0] ((fun r=>.b r) r):=by
 refine ok_of_body hmix m96 rfl ?_
 unfold M_bq at h
 simp only [ZC,A96,V96,body_eq]
 obtain ⟨rZ1,hrZ1,h⟩:=bind_s h
 refine ZF trivial ?_
 refine ZS hC_fZ0.1 (w_br _ _ hrZ1 F_fZ0 C_fZ0 hC_fZ0 hf_fZ0) ?_
 refine ZG ?_
 cases h
 exact ZL trivial (ZA @V96.eq_1 (ZA hC_fZ0.2 ((fixed_ren hC_fZ0))))
def S_f (nZ0:TNetwork) (listZ0:List TService) (v:Int):St:=⟨[(1,.lst .o 10 (listZ0.map (e_TService .o))),(2,.pt 2 0 0),(15,.lst .o 10 (listZ0.map (e_TService .o))),(16,.i (listZ0.length:Int)),(17,.i v)],[(2,.var (.agg [.lst .o 1 (nZ0.Nodes.map AV.z),.lst .o 4 (nZ0.Fibers.map (e_TFiber .o))]))]⟩
def SX_f (v:Unit):St:=⟨[],[]⟩
theorem w_f (nZ0:TNetwork) (listZ0:List TService) (sZ5:Int) (o:Int ⊕ (Unit ⊕ Bool)) (h:M_f nZ0 listZ0 sZ5=some o):AWP (OkS Tryz.prog) A51L2 (qL [1,2,15,16,17] [2] (S_f nZ0 listZ0) (qS (qX 0 [] [] (SX_f)) (qR V51 (fun r=>.b r))) o) (S_f nZ0 listZ0 sZ5):=by
 unfold M_f at h
 simp only [ZC,S_f,A51L2]
 obtain ⟨cZ6,h⟩ | ⟨cZ6,h⟩:=cond_s h
 · obtain ⟨yZ7,hyZ7,h⟩:=bind_s h
   obtain ⟨hyZ7a,hyZ7b⟩:=geti_s hyZ7
   obtain ⟨rZ8,hrZ8,h⟩:=bind_s h
   refine ZF (ZA cZ6 (ZA hyZ7a hyZ7b)) ?_
   refine ZS (ZA cZ6 (ZA hyZ7a hyZ7b)) (w_cx _ _ hrZ8) ?_
   refine ZG ?_
   obtain ⟨cZ9,h⟩ | ⟨cZ9,h⟩:=cond_s h
   · cases h
     exact ZL (ZA cZ6 (ZA hyZ7a (ZA hyZ7b cZ9))) @V51.eq_1
   · obtain ⟨cZ10,h⟩ | ⟨cZ10,h⟩:=cond_s h
     · obtain ⟨yZ11,hyZ11,h⟩:=bind_s h
       obtain ⟨hyZ11a,hyZ11b⟩:=geti_s hyZ11
       obtain ⟨cZ12,h⟩ | ⟨cZ12,h⟩:=cond_s h
       · cases h
         exact ZL (ZA cZ6 (ZA hyZ7a (ZA hyZ7b (ZA cZ9 (ZA cZ10 (ZA hyZ11a (ZA hyZ11b cZ12))))))) @V51.eq_1
       · obtain ⟨lZ13,hlZ13,h⟩:=bind_s h
         obtain ⟨hlZ13a,hlZ13b,hlZ13c,hlZ13d,hlZ13e⟩:=slT_s (e_TService .o) hlZ13
         obtain ⟨rZ14,hrZ14,h⟩:=bind_s h
         refine ZF (ZA cZ6 (ZA hyZ7a (ZA hyZ7b (ZA cZ9 (ZA cZ10 (ZA hyZ11a (ZA hyZ11b (ZA cZ12 (ZA hlZ13a (ZA hlZ13b (ZA hlZ13c (ZA hlZ13d hlZ13e)))))))))))) ?_
         refine ZS (ZA cZ6 (ZA hyZ7a (ZA hyZ7b (ZA cZ9 (ZA cZ10 (ZA hyZ11a (ZA hyZ11b (ZA cZ12 (ZA hlZ13a (ZA hlZ13b (ZA hlZ13c (ZA hlZ13d hlZ13e)))))))))))) (w_bq _ _ hrZ14 97 [.bp .o (.agg [.lst .o 1 (nZ0.Nodes.map AV.z),.lst .o 4 (nZ0.Fibers.map (e_TFiber .o))]) 0,.bp .o (.agg [.i yZ7.Id,.i yZ7.Class,.i yZ7.Work.Start,.lst .o 1 (yZ7.Work.Fibers.map AV.i),.i yZ7.WorkBlock.First,.i yZ7.WorkBlock.Count,.i yZ7.Spare.Start,.lst .o 1 (yZ7.Spare.Fibers.map AV.i),.i yZ7.SpareBlock.First,.i yZ7.SpareBlock.Count]) 0] ⟨fun ρ k=>by simp only [VS1,VS2,VS3,VS4,VS5,VS6,VT1,VT2,finM_ret,finM_nrm,decide_true,decide_false,List.nodup_nil,List.nodup_cons,oks_p,oks_m,oks_h,ne_eq,not_false_eq_true,Int.reduceEq,Int.reduceNe,true_and,false_and,Nat.reduceSub,Nat.reduceMul,↓reduceIte,reduceCtorEq,Nat.reduceEqDiff,Nat.reduceAdd,Nat.reduceLeDiff,Int.reduceLE],by simp [mentsL,AV.ments]⟩ (fun _ _ h=>w_bu _ _ _ h)) ?_
         refine ZG ?_
         obtain ⟨cZ15,h⟩ | ⟨cZ15,h⟩:=cond_s h
         · cases h
           exact ZL (ZA cZ6 (ZA hyZ7a (ZA hyZ7b (ZA cZ9 (ZA cZ10 (ZA hyZ11a (ZA hyZ11b (ZA cZ12 (ZA hlZ13a (ZA hlZ13b (ZA hlZ13c (ZA hlZ13d (ZA hlZ13e cZ15))))))))))))) @V51.eq_1
         · cases h
           exact ZL (ZA cZ6 (ZA hyZ7a (ZA hyZ7b (ZA cZ9 (ZA cZ10 (ZA hyZ11a (ZA hyZ11b (ZA cZ12 (ZA hlZ13a (ZA hlZ13b (ZA hlZ13c (ZA hlZ13d (ZA hlZ13e cZ15))))))))))))) (ZA @S_f.eq_1 @SX_f.eq_1)
     · obtain ⟨lZ16,hlZ16,h⟩:=bind_s h
       obtain ⟨hlZ16a,hlZ16b,hlZ16c,hlZ16d,hlZ16e⟩:=slT_s (e_TService .o) hlZ16
       obtain ⟨rZ17,hrZ17,h⟩:=bind_s h
       refine ZF (ZA cZ6 (ZA hyZ7a (ZA hyZ7b (ZA cZ9 (ZA cZ10 (ZA hlZ16a (ZA hlZ16b (ZA hlZ16c (ZA hlZ16d hlZ16e))))))))) ?_
       refine ZS (ZA cZ6 (ZA hyZ7a (ZA hyZ7b (ZA cZ9 (ZA cZ10 (ZA hlZ16a (ZA hlZ16b (ZA hlZ16c (ZA hlZ16d hlZ16e))))))))) (w_bq _ _ hrZ17 97 [.bp .o (.agg [.lst .o 1 (nZ0.Nodes.map AV.z),.lst .o 4 (nZ0.Fibers.map (e_TFiber .o))]) 0,.bp .o (.agg [.i yZ7.Id,.i yZ7.Class,.i yZ7.Work.Start,.lst .o 1 (yZ7.Work.Fibers.map AV.i),.i yZ7.WorkBlock.First,.i yZ7.WorkBlock.Count,.i yZ7.Spare.Start,.lst .o 1 (yZ7.Spare.Fibers.map AV.i),.i yZ7.SpareBlock.First,.i yZ7.SpareBlock.Count]) 0] ⟨fun ρ k=>by simp only [VS1,VS2,VS3,VS4,VS5,VS6,VT1,VT2,finM_ret,finM_nrm,decide_true,decide_false,List.nodup_nil,List.nodup_cons,oks_p,oks_m,oks_h,ne_eq,not_false_eq_true,Int.reduceEq,Int.reduceNe,true_and,false_and,Nat.reduceSub,Nat.reduceMul,↓reduceIte,reduceCtorEq,Nat.reduceEqDiff,Nat.reduceAdd,Nat.reduceLeDiff,Int.reduceLE],by simp [mentsL,AV.ments]⟩ (fun _ _ h=>w_bu _ _ _ h)) ?_
       refine ZG ?_
       obtain ⟨cZ18,h⟩ | ⟨cZ18,h⟩:=cond_s h
       · cases h
         exact ZL (ZA cZ6 (ZA hyZ7a (ZA hyZ7b (ZA cZ9 (ZA cZ10 (ZA hlZ16a (ZA hlZ16b (ZA hlZ16c (ZA hlZ16d (ZA hlZ16e cZ18)))))))))) @V51.eq_1
       · cases h
         exact ZL (ZA cZ6 (ZA hyZ7a (ZA hyZ7b (ZA cZ9 (ZA cZ10 (ZA hlZ16a (ZA hlZ16b (ZA hlZ16c (ZA hlZ16d (ZA hlZ16e cZ18)))))))))) (ZA @S_f.eq_1 @SX_f.eq_1)
 · cases h
   exact ZL cZ6 (ZA @S_f.eq_1 @SX_f.eq_1)
theorem w_da (nZ0:TNetwork) (listZ0:List TService) {r:Bool} (h:M_da nZ0 listZ0=some r):Ok Tryz.prog 51 [.agg [.lst .o 1 (nZ0.Nodes.map AV.z),.lst .o 4 (nZ0.Fibers.map (e_TFiber .o))],.lst .o 10 (listZ0.map (e_TService .o))] ((fun r=>.b r) r):=by
 refine ok_of_body hmix m51 rfl ?_
 unfold M_da at h
 simp only [ZC,A51,V51,body_eq]
 obtain ⟨oZ3,hoZ3,h⟩:=bind_s h
 try refine ZF trivial ?_
 refine join_rule0 (sh:=(fun v=>⟨[(1,.lst .o 10 (listZ0.map (e_TService .o))),(2,.pt 2 0 0),(14,.b v)],[(2,.var (.agg [.lst .o 1 (nZ0.Nodes.map AV.z),.lst .o 4 (nZ0.Fibers.map (e_TFiber .o))]))]⟩)) (s:=oZ3) ?_ ?_
 · replace h:=hoZ3
   obtain ⟨rZ1,hrZ1,h⟩:=bind_s h
   refine ZF trivial ?_
   refine ZS trivial (w_dl _ hrZ1) ?_
   refine ZG ?_
   obtain ⟨cZ2,h⟩ | ⟨cZ2,h⟩:=cond_s h
   · cases h
     exact ZL cZ2 trivial
   · cases h
     exact ZL cZ2 trivial
 · simp only [ZC,A51R1]
   obtain ⟨cZ4,h⟩ | ⟨cZ4,h⟩:=cond_s h
   · cases h
     exact ZL cZ4 @V51.eq_1
   · obtain ⟨oZ19,hoZ19,h⟩:=bind_s h
     try refine ZF cZ4 ?_
     refine join_rule (o:=oZ19) (blk_rule sideR (loop_rule (w_f nZ0 listZ0) hoZ19 ?_)) (fun vZ20 hv=>?_) (fun xZ21 hv e τ hne hq=>?_)
     · exact ZK (ZA @S_f.eq_1 @SX_f.eq_1)
     · subst hv
       simp only [] at h
       simp only [ZC,SX_f,A51R3]
       cases h
       exact ZL cZ4 @V51.eq_1
     · subst hv
       simp only [] at h
       obtain ⟨rfl,qZ22⟩:=hq
       cases h
       exact qZ22
theorem w_cq (rZ0:TRoute) {r:TRoute} (h:M_cq rZ0=some r):Ok Tryz.prog 109 [.agg [.i rZ0.Start,.lst .o 1 (rZ0.Fibers.map AV.i)]] ((fun r=>.agg [.i r.Start,.lst .u 1 (r.Fibers.map AV.i)]) r):=by
 refine ok_of_body hmix m109 rfl ?_
 unfold M_cq at h
 simp only [ZC,A109,V109,body_eq]
 obtain ⟨uZ1,huZ1,h⟩:=bind_s h
 have huZ1g:=grd_s huZ1
 cases h
 exact ZL huZ1g @V109.eq_1
def S_y (lZ0:List TService) (v:Int×List TService):St:=⟨[(3,.sl 3 0 v.2.length),(7,.lst .o 10 (lZ0.map (e_TService .o))),(8,.i (lZ0.length:Int)),(9,.i v.1)],[(3,.arr 10 (v.2.map (e_TService .u)))]⟩
def SX_y (v:List TService):St:=⟨[(3,.sl 3 0 v.length)],[(3,.arr 10 (v.map (e_TService .u)))]⟩
theorem w_y (lZ0:List TService) (sZ1:Int×List TService) (o:(Int×List TService) ⊕ (List TService)) (h:M_y lZ0 sZ1=some o):AWP (OkS Tryz.prog) A72L1 (qL [3,7,8,9] [3] (S_y lZ0) (qX 0 [3] [3] (SX_y)) o) (S_y lZ0 sZ1):=by
 unfold M_y at h
 simp only [ZC,S_y,A72L1]
 obtain ⟨cZ2,h⟩ | ⟨cZ2,h⟩:=cond_s h
 · obtain ⟨yZ3,hyZ3,h⟩:=bind_s h
   obtain ⟨hyZ3a,hyZ3b⟩:=geti_s hyZ3
   obtain ⟨rZ4,hrZ4,h⟩:=bind_s h
   refine ZF (ZA cZ2 (ZA hyZ3a hyZ3b)) ?_
   refine ZU (ZA cZ2 (ZA hyZ3a hyZ3b)) (w_cq _ hrZ4) ?_
   refine ZG ?_
   obtain ⟨rZ5,hrZ5,h⟩:=bind_s h
   refine ZF (ZA cZ2 (ZA hyZ3a hyZ3b)) ?_
   refine ZU (ZA cZ2 (ZA hyZ3a hyZ3b)) (w_cq _ hrZ5) ?_
   refine ZG ?_
   obtain ⟨lZ6,hlZ6,h⟩:=bnd_s h
   have eZ7:Row.arr 10 [(.agg [.i yZ3.Id,.i yZ3.Class,.i rZ4.Start,.lst .u 1 (rZ4.Fibers.map AV.i),.i yZ3.WorkBlock.First,.i yZ3.WorkBlock.Count,.i rZ5.Start,.lst .u 1 (rZ5.Fibers.map AV.i),.i yZ3.SpareBlock.First,.i yZ3.SpareBlock.Count]:AV)]=Row.arr 10 (lZ6.map (e_TService .u)):=by rw [← hlZ6]; rfl
   have jjZ8:lZ6.length=1:=by rw [← hlZ6]; rfl
   obtain ⟨uZ9,huZ9,h⟩:=bind_s h
   have huZ9g:=grd_s huZ9
   obtain ⟨lZ10,hlZ10,h⟩:=bnd_s h
   have eZ11:sZ1.2.map (e_TService .u)++lZ6.map (e_TService .u)=lZ10.map (e_TService .u):=by rw [← hlZ10,List.map_append]
   have eZ12:sZ1.2.length+1=lZ10.length:=by simp [← hlZ6,← hlZ10] <;> omega
   rw [eZ12] at huZ9g
   cases h
   exact ZL (ZA cZ2 (ZA hyZ3a (ZA hyZ3b (ZA eZ7 (ZA jjZ8 (ZA huZ9g (ZA eZ11 eZ12))))))) (ZA @S_y.eq_1 (ZA @SX_y.eq_1 (ZA hlZ6.symm (ZA hlZ10.symm jjZ8))))
 · cases h
   exact ZL cZ2 (ZA @S_y.eq_1 @SX_y.eq_1)
theorem w_di (lZ0:List TService) {r:List TService} (h:M_di lZ0=some r):Ok Tryz.prog 72 [.lst .o 10 (lZ0.map (e_TService .o))] ((fun r=>.lst .u 10 (r.map (e_TService .u))) r):=by
 refine ok_of_body hmix m72 rfl ?_
 unfold M_di at h
 simp only [ZC,A72,V72,body_eq]
 obtain ⟨oZ13,hoZ13,h⟩:=bind_s h
 try refine ZF trivial ?_
 refine join_rule0 (blk_rule0 (loop_rule (w_y lZ0) hoZ13 ?_)) ?_
 · exact ZK (ZA @S_y.eq_1 @SX_y.eq_1)
 · simp only [ZC,SX_y,A72R2]
   cases h
   exact ZL trivial @V72.eq_1
theorem w_bs {H:World→Prop} (aaZ0:Int) (abZ0:Int) (acZ0:List (Tok H e_TService 10)) {r:Nat×Nat×List (Tok H e_TService 10)} (h:M_bs Tok.x tz_TService aaZ0 abZ0 acZ0=some r):OkMR H Tryz.prog 71 [.sl 1000000000 0 acZ0.length,.i aaZ0,.i abZ0] [(1000000000,.arr 10 (acZ0.map tokE))] ((fun (r:Nat×Nat×List (Tok H e_TService 10))=>.sl 1000000000 r.1 r.2.1) r) ((fun (r:Nat×Nat×List (Tok H e_TService 10))=>[(1000000000,.arr 10 (r.2.2.map tokE))]) r):=by
 refine okMR_of_body (lr:=[1000000000]) hmix m71M1 rfl rfl ?_
 unfold M_bs at h
 simp only [ZC,A71M1,V71M1]
 obtain ⟨uZ1,huZ1,h⟩:=bind_s h
 obtain ⟨huZ1a,huZ1b,huZ1c,huZ1d⟩:=grd_s huZ1
 obtain ⟨cZ2,h⟩ | ⟨cZ2,h⟩:=cond_s h
 · cases h
   exact ZL (ZA okt_p (ZA okt_m (ZA huZ1a (ZA huZ1b (ZA huZ1c (ZA huZ1d cZ2)))))) @V71M1.eq_1
 · obtain ⟨uZ3,huZ3,h⟩:=bind_s h
   obtain ⟨huZ3a,huZ3b,huZ3c,huZ3d⟩:=grd_s huZ3
   have huZ3z:=And.intro huZ3c huZ3d
   try simp only [Int.toNat_natCast,Nat.zero_add] at huZ3z
   obtain ⟨uZ4,huZ4,h⟩:=bind_s h
   obtain ⟨huZ4a,huZ4b,huZ4c,huZ4d⟩:=grd_s huZ4
   have huZ4z:=And.intro huZ4c huZ4d
   try simp only [Int.toNat_natCast,Nat.zero_add] at huZ4z
   obtain ⟨lZ5,hlZ5,h⟩:=bnd_s h
   have eZ6:sub (acZ0.map tokE) (Int.toNat abZ0) (acZ0.length - (Int.toNat abZ0))=lZ5.map tokE:=by rw [sub_mapT,hlZ5]
   obtain ⟨uZ7,huZ7,h⟩:=bind_s h
   have huZ7g:=grd_s huZ7
   have huZ7z:=huZ7g
   try rw [Nat.zero_add] at huZ7z
   obtain ⟨lZ8,hlZ8,h⟩:=bnd_s h
   have eZ9:over (acZ0.map tokE) (Int.toNat aaZ0) (lZ5.map tokE)=lZ8.map tokE:=by rw [← hlZ8,← over_map] <;> simp [List.map_take,tz_TService_E]
   try simp only [Int.toNat_natCast] at eZ9
   have eZ10:lZ8.length=acZ0.length:=by rw [← hlZ8]; exact over_length _ _ _
   obtain ⟨uZ11,huZ11,h⟩:=bind_s h
   obtain ⟨huZ11a,huZ11b,huZ11c,huZ11d⟩:=grd_s huZ11
   have huZ11z:=And.intro huZ11c huZ11d
   try simp only [Int.toNat_natCast,Nat.zero_add] at huZ11z
   have huZ11w:=huZ11z
   try simp only [eZ10] at huZ11w
   obtain ⟨lZ12,hlZ12,h⟩:=bnd_s h
   have eZ13:over (lZ8.map tokE) (Int.toNat ((((Int.toNat aaZ0)+lZ5.length):Nat):Int)) (List.replicate ((Int.toNat (acZ0.length:Int)) - (Int.toNat ((((Int.toNat aaZ0)+lZ5.length):Nat):Int))) (.agg [.i 0,.i 0,.i 0,.sc (.slice none 0 0),.i 0,.i 0,.i 0,.sc (.slice none 0 0),.i 0,.i 0]:AV))=lZ12.map tokE:=by rw [← hlZ12,← over_map] <;> simp [List.map_take,tz_TService_E]
   try simp only [Int.toNat_natCast] at eZ13
   have eZ14:lZ12.length=lZ8.length:=by rw [← hlZ12]; exact over_length _ _ _
   cases h
   exact ZL (ZA okt_p (ZA okt_m (ZA huZ1a (ZA huZ1b (ZA huZ1c (ZA huZ1d (ZA cZ2 (ZA huZ3a (ZA huZ3b (ZA huZ3c (ZA huZ3d (ZA huZ3z (ZA huZ4a (ZA huZ4b (ZA huZ4c (ZA huZ4d (ZA huZ4z (ZA eZ6 (ZA huZ7g (ZA huZ7z (ZA eZ9 (ZA huZ11a (ZA huZ11b (ZA huZ11c (ZA huZ11d (ZA huZ11z (ZA huZ11w eZ13))))))))))))))))))))))))))) (ZA @V71M1.eq_1 (ZA eZ10 eZ14))
theorem w_ff (aaZ0:Int) (abZ0:Int) (acZ0:List TService) {r:Nat×Nat×List TService} (h:M_bs id (⟨0,0,(⟨0,[]⟩:TRoute),(⟨0,0⟩:TBlock),(⟨0,[]⟩:TRoute),(⟨0,0⟩:TBlock)⟩:TService) aaZ0 abZ0 acZ0=some r):OkM Tryz.prog 71 [.sl 1000000000 0 acZ0.length,.i aaZ0,.i abZ0] [(1000000000,.arr 10 (acZ0.map (e_TService .u)))] ((fun (r:Nat×Nat×List TService)=>.sl 1000000000 r.1 r.2.1) r) ((fun (r:Nat×Nat×List TService)=>[(1000000000,.arr 10 (r.2.2.map (e_TService .u)))]) r):=by
 refine okM_lift (E:=e_TService) (k:=10) (R:=1000000000) (R':=1000000000) (xs:=acZ0) (ys:=r.2.2) (ins:=[(1000000000,.arr 10 (acZ0.map (e_TService .u)))]) (outsR:=(fun (r:Nat×Nat×List TService)=>[(1000000000,.arr 10 (r.2.2.map (e_TService .u)))]) r) (fun x=>⟨_,rfl,rfl⟩) (by decide) (fun w S B v x fp h B'=>sh_TService x ▸ h.shs B') rfl (fun _ _=>rfl) rfl (fun _ _=>rfl) (flat_of (by simp [Row.flatU,AV.noU])) fun H XZ0 hX=>?_
 subst hX
 obtain ⟨YZ0,h1,h2,h3⟩:=p_slices_Delete_ServiceM1 XZ0 aaZ0 abZ0 h
 have hw:=w_bs aaZ0 abZ0 XZ0 h1
 try simp only [List.length_map]
 exact ⟨YZ0,_,_,h2,h3,rfl,fun q hq=>by simp only [look,if_neg (Ne.symm hq)],rfl,fun q hq=>by simp only [look,if_neg (Ne.symm hq)],hw⟩
theorem w_ce (nZ0:TNetwork) (listZ0:List TService) (idZ0:Int) {r:List TService×Bool} (h:M_ce nZ0 listZ0 idZ0=some r):Ok Tryz.prog 31 [.agg [.lst .o 1 (nZ0.Nodes.map AV.z),.lst .o 4 (nZ0.Fibers.map (e_TFiber .o))],.lst .o 10 (listZ0.map (e_TService .o)),.i idZ0] ((fun r=>.tup [.lst .u 10 (r.1.map (e_TService .u)),.b r.2]) r):=by
 refine ok_of_body hmix m31 rfl ?_
 unfold M_ce at h
 simp only [ZC,A31,V31,body_eq]
 obtain ⟨rZ1,hrZ1,h⟩:=bind_s h
 refine ZF trivial ?_
 refine ZS trivial (w_br _ _ hrZ1 70 [.bp .o (.i idZ0) 0] ⟨fun ρ k=>by simp only [VS1,VS2,VS3,VS4,VS5,VS6,VT1,VT2,finM_ret,finM_nrm,decide_true,decide_false,List.nodup_nil,List.nodup_cons,oks_p,oks_m,oks_h,ne_eq,not_false_eq_true,Int.reduceEq,Int.reduceNe,true_and,false_and,Nat.reduceSub,Nat.reduceMul,↓reduceIte,reduceCtorEq,Nat.reduceEqDiff,Nat.reduceAdd,Nat.reduceLeDiff,Int.reduceLE],by simp [mentsL,AV.ments]⟩ (fun _ _ h=>w_eu _ _ h)) ?_
 refine ZG ?_
 obtain ⟨oZ4,hoZ4,h⟩:=bind_s h
 try refine ZF trivial ?_
 refine join_rule0 (sh:=(fun v=>⟨[(1,.lst .o 10 (listZ0.map (e_TService .o))),(8,.i rZ1),(19,.b v)],[]⟩)) (s:=oZ4) ?_ ?_
 · replace h:=hoZ4
   obtain ⟨rZ2,hrZ2,h⟩:=bind_s h
   refine ZF trivial ?_
   refine ZS trivial (w_da _ _ hrZ2) ?_
   refine ZG ?_
   obtain ⟨cZ3,h⟩ | ⟨cZ3,h⟩:=cond_s h
   · cases h
     exact ZL cZ3 trivial
   · cases h
     exact ZL cZ3 trivial
 · simp only [ZC,A31R1]
   obtain ⟨cZ5,h⟩ | ⟨cZ5,h⟩:=cond_s h
   · cases h
     exact ZL cZ5 @V31.eq_1
   · obtain ⟨rZ6,hrZ6,h⟩:=bind_s h
     refine ZF cZ5 ?_
     refine ZU cZ5 (w_di _ hrZ6) ?_
     refine ZG ?_
     obtain ⟨rZ7,hrZ7,h⟩:=bind_s h
     refine ZF cZ5 ?_
     refine ZW cZ5 (w_ff _ _ _ hrZ7) (h2:=by first | exact nm_ok [1000000000] rfl (by decide +kernel) | exact nm_ok2 [1000000000] [] rfl (by decide +kernel) ZQ | exact ZQ) (hk:=?_)
     refine ZG ?_
     obtain ⟨lZ8,hlZ8,h⟩:=bnd_s h
     have eZ9:sub (rZ7.2.2.map (e_TService .u)) rZ7.1 rZ7.2.1=lZ8.map (e_TService .u):=by rw [sub_mapT,hlZ8]
     cases h
     exact ZL (ZA cZ5 eZ9) @V31.eq_1
def S_al (aZ0:List Int) (bZ0:List Int) (v:Int):St:=⟨[(0,.lst .o 1 (aZ0.map AV.i)),(1,.lst .o 1 (bZ0.map AV.i)),(5,.i v)],[]⟩
def SX_al (v:Unit):St:=⟨[],[]⟩
theorem w_al (aZ0:List Int) (bZ0:List Int) (sZ2:Int) (o:Int ⊕ (Unit ⊕ Bool)) (h:M_al aZ0 bZ0 sZ2=some o):AWP (OkS Tryz.prog) A18L1 (qL [0,1,5] [] (S_al aZ0 bZ0) (qS (qX 0 [] [] (SX_al)) (qR V18 (fun r=>.b r))) o) (S_al aZ0 bZ0 sZ2):=by
 unfold M_al at h
 simp only [ZC,S_al,A18L1]
 obtain ⟨cZ3,h⟩ | ⟨cZ3,h⟩:=cond_s h
 · obtain ⟨yZ4,hyZ4,h⟩:=bind_s h
   obtain ⟨hyZ4a,hyZ4b⟩:=geti_s hyZ4
   obtain ⟨yZ5,hyZ5,h⟩:=bind_s h
   obtain ⟨hyZ5a,hyZ5b⟩:=geti_s hyZ5
   obtain ⟨cZ6,h⟩ | ⟨cZ6,h⟩:=cond_s h
   · cases h
     exact ZL (ZA cZ3 (ZA hyZ4a (ZA hyZ4b (ZA hyZ5a (ZA hyZ5b cZ6))))) @V18.eq_1
   · cases h
     exact ZL (ZA cZ3 (ZA hyZ4a (ZA hyZ4b (ZA hyZ5a (ZA hyZ5b cZ6))))) (ZA @S_al.eq_1 @SX_al.eq_1)
 · cases h
   exact ZL cZ3 (ZA @S_al.eq_1 @SX_al.eq_1)
theorem w_dz (aZ0:List Int) (bZ0:List Int) {r:Bool} (h:M_dz aZ0 bZ0=some r):Ok Tryz.prog 18 [.lst .o 1 (aZ0.map AV.i),.lst .o 1 (bZ0.map AV.i)] ((fun r=>.b r) r):=by
 refine ok_of_body hmix m18 rfl ?_
 unfold M_dz at h
 simp only [ZC,A18,V18,body_eq]
 obtain ⟨cZ1,h⟩ | ⟨cZ1,h⟩:=cond_s h
 · cases h
   exact ZL cZ1 @V18.eq_1
 · obtain ⟨oZ7,hoZ7,h⟩:=bind_s h
   try refine ZF cZ1 ?_
   refine join_rule (o:=oZ7) (blk_rule sideR (loop_rule (w_al aZ0 bZ0) hoZ7 ?_)) (fun vZ8 hv=>?_) (fun xZ9 hv e τ hne hq=>?_)
   · exact ZK (ZA @S_al.eq_1 @SX_al.eq_1)
   · subst hv
     simp only [] at h
     simp only [ZC,SX_al,A18R2]
     cases h
     exact ZL cZ1 @V18.eq_1
   · subst hv
     simp only [] at h
     obtain ⟨rfl,qZ10⟩:=hq
     cases h
     exact qZ10
theorem w_cl (aZ0:TRoute) (bZ0:TRoute) {r:Bool} (h:M_cl aZ0 bZ0=some r):Ok Tryz.prog 100 [.agg [.i aZ0.Start,.lst .o 1 (aZ0.Fibers.map AV.i)],.agg [.i bZ0.Start,.lst .o 1 (bZ0.Fibers.map AV.i)]] ((fun r=>.b r) r):=by
 refine ok_of_body hmix m100 rfl ?_
 unfold M_cl at h
 simp only [ZC,A100,V100,body_eq]
 obtain ⟨cZ1,h⟩ | ⟨cZ1,h⟩:=cond_s h
 · cases h
   exact ZL cZ1 @V100.eq_1
 · obtain ⟨rZ2,hrZ2,h⟩:=bind_s h
   refine ZF cZ1 ?_
   refine ZS cZ1 (w_dz _ _ hrZ2) ?_
   refine ZG ?_
   obtain ⟨cZ3,h⟩ | ⟨cZ3,h⟩:=cond_s h
   · cases h
     exact ZL (ZA cZ1 cZ3) @V100.eq_1
   · cases h
     exact ZL (ZA cZ1 cZ3) @V100.eq_1
theorem w_cn (aZ0:TBlock) (bZ0:TBlock) {r:Bool} (h:M_cn aZ0 bZ0=some r):Ok Tryz.prog 101 [.agg [.i aZ0.First,.i aZ0.Count],.agg [.i bZ0.First,.i bZ0.Count]] ((fun r=>.b r) r):=by
 refine ok_of_body hmix m101 rfl ?_
 unfold M_cn at h
 simp only [ZC,A101,V101,body_eq]
 obtain ⟨cZ1,h⟩ | ⟨cZ1,h⟩:=cond_s h
 · cases h
   exact ZL cZ1 @V101.eq_1
 · obtain ⟨cZ2,h⟩ | ⟨cZ2,h⟩:=cond_s h
   · cases h
     exact ZL (ZA cZ1 cZ2) @V101.eq_1
   · cases h
     exact ZL (ZA cZ1 cZ2) @V101.eq_1
theorem w_cv (aZ0:TService) (bZ0:TService) {r:Bool} (h:M_cv aZ0 bZ0=some r):Ok Tryz.prog 55 [.agg [.i aZ0.Id,.i aZ0.Class,.i aZ0.Work.Start,.lst .o 1 (aZ0.Work.Fibers.map AV.i),.i aZ0.WorkBlock.First,.i aZ0.WorkBlock.Count,.i aZ0.Spare.Start,.lst .o 1 (aZ0.Spare.Fibers.map AV.i),.i aZ0.SpareBlock.First,.i aZ0.SpareBlock.Count],.agg [.i bZ0.Id,.i bZ0.Class,.i bZ0.Work.Start,.lst .o 1 (bZ0.Work.Fibers.map AV.i),.i bZ0.WorkBlock.First,.i bZ0.WorkBlock.Count,.i bZ0.Spare.Start,.lst .o 1 (bZ0.Spare.Fibers.map AV.i),.i bZ0.SpareBlock.First,.i bZ0.SpareBlock.Count]] ((fun r=>.b r) r):=by
 refine ok_of_body hmix m55 rfl ?_
 unfold M_cv at h
 simp only [ZC,A55,V55,body_eq]
 obtain ⟨cZ1,h⟩ | ⟨cZ1,h⟩:=cond_s h
 · cases h
   exact ZL cZ1 @V55.eq_1
 · obtain ⟨cZ2,h⟩ | ⟨cZ2,h⟩:=cond_s h
   · cases h
     exact ZL (ZA cZ1 cZ2) @V55.eq_1
   · obtain ⟨rZ3,hrZ3,h⟩:=bind_s h
     refine ZF (ZA cZ1 cZ2) ?_
     refine ZS (ZA cZ1 cZ2) (w_cl _ _ hrZ3) ?_
     refine ZG ?_
     obtain ⟨cZ4,h⟩ | ⟨cZ4,h⟩:=cond_s h
     · cases h
       exact ZL (ZA cZ1 (ZA cZ2 cZ4)) @V55.eq_1
     · obtain ⟨rZ5,hrZ5,h⟩:=bind_s h
       refine ZF (ZA cZ1 (ZA cZ2 cZ4)) ?_
       refine ZS (ZA cZ1 (ZA cZ2 cZ4)) (w_cn _ _ hrZ5) ?_
       refine ZG ?_
       obtain ⟨cZ6,h⟩ | ⟨cZ6,h⟩:=cond_s h
       · cases h
         exact ZL (ZA cZ1 (ZA cZ2 (ZA cZ4 cZ6))) @V55.eq_1
       · obtain ⟨rZ7,hrZ7,h⟩:=bind_s h
         refine ZF (ZA cZ1 (ZA cZ2 (ZA cZ4 cZ6))) ?_
         refine ZS (ZA cZ1 (ZA cZ2 (ZA cZ4 cZ6))) (w_cl _ _ hrZ7) ?_
         refine ZG ?_
         obtain ⟨cZ8,h⟩ | ⟨cZ8,h⟩:=cond_s h
         · cases h
           exact ZL (ZA cZ1 (ZA cZ2 (ZA cZ4 (ZA cZ6 cZ8)))) @V55.eq_1
         · obtain ⟨rZ9,hrZ9,h⟩:=bind_s h
           refine ZF (ZA cZ1 (ZA cZ2 (ZA cZ4 (ZA cZ6 cZ8)))) ?_
           refine ZS (ZA cZ1 (ZA cZ2 (ZA cZ4 (ZA cZ6 cZ8)))) (w_cn _ _ hrZ9) ?_
           refine ZG ?_
           obtain ⟨cZ10,h⟩ | ⟨cZ10,h⟩:=cond_s h
           · cases h
             exact ZL (ZA cZ1 (ZA cZ2 (ZA cZ4 (ZA cZ6 (ZA cZ8 cZ10))))) @V55.eq_1
           · cases h
             exact ZL (ZA cZ1 (ZA cZ2 (ZA cZ4 (ZA cZ6 (ZA cZ8 cZ10))))) @V55.eq_1
def S_ao (aZ0:List TService) (bZ0:List TService) (v:Int):St:=⟨[(0,.lst .o 10 (aZ0.map (e_TService .o))),(1,.lst .o 10 (bZ0.map (e_TService .o))),(5,.i v)],[]⟩
def SX_ao (v:Unit):St:=⟨[],[]⟩
theorem w_ao (aZ0:List TService) (bZ0:List TService) (sZ2:Int) (o:Int ⊕ (Unit ⊕ Bool)) (h:M_ao aZ0 bZ0 sZ2=some o):AWP (OkS Tryz.prog) A20L1 (qL [0,1,5] [] (S_ao aZ0 bZ0) (qS (qX 0 [] [] (SX_ao)) (qR V20 (fun r=>.b r))) o) (S_ao aZ0 bZ0 sZ2):=by
 unfold M_ao at h
 simp only [ZC,S_ao,A20L1]
 obtain ⟨cZ3,h⟩ | ⟨cZ3,h⟩:=cond_s h
 · obtain ⟨yZ4,hyZ4,h⟩:=bind_s h
   obtain ⟨hyZ4a,hyZ4b⟩:=geti_s hyZ4
   obtain ⟨yZ5,hyZ5,h⟩:=bind_s h
   obtain ⟨hyZ5a,hyZ5b⟩:=geti_s hyZ5
   obtain ⟨rZ6,hrZ6,h⟩:=bind_s h
   refine ZF (ZA cZ3 (ZA hyZ4a (ZA hyZ4b (ZA hyZ5a hyZ5b)))) ?_
   refine ZS (ZA cZ3 (ZA hyZ4a (ZA hyZ4b (ZA hyZ5a hyZ5b)))) (w_cv _ _ hrZ6) ?_
   refine ZG ?_
   obtain ⟨cZ7,h⟩ | ⟨cZ7,h⟩:=cond_s h
   · cases h
     exact ZL (ZA cZ3 (ZA hyZ4a (ZA hyZ4b (ZA hyZ5a (ZA hyZ5b cZ7))))) @V20.eq_1
   · cases h
     exact ZL (ZA cZ3 (ZA hyZ4a (ZA hyZ4b (ZA hyZ5a (ZA hyZ5b cZ7))))) (ZA @S_ao.eq_1 @SX_ao.eq_1)
 · cases h
   exact ZL cZ3 (ZA @S_ao.eq_1 @SX_ao.eq_1)
theorem w_bi (aZ0:List TService) (bZ0:List TService) {r:Bool} (h:M_bi aZ0 bZ0=some r):Ok Tryz.prog 20 [.lst .o 10 (aZ0.map (e_TService .o)),.lst .o 10 (bZ0.map (e_TService .o))] ((fun r=>.b r) r):=by
 refine ok_of_body hmix m20 rfl ?_
 unfold M_bi at h
 simp only [ZC,A20,V20,body_eq]
 obtain ⟨cZ1,h⟩ | ⟨cZ1,h⟩:=cond_s h
 · cases h
   exact ZL cZ1 @V20.eq_1
 · obtain ⟨oZ8,hoZ8,h⟩:=bind_s h
   try refine ZF cZ1 ?_
   refine join_rule (o:=oZ8) (blk_rule sideR (loop_rule (w_ao aZ0 bZ0) hoZ8 ?_)) (fun vZ9 hv=>?_) (fun xZ10 hv e τ hne hq=>?_)
   · exact ZK (ZA @S_ao.eq_1 @SX_ao.eq_1)
   · subst hv
     simp only [] at h
     simp only [ZC,SX_ao,A20R2]
     cases h
     exact ZL cZ1 @V20.eq_1
   · subst hv
     simp only [] at h
     obtain ⟨rfl,qZ11⟩:=hq
     cases h
     exact qZ11
def S_ah (aZ0:List ByteArray) (bZ0:List ByteArray) (v:Int):St:=⟨[(0,.lst .o 1 (aZ0.map AV.z)),(1,.lst .o 1 (bZ0.map AV.z)),(5,.i v)],[]⟩
def SX_ah (v:Unit):St:=⟨[],[]⟩
theorem w_ah (aZ0:List ByteArray) (bZ0:List ByteArray) (sZ2:Int) (o:Int ⊕ (Unit ⊕ Bool)) (h:M_ah aZ0 bZ0 sZ2=some o):AWP (OkS Tryz.prog) A53L1 (qL [0,1,5] [] (S_ah aZ0 bZ0) (qS (qX 0 [] [] (SX_ah)) (qR V53 (fun r=>.b r))) o) (S_ah aZ0 bZ0 sZ2):=by
 unfold M_ah at h
 simp only [ZC,S_ah,A53L1]
 obtain ⟨cZ3,h⟩ | ⟨cZ3,h⟩:=cond_s h
 · obtain ⟨yZ4,hyZ4,h⟩:=bind_s h
   obtain ⟨hyZ4a,hyZ4b⟩:=geti_s hyZ4
   obtain ⟨yZ5,hyZ5,h⟩:=bind_s h
   obtain ⟨hyZ5a,hyZ5b⟩:=geti_s hyZ5
   obtain ⟨cZ6,h⟩ | ⟨cZ6,h⟩:=cond_s h
   · cases h
     exact ZL (ZA cZ3 (ZA hyZ4a (ZA hyZ4b (ZA hyZ5a (ZA hyZ5b cZ6))))) @V53.eq_1
   · cases h
     exact ZL (ZA cZ3 (ZA hyZ4a (ZA hyZ4b (ZA hyZ5a (ZA hyZ5b cZ6))))) (ZA @S_ah.eq_1 @SX_ah.eq_1)
 · cases h
   exact ZL cZ3 (ZA @S_ah.eq_1 @SX_ah.eq_1)
theorem w_dr (aZ0:List ByteArray) (bZ0:List ByteArray) {r:Bool} (h:M_dr aZ0 bZ0=some r):Ok Tryz.prog 53 [.lst .o 1 (aZ0.map AV.z),.lst .o 1 (bZ0.map AV.z)] ((fun r=>.b r) r):=by
 refine ok_of_body hmix m53 rfl ?_
 unfold M_dr at h
 simp only [ZC,A53,V53,body_eq]
 obtain ⟨cZ1,h⟩ | ⟨cZ1,h⟩:=cond_s h
 · cases h
   exact ZL cZ1 @V53.eq_1
 · obtain ⟨oZ7,hoZ7,h⟩:=bind_s h
   try refine ZF cZ1 ?_
   refine join_rule (o:=oZ7) (blk_rule sideR (loop_rule (w_ah aZ0 bZ0) hoZ7 ?_)) (fun vZ8 hv=>?_) (fun xZ9 hv e τ hne hq=>?_)
   · exact ZK (ZA @S_ah.eq_1 @SX_ah.eq_1)
   · subst hv
     simp only [] at h
     simp only [ZC,SX_ah,A53R2]
     cases h
     exact ZL cZ1 @V53.eq_1
   · subst hv
     simp only [] at h
     obtain ⟨rfl,qZ10⟩:=hq
     cases h
     exact qZ10
theorem w_ct (aZ0:TFiber) (bZ0:TFiber) {r:Bool} (h:M_ct aZ0 bZ0=some r):Ok Tryz.prog 99 [.agg [.i aZ0.A,.i aZ0.B,.i aZ0.Length,.i aZ0.Risk],.agg [.i bZ0.A,.i bZ0.B,.i bZ0.Length,.i bZ0.Risk]] ((fun r=>.b r) r):=by
 refine ok_of_body hmix m99 rfl ?_
 unfold M_ct at h
 simp only [ZC,A99,V99,body_eq]
 obtain ⟨cZ1,h⟩ | ⟨cZ1,h⟩:=cond_s h
 · cases h
   exact ZL cZ1 @V99.eq_1
 · obtain ⟨cZ2,h⟩ | ⟨cZ2,h⟩:=cond_s h
   · cases h
     exact ZL (ZA cZ1 cZ2) @V99.eq_1
   · obtain ⟨cZ3,h⟩ | ⟨cZ3,h⟩:=cond_s h
     · cases h
       exact ZL (ZA cZ1 (ZA cZ2 cZ3)) @V99.eq_1
     · obtain ⟨cZ4,h⟩ | ⟨cZ4,h⟩:=cond_s h
       · cases h
         exact ZL (ZA cZ1 (ZA cZ2 (ZA cZ3 cZ4))) @V99.eq_1
       · cases h
         exact ZL (ZA cZ1 (ZA cZ2 (ZA cZ3 cZ4))) @V99.eq_1
def S_aj (aZ0:List TFiber) (bZ0:List TFiber) (v:Int):St:=⟨[(0,.lst .o 4 (aZ0.map (e_TFiber .o))),(1,.lst .o 4 (bZ0.map (e_TFiber .o))),(5,.i v)],[]⟩
def SX_aj (v:Unit):St:=⟨[],[]⟩
theorem w_aj (aZ0:List TFiber) (bZ0:List TFiber) (sZ2:Int) (o:Int ⊕ (Unit ⊕ Bool)) (h:M_aj aZ0 bZ0 sZ2=some o):AWP (OkS Tryz.prog) A54L1 (qL [0,1,5] [] (S_aj aZ0 bZ0) (qS (qX 0 [] [] (SX_aj)) (qR V54 (fun r=>.b r))) o) (S_aj aZ0 bZ0 sZ2):=by
 unfold M_aj at h
 simp only [ZC,S_aj,A54L1]
 obtain ⟨cZ3,h⟩ | ⟨cZ3,h⟩:=cond_s h
 · obtain ⟨yZ4,hyZ4,h⟩:=bind_s h
   obtain ⟨hyZ4a,hyZ4b⟩:=geti_s hyZ4
   obtain ⟨yZ5,hyZ5,h⟩:=bind_s h
   obtain ⟨hyZ5a,hyZ5b⟩:=geti_s hyZ5
   obtain ⟨rZ6,hrZ6,h⟩:=bind_s h
   refine ZF (ZA cZ3 (ZA hyZ4a (ZA hyZ4b (ZA hyZ5a hyZ5b)))) ?_
   refine ZS (ZA cZ3 (ZA hyZ4a (ZA hyZ4b (ZA hyZ5a hyZ5b)))) (w_ct _ _ hrZ6) ?_
   refine ZG ?_
   obtain ⟨cZ7,h⟩ | ⟨cZ7,h⟩:=cond_s h
   · cases h
     exact ZL (ZA cZ3 (ZA hyZ4a (ZA hyZ4b (ZA hyZ5a (ZA hyZ5b cZ7))))) @V54.eq_1
   · cases h
     exact ZL (ZA cZ3 (ZA hyZ4a (ZA hyZ4b (ZA hyZ5a (ZA hyZ5b cZ7))))) (ZA @S_aj.eq_1 @SX_aj.eq_1)
 · cases h
   exact ZL cZ3 (ZA @S_aj.eq_1 @SX_aj.eq_1)
theorem w_du (aZ0:List TFiber) (bZ0:List TFiber) {r:Bool} (h:M_du aZ0 bZ0=some r):Ok Tryz.prog 54 [.lst .o 4 (aZ0.map (e_TFiber .o)),.lst .o 4 (bZ0.map (e_TFiber .o))] ((fun r=>.b r) r):=by
 refine ok_of_body hmix m54 rfl ?_
 unfold M_du at h
 simp only [ZC,A54,V54,body_eq]
 obtain ⟨cZ1,h⟩ | ⟨cZ1,h⟩:=cond_s h
 · cases h
   exact ZL cZ1 @V54.eq_1
 · obtain ⟨oZ8,hoZ8,h⟩:=bind_s h
   try refine ZF cZ1 ?_
   refine join_rule (o:=oZ8) (blk_rule sideR (loop_rule (w_aj aZ0 bZ0) hoZ8 ?_)) (fun vZ9 hv=>?_) (fun xZ10 hv e τ hne hq=>?_)
   · exact ZK (ZA @S_aj.eq_1 @SX_aj.eq_1)
   · subst hv
     simp only [] at h
     simp only [ZC,SX_aj,A54R2]
     cases h
     exact ZL cZ1 @V54.eq_1
   · subst hv
     simp only [] at h
     obtain ⟨rfl,qZ11⟩:=hq
     cases h
     exact qZ11
theorem w_dw (aZ0:TNetwork) (bZ0:TNetwork) {r:Bool} (h:M_dw aZ0 bZ0=some r):Ok Tryz.prog 19 [.agg [.lst .o 1 (aZ0.Nodes.map AV.z),.lst .o 4 (aZ0.Fibers.map (e_TFiber .o))],.agg [.lst .o 1 (bZ0.Nodes.map AV.z),.lst .o 4 (bZ0.Fibers.map (e_TFiber .o))]] ((fun r=>.b r) r):=by
 refine ok_of_body hmix m19 rfl ?_
 unfold M_dw at h
 simp only [ZC,A19,V19,body_eq]
 obtain ⟨rZ1,hrZ1,h⟩:=bind_s h
 refine ZF trivial ?_
 refine ZS trivial (w_dr _ _ hrZ1) ?_
 refine ZG ?_
 obtain ⟨cZ2,h⟩ | ⟨cZ2,h⟩:=cond_s h
 · cases h
   exact ZL cZ2 @V19.eq_1
 · obtain ⟨rZ3,hrZ3,h⟩:=bind_s h
   refine ZF cZ2 ?_
   refine ZS cZ2 (w_du _ _ hrZ3) ?_
   refine ZG ?_
   obtain ⟨cZ4,h⟩ | ⟨cZ4,h⟩:=cond_s h
   · cases h
     exact ZL (ZA cZ2 cZ4) @V19.eq_1
   · cases h
     exact ZL (ZA cZ2 cZ4) @V19.eq_1
def S_ae (v:Int×ByteArray):St:=⟨[(0,.i v.1),(3,.z v.2)],[]⟩
def SX_ae (v:ByteArray):St:=⟨[(3,.z v)],[]⟩
theorem w_ae (sZ2:Int×ByteArray) (o:(Int×ByteArray) ⊕ ByteArray) (h:M_ae sZ2=some o):AWP (OkS Tryz.prog) A102L1 (qL [0,3] [] (S_ae) (qX 0 [3] [] (SX_ae)) o) (S_ae sZ2):=by
 unfold M_ae at h
 simp only [ZC,S_ae,A102L1]
 obtain ⟨cZ3,h⟩ | ⟨cZ3,h⟩:=cond_s h
 · obtain ⟨uZ4,huZ4,h⟩:=bind_s h
   have huZ4g:=grd_s huZ4
   obtain ⟨lZ5,hlZ5,h⟩:=bnd_s h
   have eZ6:Row.arr 1 [(.sc (.int .u8 (IntKind.wrap .u8 (IntKind.wrap .i64 (48+(Int.tmod sZ2.1 10))))):AV)]=Row.arr 1 (lZ5.map AV.u8):=by rw [← hlZ5]; rfl
   have jjZ7:lZ5.length=1:=by rw [← hlZ5]; rfl
   have nZ8:sub (lZ5.map AV.u8) 0 1=lZ5.map AV.u8:=sub_n _ (by simp [← hlZ5])
   obtain ⟨uZ9,huZ9,h⟩:=bind_s h
   have huZ9g:=grd_s huZ9
   obtain ⟨uZ10,huZ10,h⟩:=bind_s h
   have huZ10g:=grd_s huZ10
   cases h
   exact ZL (ZA cZ3 (ZA huZ4g (ZA eZ6 (ZA jjZ7 (ZA nZ8 (ZA huZ9g huZ10g)))))) (ZA @S_ae.eq_1 (ZA @SX_ae.eq_1 (ZA hlZ5.symm jjZ7)))
 · cases h
   exact ZL cZ3 (ZA @S_ae.eq_1 @SX_ae.eq_1)
theorem w_ci (kZ0:Int) {r:ByteArray} (h:M_ci kZ0=some r):Ok Tryz.prog 102 [.i kZ0] ((fun r=>.z r) r):=by
 refine ok_of_body hmix m102 rfl ?_
 unfold M_ci at h
 simp only [ZC,A102,V102,body_eq]
 obtain ⟨cZ1,h⟩ | ⟨cZ1,h⟩:=cond_s h
 · cases h
   exact ZL cZ1 @V102.eq_1
 · obtain ⟨oZ11,hoZ11,h⟩:=bind_s h
   try refine ZF cZ1 ?_
   refine join_rule0 (blk_rule0 (loop_rule (w_ae) hoZ11 ?_)) ?_
   · exact ZK (ZA @S_ae.eq_1 @SX_ae.eq_1)
   · simp only [ZC,SX_ae,A102R2]
     obtain ⟨uZ12,huZ12,h⟩:=bind_s h
     have huZ12g:=grd_s huZ12
     cases h
     exact ZL (ZA cZ1 huZ12g) @V102.eq_1
def S_ap (v:Int×Int×List ByteArray):St:=⟨[(0,.sl 1000000000 0 v.2.2.length),(1,.i v.1),(5,.i v.2.1)],[(1000000000,.arr 1 (v.2.2.map AV.z))]⟩
def SX_ap (v:Int×List ByteArray):St:=⟨[(1,.i v.1)],[(1000000000,.arr 1 (v.2.map AV.z))]⟩
theorem w_ap (sZ1:Int×Int×List ByteArray) (o:(Int×Int×List ByteArray) ⊕ (Int×List ByteArray)) (h:M_ap sZ1=some o):AWP (OkS Tryz.prog) A56M1L1 (qL [0,1,5] [1000000000] (S_ap) (qX 0 [1] [1000000000] (SX_ap)) o) (S_ap sZ1):=by
 unfold M_ap at h
 simp only [ZC,S_ap,A56M1L1]
 obtain ⟨cZ2,h⟩ | ⟨cZ2,h⟩:=cond_s h
 · obtain ⟨rZ3,hrZ3,h⟩:=bind_s h
   refine ZF cZ2 ?_
   refine ZS cZ2 (w_ci _ hrZ3) ?_
   refine ZG ?_
   obtain ⟨kZ4,hkZ4,h⟩:=bind_s h
   obtain ⟨hkZ4a,hkZ4b⟩:=grd_s hkZ4
   obtain ⟨yZ5,hyZ5,h⟩:=bind_s h
   obtain ⟨lZ6,hlZ6,h⟩:=bnd_s h
   have eZ7:(sZ1.2.2.map AV.z).set (Int.toNat sZ1.2.1) (.z rZ3)=lZ6.map AV.z:=by rw [← hlZ6,List.map_set]
   cases h
   exact ZL (ZA cZ2 (ZA hkZ4a (ZA hkZ4b (ZA hyZ5 eZ7)))) (ZA @S_ap.eq_1 (ZA @SX_ap.eq_1 hlZ6.symm))
 · cases h
   exact ZL cZ2 (ZA @S_ap.eq_1 @SX_ap.eq_1)
theorem w_ec (aaZ0:Int) (abZ0:List ByteArray) {r:Int×List ByteArray} (h:M_ec aaZ0 abZ0=some r):OkM Tryz.prog 56 [.sl 1000000000 0 abZ0.length,.i aaZ0] [(1000000000,.arr 1 (abZ0.map AV.z))] ((fun (r:Int×List ByteArray)=>.i r.1) r) ((fun (r:Int×List ByteArray)=>[(1000000000,.arr 1 (r.2.map AV.z))]) r):=by
 refine okM_of_body (lr:=[1000000000]) hmix m56M1 rfl rfl ?_
 unfold M_ec at h
 simp only [ZC,A56M1,V56M1]
 obtain ⟨oZ8,hoZ8,h⟩:=bind_s h
 try refine ZF trivial ?_
 refine join_rule0 (blk_rule0 (loop_rule (w_ap) hoZ8 ?_)) ?_
 · exact ZK (ZA @S_ap.eq_1 @SX_ap.eq_1)
 · simp only [ZC,SX_ap,A56M1R2]
   cases h
   exact ZL trivial @V56M1.eq_1
def S_aq (v:Int×Int×List TFiber):St:=⟨[(0,.sl 1000000000 0 v.2.2.length),(1,.i v.1),(5,.i v.2.1)],[(1000000000,.arr 4 (v.2.2.map (e_TFiber .u)))]⟩
def SX_aq (v:Int×List TFiber):St:=⟨[(1,.i v.1)],[(1000000000,.arr 4 (v.2.map (e_TFiber .u)))]⟩
theorem w_aq (sZ1:Int×Int×List TFiber) (o:(Int×Int×List TFiber) ⊕ (Int×List TFiber)) (h:M_aq sZ1=some o):AWP (OkS Tryz.prog) A57M1L1 (qL [0,1,5] [1000000000] (S_aq) (qX 0 [1] [1000000000] (SX_aq)) o) (S_aq sZ1):=by
 unfold M_aq at h
 simp only [ZC,S_aq,A57M1L1]
 obtain ⟨cZ2,h⟩ | ⟨cZ2,h⟩:=cond_s h
 · obtain ⟨kZ3,hkZ3,h⟩:=bind_s h
   obtain ⟨hkZ3a,hkZ3b⟩:=grd_s hkZ3
   obtain ⟨yZ4,hyZ4,h⟩:=bind_s h
   obtain ⟨lZ5,hlZ5,h⟩:=bnd_s h
   have eZ6:(sZ1.2.2.map (e_TFiber .u)).set (Int.toNat sZ1.2.1) (.agg [.i sZ1.1,.i yZ4.B,.i yZ4.Length,.i yZ4.Risk])=lZ5.map (e_TFiber .u):=by rw [← hlZ5,List.map_set]; rfl
   obtain ⟨yZ7,hyZ7,h⟩:=bind_s h
   obtain ⟨lZ8,hlZ8,h⟩:=bnd_s h
   have eZ9:(lZ5.map (e_TFiber .u)).set (Int.toNat sZ1.2.1) (.agg [.i yZ7.A,.i (IntKind.wrap .i64 (sZ1.1+1)),.i yZ7.Length,.i yZ7.Risk])=lZ8.map (e_TFiber .u):=by rw [← hlZ8,List.map_set]; rfl
   obtain ⟨yZ10,hyZ10,h⟩:=bind_s h
   obtain ⟨lZ11,hlZ11,h⟩:=bnd_s h
   have eZ12:(lZ8.map (e_TFiber .u)).set (Int.toNat sZ1.2.1) (.agg [.i yZ10.A,.i yZ10.B,.i (IntKind.wrap .i64 ((IntKind.wrap .i64 (sZ1.1+1))+1)),.i yZ10.Risk])=lZ11.map (e_TFiber .u):=by rw [← hlZ11,List.map_set]; rfl
   obtain ⟨yZ13,hyZ13,h⟩:=bind_s h
   obtain ⟨lZ14,hlZ14,h⟩:=bnd_s h
   have eZ15:(lZ11.map (e_TFiber .u)).set (Int.toNat sZ1.2.1) (.agg [.i yZ13.A,.i yZ13.B,.i yZ13.Length,.i (IntKind.wrap .i64 ((IntKind.wrap .i64 ((IntKind.wrap .i64 (sZ1.1+1))+1))+1))])=lZ14.map (e_TFiber .u):=by rw [← hlZ14,List.map_set]; rfl
   cases h
   exact ZL (ZA cZ2 (ZA hkZ3a (ZA hkZ3b (ZA hyZ4 (ZA eZ6 (ZA hyZ7 (ZA eZ9 (ZA hyZ10 (ZA eZ12 (ZA hyZ13 eZ15)))))))))) (ZA @S_aq.eq_1 (ZA @SX_aq.eq_1 (ZA hlZ5.symm (ZA hlZ8.symm (ZA hlZ11.symm hlZ14.symm)))))
 · cases h
   exact ZL cZ2 (ZA @S_aq.eq_1 @SX_aq.eq_1)
theorem w_ed (aaZ0:Int) (abZ0:List TFiber) {r:Int×List TFiber} (h:M_ed aaZ0 abZ0=some r):OkM Tryz.prog 57 [.sl 1000000000 0 abZ0.length,.i aaZ0] [(1000000000,.arr 4 (abZ0.map (e_TFiber .u)))] ((fun (r:Int×List TFiber)=>.i r.1) r) ((fun (r:Int×List TFiber)=>[(1000000000,.arr 4 (r.2.map (e_TFiber .u)))]) r):=by
 refine okM_of_body (lr:=[1000000000]) hmix m57M1 rfl rfl ?_
 unfold M_ed at h
 simp only [ZC,A57M1,V57M1]
 obtain ⟨oZ16,hoZ16,h⟩:=bind_s h
 try refine ZF trivial ?_
 refine join_rule0 (blk_rule0 (loop_rule (w_aq) hoZ16 ?_)) ?_
 · exact ZK (ZA @S_aq.eq_1 @SX_aq.eq_1)
 · simp only [ZC,SX_aq,A57M1R2]
   cases h
   exact ZL trivial @V57M1.eq_1
theorem w_ee (aaZ0:Int) (abZ0:List ByteArray) (acZ0:List TFiber) {r:Int×List ByteArray×List TFiber} (h:M_ee aaZ0 abZ0 acZ0=some r):OkM Tryz.prog 21 [.agg [.sl 1000000000 0 abZ0.length,.sl 1000000001 0 acZ0.length],.i aaZ0] [(1000000000,.arr 1 (abZ0.map AV.z)),(1000000001,.arr 4 (acZ0.map (e_TFiber .u)))] ((fun (r:Int×List ByteArray×List TFiber)=>.i r.1) r) ((fun (r:Int×List ByteArray×List TFiber)=>[(1000000000,.arr 1 (r.2.1.map AV.z)),(1000000001,.arr 4 (r.2.2.map (e_TFiber .u)))]) r):=by
 refine okM_of_body (lr:=[1000000000,1000000001]) hmix m21M1 rfl rfl ?_
 unfold M_ee at h
 simp only [ZC,A21M1,V21M1]
 obtain ⟨rZ1,hrZ1,h⟩:=bind_s h
 refine ZF trivial ?_
 refine ZW trivial (w_ec _ _ hrZ1) (h2:=by first | exact nm_ok [1000000000] rfl (by decide +kernel) | exact nm_ok2 [1000000000] [] rfl (by decide +kernel) ZQ | exact ZQ) (hk:=?_)
 refine ZG ?_
 obtain ⟨rZ2,hrZ2,h⟩:=bind_s h
 refine ZF trivial ?_
 refine ZW trivial (w_ed _ _ hrZ2) (h2:=by first | exact nm_ok [1000000000] rfl (by decide +kernel) | exact nm_ok2 [1000000000] [] rfl (by decide +kernel) ZQ | exact ZQ) (hk:=?_)
 refine ZG ?_
 cases h
 exact ZL trivial @V21M1.eq_1
def S_ar (v:Int×Int×List Int):St:=⟨[(0,.sl 1000000000 0 v.2.2.length),(1,.i v.1),(5,.i v.2.1)],[(1000000000,.arr 1 (v.2.2.map AV.i))]⟩
def SX_ar (v:Int×List Int):St:=⟨[(1,.i v.1)],[(1000000000,.arr 1 (v.2.map AV.i))]⟩
theorem w_ar (sZ1:Int×Int×List Int) (o:(Int×Int×List Int) ⊕ (Int×List Int)) (h:M_ar sZ1=some o):AWP (OkS Tryz.prog) A23M1L1 (qL [0,1,5] [1000000000] (S_ar) (qX 0 [1] [1000000000] (SX_ar)) o) (S_ar sZ1):=by
 unfold M_ar at h
 simp only [ZC,S_ar,A23M1L1]
 obtain ⟨cZ2,h⟩ | ⟨cZ2,h⟩:=cond_s h
 · obtain ⟨kZ3,hkZ3,h⟩:=bind_s h
   obtain ⟨hkZ3a,hkZ3b⟩:=grd_s hkZ3
   obtain ⟨yZ4,hyZ4,h⟩:=bind_s h
   obtain ⟨lZ5,hlZ5,h⟩:=bnd_s h
   have eZ6:(sZ1.2.2.map AV.i).set (Int.toNat sZ1.2.1) (.i sZ1.1)=lZ5.map AV.i:=by rw [← hlZ5,List.map_set]
   cases h
   exact ZL (ZA cZ2 (ZA hkZ3a (ZA hkZ3b (ZA hyZ4 eZ6)))) (ZA @S_ar.eq_1 (ZA @SX_ar.eq_1 hlZ5.symm))
 · cases h
   exact ZL cZ2 (ZA @S_ar.eq_1 @SX_ar.eq_1)
theorem w_co (aaZ0:Int) (abZ0:List Int) {r:Int×List Int} (h:M_co aaZ0 abZ0=some r):OkM Tryz.prog 23 [.sl 1000000000 0 abZ0.length,.i aaZ0] [(1000000000,.arr 1 (abZ0.map AV.i))] ((fun (r:Int×List Int)=>.i r.1) r) ((fun (r:Int×List Int)=>[(1000000000,.arr 1 (r.2.map AV.i))]) r):=by
 refine okM_of_body (lr:=[1000000000]) hmix m23M1 rfl rfl ?_
 unfold M_co at h
 simp only [ZC,A23M1,V23M1]
 obtain ⟨oZ7,hoZ7,h⟩:=bind_s h
 try refine ZF trivial ?_
 refine join_rule0 (blk_rule0 (loop_rule (w_ar) hoZ7 ?_)) ?_
 · exact ZK (ZA @S_ar.eq_1 @SX_ar.eq_1)
 · simp only [ZC,SX_ar,A23M1R2]
   cases h
   exact ZL trivial @V23M1.eq_1
def S_at (v:Int×Int×List TService):St:=⟨[(0,.sl 1000000000 0 v.2.2.length),(1,.i v.1),(5,.i v.2.1)],[(1000000000,.arr 10 (v.2.2.map (e_TService .u)))]⟩
def SX_at (v:Int×List TService):St:=⟨[(1,.i v.1)],[(1000000000,.arr 10 (v.2.map (e_TService .u)))]⟩
theorem w_at (sZ1:Int×Int×List TService) (o:(Int×Int×List TService) ⊕ (Int×List TService)) (h:M_at sZ1=some o):AWP (OkS Tryz.prog) A22M1L1 (qL [0,1,5] [1000000000] (S_at) (qX 0 [1] [1000000000] (SX_at)) o) (S_at sZ1):=by
 unfold M_at at h
 simp only [ZC,S_at,A22M1L1]
 obtain ⟨cZ2,h⟩ | ⟨cZ2,h⟩:=cond_s h
 · obtain ⟨kZ3,hkZ3,h⟩:=bind_s h
   obtain ⟨hkZ3a,hkZ3b⟩:=grd_s hkZ3
   obtain ⟨yZ4,hyZ4,h⟩:=bind_s h
   obtain ⟨lZ5,hlZ5,h⟩:=bnd_s h
   have eZ6:(sZ1.2.2.map (e_TService .u)).set (Int.toNat sZ1.2.1) (.agg [.i sZ1.1,.i yZ4.Class,.i yZ4.Work.Start,.lst .u 1 (yZ4.Work.Fibers.map AV.i),.i yZ4.WorkBlock.First,.i yZ4.WorkBlock.Count,.i yZ4.Spare.Start,.lst .u 1 (yZ4.Spare.Fibers.map AV.i),.i yZ4.SpareBlock.First,.i yZ4.SpareBlock.Count])=lZ5.map (e_TService .u):=by rw [← hlZ5,List.map_set]; rfl
   obtain ⟨yZ7,hyZ7,h⟩:=bind_s h
   obtain ⟨lZ8,hlZ8,h⟩:=bnd_s h
   have eZ9:(lZ5.map (e_TService .u)).set (Int.toNat sZ1.2.1) (.agg [.i yZ7.Id,.i (IntKind.wrap .i64 (sZ1.1+1)),.i yZ7.Work.Start,.lst .u 1 (yZ7.Work.Fibers.map AV.i),.i yZ7.WorkBlock.First,.i yZ7.WorkBlock.Count,.i yZ7.Spare.Start,.lst .u 1 (yZ7.Spare.Fibers.map AV.i),.i yZ7.SpareBlock.First,.i yZ7.SpareBlock.Count])=lZ8.map (e_TService .u):=by rw [← hlZ8,List.map_set]; rfl
   obtain ⟨yZ10,hyZ10,h⟩:=bind_s h
   obtain ⟨lZ11,hlZ11,h⟩:=bnd_s h
   have eZ12:(lZ8.map (e_TService .u)).set (Int.toNat sZ1.2.1) (.agg [.i yZ10.Id,.i yZ10.Class,.i (IntKind.wrap .i64 ((IntKind.wrap .i64 (sZ1.1+1))+1)),.lst .u 1 (yZ10.Work.Fibers.map AV.i),.i yZ10.WorkBlock.First,.i yZ10.WorkBlock.Count,.i yZ10.Spare.Start,.lst .u 1 (yZ10.Spare.Fibers.map AV.i),.i yZ10.SpareBlock.First,.i yZ10.SpareBlock.Count])=lZ11.map (e_TService .u):=by rw [← hlZ11,List.map_set]; rfl
   obtain ⟨yZ13,hyZ13,h⟩:=bind_s h
   obtain ⟨rZ14,hrZ14,h⟩:=bind_s h
   obtain ⟨lZ15,hlZ15,h⟩:=bnd_s h
   have eZ16:(lZ11.map (e_TService .u)).set (Int.toNat sZ1.2.1) (.agg [.i yZ13.Id,.i yZ13.Class,.i yZ13.Work.Start,.lst .u 1 (rZ14.2.map AV.i),.i yZ13.WorkBlock.First,.i yZ13.WorkBlock.Count,.i yZ13.Spare.Start,.lst .u 1 (yZ13.Spare.Fibers.map AV.i),.i yZ13.SpareBlock.First,.i yZ13.SpareBlock.Count])=lZ15.map (e_TService .u):=by rw [← hlZ15,List.map_set]; rfl
   refine ZF (ZA cZ2 (ZA hkZ3a (ZA hkZ3b (ZA hyZ4 (ZA eZ6 (ZA hyZ7 (ZA eZ9 (ZA hyZ10 (ZA eZ12 hyZ13))))))))) ?_
   refine inn_s (v:=.int .i64 rZ14.1) (ys':=rZ14.2.map AV.i) (z:=.agg [.i yZ13.Id,.i yZ13.Class,.i yZ13.Work.Start,.lst .u 1 (rZ14.2.map AV.i),.i yZ13.WorkBlock.First,.i yZ13.WorkBlock.Count,.i yZ13.Spare.Start,.lst .u 1 (yZ13.Spare.Fibers.map AV.i),.i yZ13.SpareBlock.First,.i yZ13.SpareBlock.Count]) (by simp only [VS1,VS2,VS3,VS4,VS5,VS6,VT1,VT2,finM_ret,finM_nrm,decide_true,decide_false,List.nodup_nil,List.nodup_cons,oks_p,oks_m,oks_h,ne_eq,not_false_eq_true,Int.reduceEq,Int.reduceNe,true_and,false_and,Nat.reduceSub,Nat.reduceMul,↓reduceIte,reduceCtorEq,Nat.reduceEqDiff,Nat.reduceAdd,Nat.reduceLeDiff,Int.reduceLE,cZ2,hkZ3a,hkZ3b,hyZ4,eZ6,hyZ7,eZ9,hyZ10,eZ12,hyZ13]; exact w_co _ _ hrZ14) (by simp [AV.flat,VT1,VT2]) (by simp [fz_mk,fz_bpo,fz_sc,fz_lsto,fz_agg,fz_tup,fz_fn,fz_sl,fz_pt,fz_top,fzL_nil,fzL_cons,ou_sc,ou_lstu,ou_lsto,ou_agg,ouL_nil,ouL_cons,rfz_var,rfz_arr,rfz_dead,fzL_mi,fzL_mb,fzL_mz,fzL_m8,fzL_m64,ouL_m8,ouL_m64,ouL_mi,ouL_mb,ouL_mz,VZ1]) (by simp [VS1,VS2,VS3,VS4,VS5,VS6,VT1,VT2]) (by simp [AV.flat,VT1,VT2]) rfl ?_
   refine ZG ?_
   obtain ⟨yZ17,hyZ17,h⟩:=bind_s h
   obtain ⟨lZ18,hlZ18,h⟩:=bnd_s h
   have eZ19:(lZ15.map (e_TService .u)).set (Int.toNat sZ1.2.1) (.agg [.i yZ17.Id,.i yZ17.Class,.i yZ17.Work.Start,.lst .u 1 (yZ17.Work.Fibers.map AV.i),.i rZ14.1,.i yZ17.WorkBlock.Count,.i yZ17.Spare.Start,.lst .u 1 (yZ17.Spare.Fibers.map AV.i),.i yZ17.SpareBlock.First,.i yZ17.SpareBlock.Count])=lZ18.map (e_TService .u):=by rw [← hlZ18,List.map_set]; rfl
   obtain ⟨yZ20,hyZ20,h⟩:=bind_s h
   obtain ⟨lZ21,hlZ21,h⟩:=bnd_s h
   have eZ22:(lZ18.map (e_TService .u)).set (Int.toNat sZ1.2.1) (.agg [.i yZ20.Id,.i yZ20.Class,.i yZ20.Work.Start,.lst .u 1 (yZ20.Work.Fibers.map AV.i),.i yZ20.WorkBlock.First,.i (IntKind.wrap .i64 (rZ14.1+1)),.i yZ20.Spare.Start,.lst .u 1 (yZ20.Spare.Fibers.map AV.i),.i yZ20.SpareBlock.First,.i yZ20.SpareBlock.Count])=lZ21.map (e_TService .u):=by rw [← hlZ21,List.map_set]; rfl
   obtain ⟨yZ23,hyZ23,h⟩:=bind_s h
   obtain ⟨lZ24,hlZ24,h⟩:=bnd_s h
   have eZ25:(lZ21.map (e_TService .u)).set (Int.toNat sZ1.2.1) (.agg [.i yZ23.Id,.i yZ23.Class,.i yZ23.Work.Start,.lst .u 1 (yZ23.Work.Fibers.map AV.i),.i yZ23.WorkBlock.First,.i yZ23.WorkBlock.Count,.i (IntKind.wrap .i64 ((IntKind.wrap .i64 (rZ14.1+1))+1)),.lst .u 1 (yZ23.Spare.Fibers.map AV.i),.i yZ23.SpareBlock.First,.i yZ23.SpareBlock.Count])=lZ24.map (e_TService .u):=by rw [← hlZ24,List.map_set]; rfl
   obtain ⟨yZ26,hyZ26,h⟩:=bind_s h
   obtain ⟨rZ27,hrZ27,h⟩:=bind_s h
   obtain ⟨lZ28,hlZ28,h⟩:=bnd_s h
   have eZ29:(lZ24.map (e_TService .u)).set (Int.toNat sZ1.2.1) (.agg [.i yZ26.Id,.i yZ26.Class,.i yZ26.Work.Start,.lst .u 1 (yZ26.Work.Fibers.map AV.i),.i yZ26.WorkBlock.First,.i yZ26.WorkBlock.Count,.i yZ26.Spare.Start,.lst .u 1 (rZ27.2.map AV.i),.i yZ26.SpareBlock.First,.i yZ26.SpareBlock.Count])=lZ28.map (e_TService .u):=by rw [← hlZ28,List.map_set]; rfl
   refine ZF (ZA cZ2 (ZA hkZ3a (ZA hkZ3b (ZA hyZ4 (ZA eZ6 (ZA hyZ7 (ZA eZ9 (ZA hyZ10 (ZA eZ12 (ZA hyZ13 (ZA eZ16 (ZA hyZ17 (ZA eZ19 (ZA hyZ20 (ZA eZ22 (ZA hyZ23 (ZA eZ25 hyZ26))))))))))))))))) ?_
   refine inn_s (v:=.int .i64 rZ27.1) (ys':=rZ27.2.map AV.i) (z:=.agg [.i yZ26.Id,.i yZ26.Class,.i yZ26.Work.Start,.lst .u 1 (yZ26.Work.Fibers.map AV.i),.i yZ26.WorkBlock.First,.i yZ26.WorkBlock.Count,.i yZ26.Spare.Start,.lst .u 1 (rZ27.2.map AV.i),.i yZ26.SpareBlock.First,.i yZ26.SpareBlock.Count]) (by simp only [VS1,VS2,VS3,VS4,VS5,VS6,VT1,VT2,finM_ret,finM_nrm,decide_true,decide_false,List.nodup_nil,List.nodup_cons,oks_p,oks_m,oks_h,ne_eq,not_false_eq_true,Int.reduceEq,Int.reduceNe,true_and,false_and,Nat.reduceSub,Nat.reduceMul,↓reduceIte,reduceCtorEq,Nat.reduceEqDiff,Nat.reduceAdd,Nat.reduceLeDiff,Int.reduceLE,cZ2,hkZ3a,hkZ3b,hyZ4,eZ6,hyZ7,eZ9,hyZ10,eZ12,hyZ13,eZ16,hyZ17,eZ19,hyZ20,eZ22,hyZ23,eZ25,hyZ26]; exact w_co _ _ hrZ27) (by simp [AV.flat,VT1,VT2]) (by simp [fz_mk,fz_bpo,fz_sc,fz_lsto,fz_agg,fz_tup,fz_fn,fz_sl,fz_pt,fz_top,fzL_nil,fzL_cons,ou_sc,ou_lstu,ou_lsto,ou_agg,ouL_nil,ouL_cons,rfz_var,rfz_arr,rfz_dead,fzL_mi,fzL_mb,fzL_mz,fzL_m8,fzL_m64,ouL_m8,ouL_m64,ouL_mi,ouL_mb,ouL_mz,VZ1]) (by simp [VS1,VS2,VS3,VS4,VS5,VS6,VT1,VT2]) (by simp [AV.flat,VT1,VT2]) rfl ?_
   refine ZG ?_
   obtain ⟨yZ30,hyZ30,h⟩:=bind_s h
   obtain ⟨lZ31,hlZ31,h⟩:=bnd_s h
   have eZ32:(lZ28.map (e_TService .u)).set (Int.toNat sZ1.2.1) (.agg [.i yZ30.Id,.i yZ30.Class,.i yZ30.Work.Start,.lst .u 1 (yZ30.Work.Fibers.map AV.i),.i yZ30.WorkBlock.First,.i yZ30.WorkBlock.Count,.i yZ30.Spare.Start,.lst .u 1 (yZ30.Spare.Fibers.map AV.i),.i rZ27.1,.i yZ30.SpareBlock.Count])=lZ31.map (e_TService .u):=by rw [← hlZ31,List.map_set]; rfl
   obtain ⟨yZ33,hyZ33,h⟩:=bind_s h
   obtain ⟨lZ34,hlZ34,h⟩:=bnd_s h
   have eZ35:(lZ31.map (e_TService .u)).set (Int.toNat sZ1.2.1) (.agg [.i yZ33.Id,.i yZ33.Class,.i yZ33.Work.Start,.lst .u 1 (yZ33.Work.Fibers.map AV.i),.i yZ33.WorkBlock.First,.i yZ33.WorkBlock.Count,.i yZ33.Spare.Start,.lst .u 1 (yZ33.Spare.Fibers.map AV.i),.i yZ33.SpareBlock.First,.i (IntKind.wrap .i64 (rZ27.1+1))])=lZ34.map (e_TService .u):=by rw [← hlZ34,List.map_set]; rfl
   cases h
   exact ZL (ZA cZ2 (ZA hkZ3a (ZA hkZ3b (ZA hyZ4 (ZA eZ6 (ZA hyZ7 (ZA eZ9 (ZA hyZ10 (ZA eZ12 (ZA hyZ13 (ZA eZ16 (ZA hyZ17 (ZA eZ19 (ZA hyZ20 (ZA eZ22 (ZA hyZ23 (ZA eZ25 (ZA hyZ26 (ZA eZ29 (ZA hyZ30 (ZA eZ32 (ZA hyZ33 eZ35)))))))))))))))))))))) (ZA @S_at.eq_1 (ZA @SX_at.eq_1 (ZA hlZ5.symm (ZA hlZ8.symm (ZA hlZ11.symm (ZA hlZ15.symm (ZA hlZ18.symm (ZA hlZ21.symm (ZA hlZ24.symm (ZA hlZ28.symm (ZA hlZ31.symm hlZ34.symm)))))))))))
 · cases h
   exact ZL cZ2 (ZA @S_at.eq_1 @SX_at.eq_1)
theorem w_bn (aaZ0:Int) (abZ0:List TService) {r:Int×List TService} (h:M_bn aaZ0 abZ0=some r):OkH Tryz.prog 22 [.sl 1000000000 0 abZ0.length,.i aaZ0] [(1000000000,.arr 10 (abZ0.map (e_TService .u)))] ((fun (r:Int×List TService)=>.i r.1) r) ((fun (r:Int×List TService)=>[(1000000000,.arr 10 (r.2.map (e_TService .u)))]) r):=by
 refine okH_of_body (lr:=[1000000000]) hmix m22M1 rfl ?_
 unfold M_bn at h
 simp only [ZC,A22M1,V22M1]
 obtain ⟨oZ36,hoZ36,h⟩:=bind_s h
 try refine ZF trivial ?_
 refine join_rule0 (blk_rule0 (loop_rule (w_at) hoZ36 ?_)) ?_
 · exact ZK (ZA @S_at.eq_1 @SX_at.eq_1)
 · simp only [ZC,SX_at,A22M1R2]
   cases h
   exact ZL trivial @V22M1.eq_1
def S_as (aZ0:List Int) (v:Int×Int):St:=⟨[(0,.lst .o 1 (aZ0.map AV.i)),(1,.i v.1),(5,.i v.2)],[]⟩
def SX_as (v:Int):St:=⟨[(1,.i v)],[]⟩
theorem w_as (aZ0:List Int) (sZ1:Int×Int) (o:(Int×Int) ⊕ (Int ⊕ Int)) (h:M_as aZ0 sZ1=some o):AWP (OkS Tryz.prog) A24L1 (qL [0,1,5] [] (S_as aZ0) (qS (qX 0 [1] [] (SX_as)) (qR V24 (fun r=>.i r))) o) (S_as aZ0 sZ1):=by
 unfold M_as at h
 simp only [ZC,S_as,A24L1]
 obtain ⟨cZ2,h⟩ | ⟨cZ2,h⟩:=cond_s h
 · obtain ⟨yZ3,hyZ3,h⟩:=bind_s h
   obtain ⟨hyZ3a,hyZ3b⟩:=geti_s hyZ3
   obtain ⟨cZ4,h⟩ | ⟨cZ4,h⟩:=cond_s h
   · cases h
     exact ZL (ZA cZ2 (ZA hyZ3a (ZA hyZ3b cZ4))) @V24.eq_1
   · cases h
     exact ZL (ZA cZ2 (ZA hyZ3a (ZA hyZ3b cZ4))) (ZA @S_as.eq_1 @SX_as.eq_1)
 · cases h
   exact ZL cZ2 (ZA @S_as.eq_1 @SX_as.eq_1)
theorem w_bm (aZ0:List Int) (kZ0:Int) {r:Int} (h:M_bm aZ0 kZ0=some r):Ok Tryz.prog 24 [.lst .o 1 (aZ0.map AV.i),.i kZ0] ((fun r=>.i r) r):=by
 refine ok_of_body hmix m24 rfl ?_
 unfold M_bm at h
 simp only [ZC,A24,V24,body_eq]
 obtain ⟨oZ5,hoZ5,h⟩:=bind_s h
 try refine ZF trivial ?_
 refine join_rule (o:=oZ5) (blk_rule sideR (loop_rule (w_as aZ0) hoZ5 ?_)) (fun vZ6 hv=>?_) (fun xZ7 hv e τ hne hq=>?_)
 · exact ZK (ZA @S_as.eq_1 @SX_as.eq_1)
 · subst hv
   simp only [] at h
   simp only [ZC,SX_as,A24R2]
   cases h
   exact ZL trivial @V24.eq_1
 · subst hv
   simp only [] at h
   obtain ⟨rfl,qZ8⟩:=hq
   cases h
   exact qZ8
def S_au (aZ0:List TService) (v:Int×Int):St:=⟨[(0,.lst .o 10 (aZ0.map (e_TService .o))),(1,.i v.1),(5,.i v.2)],[]⟩
def SX_au (v:Int):St:=⟨[(1,.i v)],[]⟩
theorem w_au (aZ0:List TService) (sZ1:Int×Int) (o:(Int×Int) ⊕ (Int ⊕ Int)) (h:M_au aZ0 sZ1=some o):AWP (OkS Tryz.prog) A32L1 (qL [0,1,5] [] (S_au aZ0) (qS (qX 0 [1] [] (SX_au)) (qR V32 (fun r=>.i r))) o) (S_au aZ0 sZ1):=by
 unfold M_au at h
 simp only [ZC,S_au,A32L1]
 obtain ⟨cZ2,h⟩ | ⟨cZ2,h⟩:=cond_s h
 · obtain ⟨yZ3,hyZ3,h⟩:=bind_s h
   obtain ⟨hyZ3a,hyZ3b⟩:=geti_s hyZ3
   obtain ⟨cZ4,h⟩ | ⟨cZ4,h⟩:=cond_s h
   · cases h
     exact ZL (ZA cZ2 (ZA hyZ3a (ZA hyZ3b cZ4))) @V32.eq_1
   · obtain ⟨cZ5,h⟩ | ⟨cZ5,h⟩:=cond_s h
     · cases h
       exact ZL (ZA cZ2 (ZA hyZ3a (ZA hyZ3b (ZA cZ4 cZ5)))) @V32.eq_1
     · obtain ⟨cZ6,h⟩ | ⟨cZ6,h⟩:=cond_s h
       · cases h
         exact ZL (ZA cZ2 (ZA hyZ3a (ZA hyZ3b (ZA cZ4 (ZA cZ5 cZ6))))) @V32.eq_1
       · obtain ⟨rZ7,hrZ7,h⟩:=bind_s h
         refine ZF (ZA cZ2 (ZA hyZ3a (ZA hyZ3b (ZA cZ4 (ZA cZ5 cZ6))))) ?_
         refine ZS (ZA cZ2 (ZA hyZ3a (ZA hyZ3b (ZA cZ4 (ZA cZ5 cZ6))))) (w_bm _ _ hrZ7) ?_
         refine ZG ?_
         obtain ⟨cZ8,h⟩ | ⟨cZ8,h⟩:=cond_s h
         · cases h
           exact ZL (ZA cZ2 (ZA hyZ3a (ZA hyZ3b (ZA cZ4 (ZA cZ5 (ZA cZ6 cZ8)))))) @V32.eq_1
         · obtain ⟨cZ9,h⟩ | ⟨cZ9,h⟩:=cond_s h
           · cases h
             exact ZL (ZA cZ2 (ZA hyZ3a (ZA hyZ3b (ZA cZ4 (ZA cZ5 (ZA cZ6 (ZA cZ8 cZ9))))))) @V32.eq_1
           · obtain ⟨cZ10,h⟩ | ⟨cZ10,h⟩:=cond_s h
             · cases h
               exact ZL (ZA cZ2 (ZA hyZ3a (ZA hyZ3b (ZA cZ4 (ZA cZ5 (ZA cZ6 (ZA cZ8 (ZA cZ9 cZ10)))))))) @V32.eq_1
             · obtain ⟨cZ11,h⟩ | ⟨cZ11,h⟩:=cond_s h
               · cases h
                 exact ZL (ZA cZ2 (ZA hyZ3a (ZA hyZ3b (ZA cZ4 (ZA cZ5 (ZA cZ6 (ZA cZ8 (ZA cZ9 (ZA cZ10 cZ11))))))))) @V32.eq_1
               · obtain ⟨rZ12,hrZ12,h⟩:=bind_s h
                 refine ZF (ZA cZ2 (ZA hyZ3a (ZA hyZ3b (ZA cZ4 (ZA cZ5 (ZA cZ6 (ZA cZ8 (ZA cZ9 (ZA cZ10 cZ11))))))))) ?_
                 refine ZS (ZA cZ2 (ZA hyZ3a (ZA hyZ3b (ZA cZ4 (ZA cZ5 (ZA cZ6 (ZA cZ8 (ZA cZ9 (ZA cZ10 cZ11))))))))) (w_bm _ _ hrZ12) ?_
                 refine ZG ?_
                 obtain ⟨cZ13,h⟩ | ⟨cZ13,h⟩:=cond_s h
                 · cases h
                   exact ZL (ZA cZ2 (ZA hyZ3a (ZA hyZ3b (ZA cZ4 (ZA cZ5 (ZA cZ6 (ZA cZ8 (ZA cZ9 (ZA cZ10 (ZA cZ11 cZ13)))))))))) @V32.eq_1
                 · obtain ⟨cZ14,h⟩ | ⟨cZ14,h⟩:=cond_s h
                   · cases h
                     exact ZL (ZA cZ2 (ZA hyZ3a (ZA hyZ3b (ZA cZ4 (ZA cZ5 (ZA cZ6 (ZA cZ8 (ZA cZ9 (ZA cZ10 (ZA cZ11 (ZA cZ13 cZ14))))))))))) @V32.eq_1
                   · obtain ⟨cZ15,h⟩ | ⟨cZ15,h⟩:=cond_s h
                     · cases h
                       exact ZL (ZA cZ2 (ZA hyZ3a (ZA hyZ3b (ZA cZ4 (ZA cZ5 (ZA cZ6 (ZA cZ8 (ZA cZ9 (ZA cZ10 (ZA cZ11 (ZA cZ13 (ZA cZ14 cZ15)))))))))))) @V32.eq_1
                     · cases h
                       exact ZL (ZA cZ2 (ZA hyZ3a (ZA hyZ3b (ZA cZ4 (ZA cZ5 (ZA cZ6 (ZA cZ8 (ZA cZ9 (ZA cZ10 (ZA cZ11 (ZA cZ13 (ZA cZ14 cZ15)))))))))))) (ZA @S_au.eq_1 @SX_au.eq_1)
 · cases h
   exact ZL cZ2 (ZA @S_au.eq_1 @SX_au.eq_1)
theorem w_cp (aZ0:List TService) (kZ0:Int) {r:Int} (h:M_cp aZ0 kZ0=some r):Ok Tryz.prog 32 [.lst .o 10 (aZ0.map (e_TService .o)),.i kZ0] ((fun r=>.i r) r):=by
 refine ok_of_body hmix m32 rfl ?_
 unfold M_cp at h
 simp only [ZC,A32,V32,body_eq]
 obtain ⟨oZ16,hoZ16,h⟩:=bind_s h
 try refine ZF trivial ?_
 refine join_rule (o:=oZ16) (blk_rule sideR (loop_rule (w_au aZ0) hoZ16 ?_)) (fun vZ17 hv=>?_) (fun xZ18 hv e τ hne hq=>?_)
 · exact ZK (ZA @S_au.eq_1 @SX_au.eq_1)
 · subst hv
   simp only [] at h
   simp only [ZC,SX_au,A32R2]
   cases h
   exact ZL trivial @V32.eq_1
 · subst hv
   simp only [] at h
   obtain ⟨rfl,qZ19⟩:=hq
   cases h
   exact qZ19
theorem w_er (aNZ0:TNetwork) (aListZ0:List TService) (aIdZ0:Int) {r:Bool} (h:M_er aNZ0 aListZ0 aIdZ0=some r):Ok Tryz.prog 6 [.agg [.lst .o 1 (aNZ0.Nodes.map AV.z),.lst .o 4 (aNZ0.Fibers.map (e_TFiber .o))],.lst .o 10 (aListZ0.map (e_TService .o)),.i aIdZ0] ((fun r=>.b r) r):=by
 refine ok_of_body hmix m6 rfl ?_
 unfold M_er at h
 simp only [ZC,A6,V6,body_eq]
 obtain ⟨rZ1,hrZ1,h⟩:=bind_s h
 refine ZF trivial ?_
 refine ZS trivial (w_dv _ _ hrZ1) ?_
 refine ZG ?_
 obtain ⟨cZ2,h⟩ | ⟨cZ2,h⟩:=cond_s h
 · cases h
   exact ZL cZ2 @V6.eq_1
 · obtain ⟨rZ3,hrZ3,h⟩:=bind_s h
   refine ZF cZ2 ?_
   refine ZS cZ2 (w_eb _ _ hrZ3) ?_
   refine ZG ?_
   obtain ⟨cZ4,h⟩ | ⟨cZ4,h⟩:=cond_s h
   · cases h
     exact ZL (ZA cZ2 cZ4) @V6.eq_1
   · obtain ⟨rZ5,hrZ5,h⟩:=bind_s h
     refine ZF (ZA cZ2 cZ4) ?_
     refine ZU (ZA cZ2 cZ4) (w_bg _ hrZ5) ?_
     refine ZG ?_
     obtain ⟨rZ6,hrZ6,h⟩:=bind_s h
     refine ZF (ZA cZ2 cZ4) ?_
     refine ZU (ZA cZ2 cZ4) (w_bh _ hrZ6) ?_
     refine ZG ?_
     obtain ⟨rZ7,hrZ7,h⟩:=bind_s h
     refine ZF (ZA cZ2 cZ4) ?_
     refine ZU (ZA cZ2 cZ4) (w_dk _ _ _ hrZ7) ?_
     refine ZG ?_
     obtain ⟨rZ8,hrZ8,h⟩:=bind_s h
     refine ZF (ZA cZ2 cZ4) ?_
     refine ZU (ZA cZ2 cZ4) (w_bg _ hrZ8) ?_
     refine ZG ?_
     obtain ⟨rZ9,hrZ9,h⟩:=bind_s h
     refine ZF (ZA cZ2 cZ4) ?_
     refine ZU (ZA cZ2 cZ4) (w_bh _ hrZ9) ?_
     refine ZG ?_
     obtain ⟨rZ10,hrZ10,h⟩:=bind_s h
     refine ZF (ZA cZ2 cZ4) ?_
     refine ZU (ZA cZ2 cZ4) (w_ce _ _ _ hrZ10) ?_
     refine ZG ?_
     obtain ⟨oZ13,hoZ13,h⟩:=bind_s h
     try refine ZF (ZA cZ2 cZ4) ?_
     refine join_rule0 (sh:=(fun v=>⟨[(1,.lst .o 10 (aListZ0.map (e_TService .o))),(2,.i aIdZ0),(3,.pt 3 0 0),(8,.sl 8 0 rZ7.1.length),(9,.b rZ7.2),(10,.pt 10 0 0),(11,.sl 11 0 rZ9.length),(12,.sl 12 0 rZ10.1.length),(13,.b rZ10.2),(57,.b v)],[(3,.var (.agg [.lst .o 1 (aNZ0.Nodes.map AV.z),.lst .o 4 (aNZ0.Fibers.map (e_TFiber .o))])),(8,.arr 10 (rZ7.1.map (e_TService .u))),(10,.var (.agg [.sl 39 0 rZ8.Nodes.length,.sl 1039 0 rZ8.Fibers.length])),(11,.arr 10 (rZ9.map (e_TService .u))),(12,.arr 10 (rZ10.1.map (e_TService .u))),(39,.arr 1 (rZ8.Nodes.map AV.z)),(1039,.arr 4 (rZ8.Fibers.map (e_TFiber .u)))]⟩)) (s:=oZ13) ?_ ?_
     · replace h:=hoZ13
       obtain ⟨rZ11,hrZ11,h⟩:=bind_s h
       refine ZF (ZA cZ2 cZ4) ?_
       refine ZS (ZA cZ2 cZ4) (w_bi _ _ hrZ11) ?_
       refine ZG ?_
       obtain ⟨cZ12,h⟩ | ⟨cZ12,h⟩:=cond_s h
       · cases h
         exact ZL (ZA cZ2 (ZA cZ4 cZ12)) trivial
       · cases h
         exact ZL (ZA cZ2 (ZA cZ4 cZ12)) trivial
     · simp only [ZC,A6R1]
       obtain ⟨cZ14,h⟩ | ⟨cZ14,h⟩:=cond_s h
       · cases h
         exact ZL (ZA cZ2 (ZA cZ4 cZ14)) @V6.eq_1
       · obtain ⟨rZ15,hrZ15,h⟩:=bind_s h
         refine ZF (ZA cZ2 (ZA cZ4 cZ14)) ?_
         refine ZU (ZA cZ2 (ZA cZ4 cZ14)) (w_bg _ hrZ15) ?_
         refine ZG ?_
         obtain ⟨rZ16,hrZ16,h⟩:=bind_s h
         refine ZF (ZA cZ2 (ZA cZ4 cZ14)) ?_
         refine ZS (ZA cZ2 (ZA cZ4 cZ14)) (w_dw _ _ hrZ16) ?_
         refine ZG ?_
         obtain ⟨cZ17,h⟩ | ⟨cZ17,h⟩:=cond_s h
         · cases h
           exact ZL (ZA cZ2 (ZA cZ4 (ZA cZ14 cZ17))) @V6.eq_1
         · obtain ⟨rZ18,hrZ18,h⟩:=bind_s h
           refine ZF (ZA cZ2 (ZA cZ4 (ZA cZ14 cZ17))) ?_
           refine ZU (ZA cZ2 (ZA cZ4 (ZA cZ14 cZ17))) (w_bh _ hrZ18) ?_
           refine ZG ?_
           obtain ⟨rZ19,hrZ19,h⟩:=bind_s h
           refine ZF (ZA cZ2 (ZA cZ4 (ZA cZ14 cZ17))) ?_
           refine ZS (ZA cZ2 (ZA cZ4 (ZA cZ14 cZ17))) (w_bi _ _ hrZ19) ?_
           refine ZG ?_
           obtain ⟨cZ20,h⟩ | ⟨cZ20,h⟩:=cond_s h
           · cases h
             exact ZL (ZA cZ2 (ZA cZ4 (ZA cZ14 (ZA cZ17 cZ20)))) @V6.eq_1
           · obtain ⟨rZ21,hrZ21,h⟩:=bind_s h
             refine ZF (ZA cZ2 (ZA cZ4 (ZA cZ14 (ZA cZ17 cZ20)))) ?_
             refine ZW (ZA cZ2 (ZA cZ4 (ZA cZ14 (ZA cZ17 cZ20)))) (w_ee _ _ _ hrZ21) (h2:=by first | exact nm_ok [1000000000,1000000001] rfl (by decide +kernel) | exact nm_ok2 [1000000000,1000000001] [] rfl (by decide +kernel) ZQ | exact ZQ) (hk:=?_)
             refine ZG ?_
             obtain ⟨rZ22,hrZ22,h⟩:=bind_s h
             refine ZF (ZA cZ2 (ZA cZ4 (ZA cZ14 (ZA cZ17 cZ20)))) ?_
             refine ⟨by simp [fz_mk,fz_bpo,fz_sc,fz_lsto,fz_agg,fz_tup,fz_fn,fz_sl,fz_pt,fz_top,fzL_nil,fzL_cons,ou_sc,ou_lstu,ou_lsto,ou_agg,ouL_nil,ouL_cons,rfz_var,rfz_arr,rfz_dead,fzL_mi,fzL_mb,fzL_mz,fzL_m8,fzL_m64,ouL_m8,ouL_m64,ouL_mi,ouL_mb,ouL_mz,VZ1],call_m (ok:=⟨_,_,_⟩) (by simp only [VS1,VS2,VS3,VS4,VS5,VS6,VT1,VT2,finM_ret,finM_nrm,decide_true,decide_false,List.nodup_nil,List.nodup_cons,oks_p,oks_m,oks_h,ne_eq,not_false_eq_true,Int.reduceEq,Int.reduceNe,true_and,false_and,Nat.reduceSub,Nat.reduceMul,↓reduceIte,reduceCtorEq,Nat.reduceEqDiff,Nat.reduceAdd,Nat.reduceLeDiff,Int.reduceLE,cZ2,cZ4,cZ14,cZ17,cZ20]; first | exact w_bn _ _ hrZ22 | (have hw:=w_bn _ _ hrZ22; simp only [VS1,VS2,VS3,VS4,VS5,VS6,VT1,VT2,finM_ret,finM_nrm,decide_true,decide_false,List.nodup_nil,List.nodup_cons,oks_p,oks_m,oks_h,ne_eq,not_false_eq_true,Int.reduceEq,Int.reduceNe,true_and,false_and,Nat.reduceSub,Nat.reduceMul,↓reduceIte,reduceCtorEq,Nat.reduceEqDiff,Nat.reduceAdd,Nat.reduceLeDiff,Int.reduceLE,cZ2,cZ4,cZ14,cZ17,cZ20] at hw; exact hw)) (by simp [VS1,VS2,VS3,VS4,VS5,VS6,VT1,VT2]) (by first | exact nm_ok [1000000000] rfl (by decide +kernel) | exact nm_ok2 [1000000000] [] rfl (by decide +kernel) (by simp [VS1,VS2,VS3,VS4,VS5,VS6,VT1,VT2]) | simp [VS1,VS2,VS3,VS4,VS5,VS6,VT1,VT2]) ?_⟩
             refine ZG ?_
             obtain ⟨oZ26,hoZ26,h⟩:=bind_s h
             try refine ZF (ZA cZ2 (ZA cZ4 (ZA cZ14 (ZA cZ17 cZ20)))) ?_
             refine join_rule0 (sh:=(fun v=>⟨[(1,.lst .o 10 (aListZ0.map (e_TService .o))),(2,.i aIdZ0),(3,.pt 3 0 0),(8,.sl 8 0 rZ7.1.length),(9,.b rZ7.2),(12,.sl 12 0 rZ10.1.length),(86,.b v)],[(3,.var (.agg [.lst .o 1 (aNZ0.Nodes.map AV.z),.lst .o 4 (aNZ0.Fibers.map (e_TFiber .o))])),(8,.arr 10 (rZ7.1.map (e_TService .u))),(12,.arr 10 (rZ10.1.map (e_TService .u)))]⟩)) (s:=oZ26) ?_ ?_
             · replace h:=hoZ26
               obtain ⟨cZ23,h⟩ | ⟨cZ23,h⟩:=cond_s h
               · cases h
                 exact ZL (ZA cZ2 (ZA cZ4 (ZA cZ14 (ZA cZ17 (ZA cZ20 cZ23))))) trivial
               · obtain ⟨rZ24,hrZ24,h⟩:=bind_s h
                 refine ZF (ZA cZ2 (ZA cZ4 (ZA cZ14 (ZA cZ17 (ZA cZ20 cZ23))))) ?_
                 refine ZS (ZA cZ2 (ZA cZ4 (ZA cZ14 (ZA cZ17 (ZA cZ20 cZ23))))) (w_bi _ _ hrZ24) ?_
                 refine ZG ?_
                 obtain ⟨cZ25,h⟩ | ⟨cZ25,h⟩:=cond_s h
                 · cases h
                   exact ZL (ZA cZ2 (ZA cZ4 (ZA cZ14 (ZA cZ17 (ZA cZ20 (ZA cZ23 cZ25)))))) trivial
                 · cases h
                   exact ZL (ZA cZ2 (ZA cZ4 (ZA cZ14 (ZA cZ17 (ZA cZ20 (ZA cZ23 cZ25)))))) trivial
             · simp only [ZC,A6R2]
               obtain ⟨cZ27,h⟩ | ⟨cZ27,h⟩:=cond_s h
               · cases h
                 exact ZL (ZA cZ2 (ZA cZ4 (ZA cZ14 (ZA cZ17 (ZA cZ20 cZ27))))) @V6.eq_1
               · obtain ⟨rZ28,hrZ28,h⟩:=bind_s h
                 refine ZF (ZA cZ2 (ZA cZ4 (ZA cZ14 (ZA cZ17 (ZA cZ20 cZ27))))) ?_
                 refine ⟨by simp [fz_mk,fz_bpo,fz_sc,fz_lsto,fz_agg,fz_tup,fz_fn,fz_sl,fz_pt,fz_top,fzL_nil,fzL_cons,ou_sc,ou_lstu,ou_lsto,ou_agg,ouL_nil,ouL_cons,rfz_var,rfz_arr,rfz_dead,fzL_mi,fzL_mb,fzL_mz,fzL_m8,fzL_m64,ouL_m8,ouL_m64,ouL_mi,ouL_mb,ouL_mz,VZ1],call_m (ok:=⟨_,_,_⟩) (by simp only [VS1,VS2,VS3,VS4,VS5,VS6,VT1,VT2,finM_ret,finM_nrm,decide_true,decide_false,List.nodup_nil,List.nodup_cons,oks_p,oks_m,oks_h,ne_eq,not_false_eq_true,Int.reduceEq,Int.reduceNe,true_and,false_and,Nat.reduceSub,Nat.reduceMul,↓reduceIte,reduceCtorEq,Nat.reduceEqDiff,Nat.reduceAdd,Nat.reduceLeDiff,Int.reduceLE,cZ2,cZ4,cZ14,cZ17,cZ20,cZ27]; first | exact w_bn _ _ hrZ28 | (have hw:=w_bn _ _ hrZ28; simp only [VS1,VS2,VS3,VS4,VS5,VS6,VT1,VT2,finM_ret,finM_nrm,decide_true,decide_false,List.nodup_nil,List.nodup_cons,oks_p,oks_m,oks_h,ne_eq,not_false_eq_true,Int.reduceEq,Int.reduceNe,true_and,false_and,Nat.reduceSub,Nat.reduceMul,↓reduceIte,reduceCtorEq,Nat.reduceEqDiff,Nat.reduceAdd,Nat.reduceLeDiff,Int.reduceLE,cZ2,cZ4,cZ14,cZ17,cZ20,cZ27] at hw; exact hw)) (by simp [VS1,VS2,VS3,VS4,VS5,VS6,VT1,VT2]) (by first | exact nm_ok [1000000000] rfl (by decide +kernel) | exact nm_ok2 [1000000000] [] rfl (by decide +kernel) (by simp [VS1,VS2,VS3,VS4,VS5,VS6,VT1,VT2]) | simp [VS1,VS2,VS3,VS4,VS5,VS6,VT1,VT2]) ?_⟩
                 refine ZG ?_
                 obtain ⟨lZ29,hlZ29,h⟩:=bnd_s h
                 have eZ30:sub (rZ28.2.map (e_TService .u)) 0 rZ10.1.length=lZ29.map (e_TService .u):=by rw [sub_mapT,hlZ29]
                 obtain ⟨rZ31,hrZ31,h⟩:=bind_s h
                 refine ZF (ZA cZ2 (ZA cZ4 (ZA cZ14 (ZA cZ17 (ZA cZ20 (ZA cZ27 eZ30)))))) ?_
                 refine ZS (ZA cZ2 (ZA cZ4 (ZA cZ14 (ZA cZ17 (ZA cZ20 (ZA cZ27 eZ30)))))) (w_cp _ _ hrZ31) ?_
                 refine ZG ?_
                 obtain ⟨cZ32,h⟩ | ⟨cZ32,h⟩:=cond_s h
                 · cases h
                   exact ZL (ZA cZ2 (ZA cZ4 (ZA cZ14 (ZA cZ17 (ZA cZ20 (ZA cZ27 (ZA eZ30 cZ32))))))) @V6.eq_1
                 · obtain ⟨cZ33,h⟩ | ⟨cZ33,h⟩:=cond_s h
                   · cases h
                     exact ZL (ZA cZ2 (ZA cZ4 (ZA cZ14 (ZA cZ17 (ZA cZ20 (ZA cZ27 (ZA eZ30 (ZA cZ32 cZ33)))))))) @V6.eq_1
                   · obtain ⟨rZ34,hrZ34,h⟩:=bind_s h
                     refine ZF (ZA cZ2 (ZA cZ4 (ZA cZ14 (ZA cZ17 (ZA cZ20 (ZA cZ27 (ZA eZ30 (ZA cZ32 cZ33)))))))) ?_
                     refine ZU (ZA cZ2 (ZA cZ4 (ZA cZ14 (ZA cZ17 (ZA cZ20 (ZA cZ27 (ZA eZ30 (ZA cZ32 cZ33)))))))) (w_bg _ hrZ34) ?_
                     refine ZG ?_
                     obtain ⟨rZ35,hrZ35,h⟩:=bind_s h
                     refine ZF (ZA cZ2 (ZA cZ4 (ZA cZ14 (ZA cZ17 (ZA cZ20 (ZA cZ27 (ZA eZ30 (ZA cZ32 cZ33)))))))) ?_
                     refine ZU (ZA cZ2 (ZA cZ4 (ZA cZ14 (ZA cZ17 (ZA cZ20 (ZA cZ27 (ZA eZ30 (ZA cZ32 cZ33)))))))) (w_bh _ hrZ35) ?_
                     refine ZG ?_
                     obtain ⟨rZ36,hrZ36,h⟩:=bind_s h
                     refine ZF (ZA cZ2 (ZA cZ4 (ZA cZ14 (ZA cZ17 (ZA cZ20 (ZA cZ27 (ZA eZ30 (ZA cZ32 cZ33)))))))) ?_
                     refine ZU (ZA cZ2 (ZA cZ4 (ZA cZ14 (ZA cZ17 (ZA cZ20 (ZA cZ27 (ZA eZ30 (ZA cZ32 cZ33)))))))) (w_ce _ _ _ hrZ36) ?_
                     refine ZG ?_
                     obtain ⟨oZ39,hoZ39,h⟩:=bind_s h
                     try refine ZF (ZA cZ2 (ZA cZ4 (ZA cZ14 (ZA cZ17 (ZA cZ20 (ZA cZ27 (ZA eZ30 (ZA cZ32 cZ33)))))))) ?_
                     refine join_rule0 (sh:=(fun v=>⟨[(12,.sl 12 0 rZ10.1.length),(15,.i rZ28.1),(115,.b v)],[(12,.arr 10 (rZ28.2.map (e_TService .u)))]⟩)) (s:=oZ39) ?_ ?_
                     · replace h:=hoZ39
                       obtain ⟨rZ37,hrZ37,h⟩:=bind_s h
                       refine ZF (ZA cZ2 (ZA cZ4 (ZA cZ14 (ZA cZ17 (ZA cZ20 (ZA cZ27 (ZA eZ30 (ZA cZ32 cZ33)))))))) ?_
                       refine ZS (ZA cZ2 (ZA cZ4 (ZA cZ14 (ZA cZ17 (ZA cZ20 (ZA cZ27 (ZA eZ30 (ZA cZ32 cZ33)))))))) (w_bi _ _ hrZ37) ?_
                       refine ZG ?_
                       obtain ⟨cZ38,h⟩ | ⟨cZ38,h⟩:=cond_s h
                       · cases h
                         exact ZL (ZA cZ2 (ZA cZ4 (ZA cZ14 (ZA cZ17 (ZA cZ20 (ZA cZ27 (ZA eZ30 (ZA cZ32 (ZA cZ33 cZ38))))))))) trivial
                       · cases h
                         exact ZL (ZA cZ2 (ZA cZ4 (ZA cZ14 (ZA cZ17 (ZA cZ20 (ZA cZ27 (ZA eZ30 (ZA cZ32 (ZA cZ33 cZ38))))))))) trivial
                     · simp only [ZC,A6R3]
                       obtain ⟨cZ40,h⟩ | ⟨cZ40,h⟩:=cond_s h
                       · cases h
                         exact ZL (ZA cZ2 (ZA cZ4 (ZA cZ14 (ZA cZ17 (ZA cZ20 (ZA cZ27 (ZA eZ30 (ZA cZ32 (ZA cZ33 cZ40))))))))) @V6.eq_1
                       · obtain ⟨rZ41,hrZ41,h⟩:=bind_s h
                         refine ZF (ZA cZ2 (ZA cZ4 (ZA cZ14 (ZA cZ17 (ZA cZ20 (ZA cZ27 (ZA eZ30 (ZA cZ32 (ZA cZ33 cZ40))))))))) ?_
                         refine ZS (ZA cZ2 (ZA cZ4 (ZA cZ14 (ZA cZ17 (ZA cZ20 (ZA cZ27 (ZA eZ30 (ZA cZ32 (ZA cZ33 cZ40))))))))) (w_cp _ _ hrZ41) ?_
                         refine ZG ?_
                         obtain ⟨cZ42,h⟩ | ⟨cZ42,h⟩:=cond_s h
                         · cases h
                           exact ZL (ZA cZ2 (ZA cZ4 (ZA cZ14 (ZA cZ17 (ZA cZ20 (ZA cZ27 (ZA eZ30 (ZA cZ32 (ZA cZ33 (ZA cZ40 cZ42)))))))))) @V6.eq_1
                         · obtain ⟨cZ43,h⟩ | ⟨cZ43,h⟩:=cond_s h
                           · cases h
                             exact ZL (ZA cZ2 (ZA cZ4 (ZA cZ14 (ZA cZ17 (ZA cZ20 (ZA cZ27 (ZA eZ30 (ZA cZ32 (ZA cZ33 (ZA cZ40 (ZA cZ42 cZ43))))))))))) @V6.eq_1
                           · cases h
                             exact ZL (ZA cZ2 (ZA cZ4 (ZA cZ14 (ZA cZ17 (ZA cZ20 (ZA cZ27 (ZA eZ30 (ZA cZ32 (ZA cZ33 (ZA cZ40 (ZA cZ42 cZ43))))))))))) @V6.eq_1
end Vs

