/-
  Part of the proof that a law returns true at every input: a semantics of values over the code.
-/
import Derived.Test.YtgpbibgbfklikaaGreatFa
set_option linter.defProp false
set_option linter.unusedSimpArgs false
set_option linter.unusedVariables false
set_option maxHeartbeats 1000000
set_option maxRecDepth 8000
namespace Vs
open Go Go.Proofs
attribute [local irreducible] AWP stOps eff awpC callA callM
theorem VT1:(∀ (f:Fl) (x:TFiber),e_TFiber f x=.agg [.i x.A,.i x.B,.i x.Length,.i x.Risk]) ∧
 (∀ (f:Fl) (x:TNetwork),e_TNetwork f x=.agg [.lst f 1 (x.Nodes.map AV.z),.lst f 4 (x.Fibers.map (e_TFiber f))]) ∧
 (∀ (f:Fl) (x:TRoute),e_TRoute f x=.agg [.i x.Start,.lst f 1 (x.Fibers.map AV.i)]) ∧
 (∀ (f:Fl) (x:TBlock),e_TBlock f x=.agg [.i x.First,.i x.Count]) ∧
 (∀ (f:Fl) (x:TService),e_TService f x=.agg [.i x.Id,.i x.Class,.i x.Work.Start,.lst f 1 (x.Work.Fibers.map AV.i),.i x.WorkBlock.First,.i x.WorkBlock.Count,.i x.Spare.Start,.lst f 1 (x.Spare.Fibers.map AV.i),.i x.SpareBlock.First,.i x.SpareBlock.Count]) ∧
 (∀ (f:Fl) (x:TLight),e_TLight f x=.agg [.i x.Id,.i x.Route.Start,.lst f 1 (x.Route.Fibers.map AV.i),.i x.Block.First,.i x.Block.Count]) ∧
 (∀ (f:Fl) (x:TPlan),e_TPlan f x=.agg [.lst f 1 (x.Network.Nodes.map AV.z),.lst f 4 (x.Network.Fibers.map (e_TFiber f)),.lst f 5 (x.Lights.map (e_TLight f))]) ∧
 (∀ (f:Fl) (x:List Int),e_Li f x=.lst f 1 (x.map AV.i)):=⟨fun _ _=>rfl,fun _ _=>rfl,fun _ _=>rfl,fun _ _=>rfl,fun _ _=>rfl,fun _ _=>rfl,fun _ _=>rfl,fun _ _=>rfl⟩
theorem VT2:(∀ (f:Fl) (x:TFiber),(e_TFiber f x).nrm=e_TFiber .o x) ∧
 (∀ (f:Fl) (xs:List TFiber),(xs.map (e_TFiber f)).map AV.nrm=xs.map (e_TFiber .o)) ∧
 (∀ (f:Fl) (x:TFiber),(e_TFiber f x).als=e_TFiber f.als x) ∧
 (∀ (f:Fl) (xs:List TFiber),(xs.map (e_TFiber f)).map AV.als=xs.map (e_TFiber f.als)) ∧
 (∀ (f:Fl),AV.als ∘ e_TFiber f=e_TFiber f.als) ∧
 (∀ (f:Fl) (x:TFiber),(e_TFiber f x).fix=e_TFiber f.fix x) ∧
 (∀ (f:Fl) (xs:List TFiber),(xs.map (e_TFiber f)).map AV.fix=xs.map (e_TFiber f.fix)) ∧
 (∀ (f:Fl) (x:TNetwork),(e_TNetwork f x).nrm=e_TNetwork .o x) ∧
 (∀ (f:Fl) (xs:List TNetwork),(xs.map (e_TNetwork f)).map AV.nrm=xs.map (e_TNetwork .o)) ∧
 (∀ (f:Fl) (x:TNetwork),(e_TNetwork f x).als=e_TNetwork f.als x) ∧
 (∀ (f:Fl) (xs:List TNetwork),(xs.map (e_TNetwork f)).map AV.als=xs.map (e_TNetwork f.als)) ∧
 (∀ (f:Fl),AV.als ∘ e_TNetwork f=e_TNetwork f.als) ∧
 (∀ (f:Fl) (x:TNetwork),(e_TNetwork f x).fix=e_TNetwork f.fix x) ∧
 (∀ (f:Fl) (xs:List TNetwork),(xs.map (e_TNetwork f)).map AV.fix=xs.map (e_TNetwork f.fix)) ∧
 (∀ (f:Fl) (x:TRoute),(e_TRoute f x).nrm=e_TRoute .o x) ∧
 (∀ (f:Fl) (xs:List TRoute),(xs.map (e_TRoute f)).map AV.nrm=xs.map (e_TRoute .o)) ∧
 (∀ (f:Fl) (x:TRoute),(e_TRoute f x).als=e_TRoute f.als x) ∧
 (∀ (f:Fl) (xs:List TRoute),(xs.map (e_TRoute f)).map AV.als=xs.map (e_TRoute f.als)) ∧
 (∀ (f:Fl),AV.als ∘ e_TRoute f=e_TRoute f.als) ∧
 (∀ (f:Fl) (x:TRoute),(e_TRoute f x).fix=e_TRoute f.fix x) ∧
 (∀ (f:Fl) (xs:List TRoute),(xs.map (e_TRoute f)).map AV.fix=xs.map (e_TRoute f.fix)) ∧
 (∀ (f:Fl) (x:TBlock),(e_TBlock f x).nrm=e_TBlock .o x) ∧
 (∀ (f:Fl) (xs:List TBlock),(xs.map (e_TBlock f)).map AV.nrm=xs.map (e_TBlock .o)) ∧
 (∀ (f:Fl) (x:TBlock),(e_TBlock f x).als=e_TBlock f.als x) ∧
 (∀ (f:Fl) (xs:List TBlock),(xs.map (e_TBlock f)).map AV.als=xs.map (e_TBlock f.als)) ∧
 (∀ (f:Fl),AV.als ∘ e_TBlock f=e_TBlock f.als) ∧
 (∀ (f:Fl) (x:TBlock),(e_TBlock f x).fix=e_TBlock f.fix x) ∧
 (∀ (f:Fl) (xs:List TBlock),(xs.map (e_TBlock f)).map AV.fix=xs.map (e_TBlock f.fix)) ∧
 (∀ (f:Fl) (x:TService),(e_TService f x).nrm=e_TService .o x) ∧
 (∀ (f:Fl) (xs:List TService),(xs.map (e_TService f)).map AV.nrm=xs.map (e_TService .o)) ∧
 (∀ (f:Fl) (x:TService),(e_TService f x).als=e_TService f.als x) ∧
 (∀ (f:Fl) (xs:List TService),(xs.map (e_TService f)).map AV.als=xs.map (e_TService f.als)) ∧
 (∀ (f:Fl),AV.als ∘ e_TService f=e_TService f.als) ∧
 (∀ (f:Fl) (x:TService),(e_TService f x).fix=e_TService f.fix x) ∧
 (∀ (f:Fl) (xs:List TService),(xs.map (e_TService f)).map AV.fix=xs.map (e_TService f.fix)) ∧
 (∀ (f:Fl) (x:TLight),(e_TLight f x).nrm=e_TLight .o x) ∧
 (∀ (f:Fl) (xs:List TLight),(xs.map (e_TLight f)).map AV.nrm=xs.map (e_TLight .o)) ∧
 (∀ (f:Fl) (x:TLight),(e_TLight f x).als=e_TLight f.als x) ∧
 (∀ (f:Fl) (xs:List TLight),(xs.map (e_TLight f)).map AV.als=xs.map (e_TLight f.als)) ∧
 (∀ (f:Fl),AV.als ∘ e_TLight f=e_TLight f.als) ∧
 (∀ (f:Fl) (x:TLight),(e_TLight f x).fix=e_TLight f.fix x) ∧
 (∀ (f:Fl) (xs:List TLight),(xs.map (e_TLight f)).map AV.fix=xs.map (e_TLight f.fix)) ∧
 (∀ (f:Fl) (x:TPlan),(e_TPlan f x).nrm=e_TPlan .o x) ∧
 (∀ (f:Fl) (xs:List TPlan),(xs.map (e_TPlan f)).map AV.nrm=xs.map (e_TPlan .o)) ∧
 (∀ (f:Fl) (x:TPlan),(e_TPlan f x).als=e_TPlan f.als x) ∧
 (∀ (f:Fl) (xs:List TPlan),(xs.map (e_TPlan f)).map AV.als=xs.map (e_TPlan f.als)) ∧
 (∀ (f:Fl),AV.als ∘ e_TPlan f=e_TPlan f.als) ∧
 (∀ (f:Fl) (x:TPlan),(e_TPlan f x).fix=e_TPlan f.fix x) ∧
 (∀ (f:Fl) (xs:List TPlan),(xs.map (e_TPlan f)).map AV.fix=xs.map (e_TPlan f.fix)) ∧
 (∀ (f:Fl) (x:List Int),(e_Li f x).nrm=e_Li .o x) ∧
 (∀ (f:Fl) (xs:List (List Int)),(xs.map (e_Li f)).map AV.nrm=xs.map (e_Li .o)) ∧
 (∀ (f:Fl) (x:List Int),(e_Li f x).als=e_Li f.als x) ∧
 (∀ (f:Fl) (xs:List (List Int)),(xs.map (e_Li f)).map AV.als=xs.map (e_Li f.als)) ∧
 (∀ (f:Fl),AV.als ∘ e_Li f=e_Li f.als) ∧
 (∀ (f:Fl) (x:List Int),(e_Li f x).fix=e_Li f.fix x) ∧
 (∀ (f:Fl) (xs:List (List Int)),(xs.map (e_Li f)).map AV.fix=xs.map (e_Li f.fix)) :=
 ⟨@e_TFiber_nrm,@e_TFiber_nrmm,@e_TFiber_als,@e_TFiber_alsm,@e_TFiber_alsc,@e_TFiber_fix,@e_TFiber_fixm,@e_TNetwork_nrm,@e_TNetwork_nrmm,@e_TNetwork_als,@e_TNetwork_alsm,@e_TNetwork_alsc,@e_TNetwork_fix,@e_TNetwork_fixm,@e_TRoute_nrm,@e_TRoute_nrmm,@e_TRoute_als,@e_TRoute_alsm,@e_TRoute_alsc,@e_TRoute_fix,@e_TRoute_fixm,@e_TBlock_nrm,@e_TBlock_nrmm,@e_TBlock_als,@e_TBlock_alsm,@e_TBlock_alsc,@e_TBlock_fix,@e_TBlock_fixm,@e_TService_nrm,@e_TService_nrmm,@e_TService_als,@e_TService_alsm,@e_TService_alsc,@e_TService_fix,@e_TService_fixm,@e_TLight_nrm,@e_TLight_nrmm,@e_TLight_als,@e_TLight_alsm,@e_TLight_alsc,@e_TLight_fix,@e_TLight_fixm,@e_TPlan_nrm,@e_TPlan_nrmm,@e_TPlan_als,@e_TPlan_alsm,@e_TPlan_alsc,@e_TPlan_fix,@e_TPlan_fixm,@e_Li_nrm,@e_Li_nrmm,@e_Li_als,@e_Li_alsm,@e_Li_alsc,@e_Li_fix,@e_Li_fixm⟩
theorem VF1:(∀ (f:Fl) (x:TFiber),(e_TFiber f x).fix=e_TFiber f.fix x) ∧
 (∀ (f:Fl) (xs:List TFiber),(xs.map (e_TFiber f)).map AV.fix=xs.map (e_TFiber f.fix)) ∧
 (∀ (f:Fl) (x:TNetwork),(e_TNetwork f x).fix=e_TNetwork f.fix x) ∧
 (∀ (f:Fl) (xs:List TNetwork),(xs.map (e_TNetwork f)).map AV.fix=xs.map (e_TNetwork f.fix)) ∧
 (∀ (f:Fl) (x:TRoute),(e_TRoute f x).fix=e_TRoute f.fix x) ∧
 (∀ (f:Fl) (xs:List TRoute),(xs.map (e_TRoute f)).map AV.fix=xs.map (e_TRoute f.fix)) ∧
 (∀ (f:Fl) (x:TBlock),(e_TBlock f x).fix=e_TBlock f.fix x) ∧
 (∀ (f:Fl) (xs:List TBlock),(xs.map (e_TBlock f)).map AV.fix=xs.map (e_TBlock f.fix)) ∧
 (∀ (f:Fl) (x:TService),(e_TService f x).fix=e_TService f.fix x) ∧
 (∀ (f:Fl) (xs:List TService),(xs.map (e_TService f)).map AV.fix=xs.map (e_TService f.fix)) ∧
 (∀ (f:Fl) (x:TLight),(e_TLight f x).fix=e_TLight f.fix x) ∧
 (∀ (f:Fl) (xs:List TLight),(xs.map (e_TLight f)).map AV.fix=xs.map (e_TLight f.fix)) ∧
 (∀ (f:Fl) (x:TPlan),(e_TPlan f x).fix=e_TPlan f.fix x) ∧
 (∀ (f:Fl) (xs:List TPlan),(xs.map (e_TPlan f)).map AV.fix=xs.map (e_TPlan f.fix)) ∧
 (∀ (f:Fl) (x:List Int),(e_Li f x).fix=e_Li f.fix x) ∧
 (∀ (f:Fl) (xs:List (List Int)),(xs.map (e_Li f)).map AV.fix=xs.map (e_Li f.fix)) :=
 ⟨@e_TFiber_fix,@e_TFiber_fixm,@e_TNetwork_fix,@e_TNetwork_fixm,@e_TRoute_fix,@e_TRoute_fixm,@e_TBlock_fix,@e_TBlock_fixm,@e_TService_fix,@e_TService_fixm,@e_TLight_fix,@e_TLight_fixm,@e_TPlan_fix,@e_TPlan_fixm,@e_Li_fix,@e_Li_fixm⟩
theorem VZ1:(∀ (x:TFiber),(e_TFiber .o x).fz=true) ∧
 (∀ (xs:List TFiber),fzL (xs.map (e_TFiber .o))=true) ∧
 (∀ (x:TFiber),(e_TFiber .u x).ouB=true) ∧
 (∀ (xs:List TFiber),ouBL (xs.map (e_TFiber .u))=true) ∧
 (∀ (x:TNetwork),(e_TNetwork .o x).fz=true) ∧
 (∀ (xs:List TNetwork),fzL (xs.map (e_TNetwork .o))=true) ∧
 (∀ (x:TNetwork),(e_TNetwork .u x).ouB=true) ∧
 (∀ (xs:List TNetwork),ouBL (xs.map (e_TNetwork .u))=true) ∧
 (∀ (x:TRoute),(e_TRoute .o x).fz=true) ∧
 (∀ (xs:List TRoute),fzL (xs.map (e_TRoute .o))=true) ∧
 (∀ (x:TRoute),(e_TRoute .u x).ouB=true) ∧
 (∀ (xs:List TRoute),ouBL (xs.map (e_TRoute .u))=true) ∧
 (∀ (x:TBlock),(e_TBlock .o x).fz=true) ∧
 (∀ (xs:List TBlock),fzL (xs.map (e_TBlock .o))=true) ∧
 (∀ (x:TBlock),(e_TBlock .u x).ouB=true) ∧
 (∀ (xs:List TBlock),ouBL (xs.map (e_TBlock .u))=true) ∧
 (∀ (x:TService),(e_TService .o x).fz=true) ∧
 (∀ (xs:List TService),fzL (xs.map (e_TService .o))=true) ∧
 (∀ (x:TService),(e_TService .u x).ouB=true) ∧
 (∀ (xs:List TService),ouBL (xs.map (e_TService .u))=true) ∧
 (∀ (x:TLight),(e_TLight .o x).fz=true) ∧
 (∀ (xs:List TLight),fzL (xs.map (e_TLight .o))=true) ∧
 (∀ (x:TLight),(e_TLight .u x).ouB=true) ∧
 (∀ (xs:List TLight),ouBL (xs.map (e_TLight .u))=true) ∧
 (∀ (x:TPlan),(e_TPlan .o x).fz=true) ∧
 (∀ (xs:List TPlan),fzL (xs.map (e_TPlan .o))=true) ∧
 (∀ (x:TPlan),(e_TPlan .u x).ouB=true) ∧
 (∀ (xs:List TPlan),ouBL (xs.map (e_TPlan .u))=true) ∧
 (∀ (x:List Int),(e_Li .o x).fz=true) ∧
 (∀ (xs:List (List Int)),fzL (xs.map (e_Li .o))=true) ∧
 (∀ (x:List Int),(e_Li .u x).ouB=true) ∧
 (∀ (xs:List (List Int)),ouBL (xs.map (e_Li .u))=true) :=
 ⟨@e_TFiber_fz,@e_TFiber_fzm,@e_TFiber_ou,@e_TFiber_oum,@e_TNetwork_fz,@e_TNetwork_fzm,@e_TNetwork_ou,@e_TNetwork_oum,@e_TRoute_fz,@e_TRoute_fzm,@e_TRoute_ou,@e_TRoute_oum,@e_TBlock_fz,@e_TBlock_fzm,@e_TBlock_ou,@e_TBlock_oum,@e_TService_fz,@e_TService_fzm,@e_TService_ou,@e_TService_oum,@e_TLight_fz,@e_TLight_fzm,@e_TLight_ou,@e_TLight_oum,@e_TPlan_fz,@e_TPlan_fzm,@e_TPlan_ou,@e_TPlan_oum,@e_Li_fz,@e_Li_fzm,@e_Li_ou,@e_Li_oum⟩
theorem Zr {α:Type} (n:Nat) (a:α):(List.replicate n a).length=n:=List.length_replicate
theorem ZA {A B:Prop} (a:A) (b:B):A∧B:=⟨a,b⟩
theorem ZF {A:Prop} (a:A) {P Q:Prop} (k:Q) (e:A→P=Q:=by intro a; simp only [VS1,VS2,VS3,VS4,VS5,VS6,VT1,VT2,finM_ret,finM_nrm,decide_true,decide_false,List.nodup_nil,List.nodup_cons,oks_p,oks_m,oks_h,ne_eq,not_false_eq_true,Int.reduceEq,Int.reduceNe,true_and,false_and,Nat.reduceSub,Nat.reduceMul,↓reduceIte,reduceCtorEq,Nat.reduceEqDiff,Nat.reduceAdd,Nat.reduceLeDiff,Int.reduceLE,a]; exact Eq.refl _):P:=(e a).mpr k
theorem ZG {P Q:Prop} (k:Q) (e:P=Q:=by simp only [VA,VF1,↓reduceIte,Nat.reduceEqDiff,Nat.reduceAdd,Nat.reduceMul,Nat.reduceSub,Nat.reduceLeDiff]; exact Eq.refl _):P:=e.mpr k
theorem ZL {A:Prop} (a:A) {B:Prop} (b:B) {P:Prop} (e:A→B→P:=by intro a b; (try simp only [VS1,VS2,VS3,VS4,VS5,VS6,VT1,VT2,finM_ret,finM_nrm,decide_true,decide_false,List.nodup_nil,List.nodup_cons,oks_p,oks_m,oks_h,ne_eq,not_false_eq_true,Int.reduceEq,Int.reduceNe,true_and,false_and,Nat.reduceSub,Nat.reduceMul,↓reduceIte,reduceCtorEq,Nat.reduceEqDiff,Nat.reduceAdd,Nat.reduceLeDiff,Int.reduceLE,a]); all_goals simp [qL,qJ,qJ0,qS,qX,qR,qM,Shp,sub,tupd,finM_ret,finM_nrm,VS1,VS2,VS3,VS4,VS5,VS6,VT1,VT2,b]):P:=e a b
theorem ZK {B:Prop} (b:B) {P:Prop} (e:B→P:=by intro b; simp [qL,qJ,qJ0,qS,qX,qR,qM,Shp,sub,tupd,finM_ret,finM_nrm,VS1,VS2,VS3,VS4,VS5,VS6,VT1,VT2,b]):P:=e b
theorem ZS {A:Prop} (a:A) {W:Prop} (w:W) {ok:Oks} {ρ:Nat→Option Row} {d f:Nat} {args:List AV} {K:AV→List (Nat×Row)→Prop} {v:Value} (hk:K (.sc v) [])
 (e:A→W→ok.p f (args.map (snp ρ 4)) (.sc v):=by intro a w; simp only [VS1,VS2,VS3,VS4,VS5,VS6,VT1,VT2,finM_ret,finM_nrm,decide_true,decide_false,List.nodup_nil,List.nodup_cons,oks_p,oks_m,oks_h,ne_eq,not_false_eq_true,Int.reduceEq,Int.reduceNe,true_and,false_and,Nat.reduceSub,Nat.reduceMul,↓reduceIte,reduceCtorEq,Nat.reduceEqDiff,Nat.reduceAdd,Nat.reduceLeDiff,Int.reduceLE,a]; exact w):callA ok ρ d f args K:=call_s (e a w) hk
theorem ZU {A:Prop} (a:A) {W:Prop} (w:W) {ok:Oks} {ρ:Nat→Option Row} {d f:Nat} {args:List AV} {K:AV→List (Nat×Row)→Prop} {res:AV} (hk:K (adopt 4 d res).1 (adopt 4 d res).2.1)
 (e:A→W→ok.p f (args.map (snp ρ 4)) res:=by intro a w; simp only [VS1,VS2,VS3,VS4,VS5,VS6,VT1,VT2,finM_ret,finM_nrm,decide_true,decide_false,List.nodup_nil,List.nodup_cons,oks_p,oks_m,oks_h,ne_eq,not_false_eq_true,Int.reduceEq,Int.reduceNe,true_and,false_and,Nat.reduceSub,Nat.reduceMul,↓reduceIte,reduceCtorEq,Nat.reduceEqDiff,Nat.reduceAdd,Nat.reduceLeDiff,Int.reduceLE,a]; exact w) (hu:res.allU:=by simp [AV.allU,allUL,allUL_iff,VT1,VT2]) (hn:∀ p∈(adopt 4 d res).2.1,ρ p.1=none∧p.1 < 1000000000:=by simp only [VS1,VS2,VS3,VS4,VS5,VS6,VT1,VT2,finM_ret,finM_nrm,decide_true,decide_false,List.nodup_nil,List.nodup_cons,oks_p,oks_m,oks_h,ne_eq,not_false_eq_true,Int.reduceEq,Int.reduceNe,true_and,false_and,Nat.reduceSub,Nat.reduceMul,↓reduceIte,reduceCtorEq,Nat.reduceEqDiff,Nat.reduceAdd,Nat.reduceLeDiff,Int.reduceLE,Nat.reduceLT]):callA ok ρ d f args K:=call_u (e a w) hu hn hk
theorem ZQ {P:Prop} (e:P:=by simp [VS1,VS2,VS3,VS4,VS5,VS6,VT1,VT2]):P:=e
theorem ZW {A:Prop} (a:A) {W:Prop} (w:W) {ok:Oks} {ρ:Nat→Option Row} {d f:Nat} {args:List AV} {rs:List Nat} {K:AV→List (Nat×Row)→Prop} {res:AV} {outs:List (Nat×Row)}
 (e:A→W→ok.m f (args.map (AV.rg (cnm rs))) (rs.map (rowIn ρ rs)) res outs:=by intro a w; simp only [VS1,VS2,VS3,VS4,VS5,VS6,VT1,VT2,finM_ret,finM_nrm,decide_true,decide_false,List.nodup_nil,List.nodup_cons,oks_p,oks_m,oks_h,ne_eq,not_false_eq_true,Int.reduceEq,Int.reduceNe,true_and,false_and,Nat.reduceSub,Nat.reduceMul,↓reduceIte,reduceCtorEq,Nat.reduceEqDiff,Nat.reduceAdd,Nat.reduceLeDiff,Int.reduceLE,a]; first | exact w | (simp only [VS1,VS2,VS3,VS4,VS5,VS6,VT1,VT2,finM_ret,finM_nrm,decide_true,decide_false,List.nodup_nil,List.nodup_cons,oks_p,oks_m,oks_h,ne_eq,not_false_eq_true,Int.reduceEq,Int.reduceNe,true_and,false_and,Nat.reduceSub,Nat.reduceMul,↓reduceIte,reduceCtorEq,Nat.reduceEqDiff,Nat.reduceAdd,Nat.reduceLeDiff,Int.reduceLE,a] at w; exact w))
 (h1:rs.Nodup∧(∀ r∈rs,isLive (ρ r))∧(∀ r∈rs,∀ q∈oments (ρ r),q∈rs)∧(∀ r∈mentsL args,r∈rs):=by simp [VS1,VS2,VS3,VS4,VS5,VS6,VT1,VT2])
 (h2:(outs.map fun p=>bkn d rs p.1).Nodup∧(∀ p∈outs,1000000000≤p.1→p.1 - 1000000000 < rs.length)∧(∀ p∈outs,p.1 < 1000000000→ρ (bkn d rs p.1)=none∧bkn d rs p.1 < 1000000000))
 (hk:K (res.rg (bkn d rs)) (gone rs++outs.map (rowBk d rs))):callM ok ρ d f args rs K:=call_m (e a w) h1 h2 hk
def S_ah (aZ0:List ByteArray) (v:Int×Int):St:=⟨[(0,.lst .o 1 (aZ0.map AV.z)),(1,.i v.1),(5,.i v.2)],[]⟩
def SX_ah (v:Int):St:=⟨[(1,.i v)],[]⟩
theorem w_ah (aZ0:List ByteArray) (sZ2:Int×Int) (o:(Int×Int) ⊕ (Int ⊕ Int)) (h:M_ah aZ0 sZ2=some o):AWP (OkS Tryz.prog) A85L1 (qL [0,1,5] [] (S_ah aZ0) (qS (qX 0 [1] [] (SX_ah)) (qR V85 (fun r=>.i r))) o) (S_ah aZ0 sZ2):=by
 unfold M_ah at h
 simp only [ZC,S_ah,A85L1]
 obtain ⟨cZ3,h⟩ | ⟨cZ3,h⟩:=cond_s h
 · obtain ⟨yZ4,hyZ4,h⟩:=bind_s h
   obtain ⟨hyZ4a,hyZ4b⟩:=geti_s hyZ4
   obtain ⟨cZ5,h⟩ | ⟨cZ5,h⟩:=cond_s h
   · cases h
     exact ZL (ZA cZ3 (ZA hyZ4a (ZA hyZ4b cZ5))) V85.eq_1
   · cases h
     exact ZL (ZA cZ3 (ZA hyZ4a (ZA hyZ4b cZ5))) (ZA S_ah.eq_1 SX_ah.eq_1)
 · cases h
   exact ZL cZ3 (ZA S_ah.eq_1 SX_ah.eq_1)
theorem w_el (aZ0:List ByteArray) (leftZ0:Int) {r:Int} (h:M_el aZ0 leftZ0=some r):Ok Tryz.prog 85 [.lst .o 1 (aZ0.map AV.z),.i leftZ0] ((fun r=>.i r) r):=by
 refine ok_of_body hmix m85 rfl ?_
 unfold M_el at h
 simp only [ZC,A85,V85,body_eq]
 obtain ⟨cZ1,h⟩ | ⟨cZ1,h⟩:=cond_s h
 · cases h
   exact ZL cZ1 V85.eq_1
 · obtain ⟨oZ6,hoZ6,h⟩:=bind_s h
   try refine ZF cZ1 ?_
   refine join_rule (o:=oZ6) (blk_rule sideR (loop_rule (w_ah aZ0) hoZ6 ?_)) (fun vZ7 hv=>?_) (fun xZ8 hv e τ hne hq=>?_)
   · exact ZK (ZA S_ah.eq_1 SX_ah.eq_1)
   · subst hv
     simp only [] at h
     simp only [ZC,SX_ah,A85R2]
     cases h
     exact ZL cZ1 V85.eq_1
   · subst hv
     simp only [] at h
     obtain ⟨rfl,qZ9⟩:=hq
     cases h
     exact qZ9
theorem w_em (aZ0:List TFiber) (leftZ0:Int) {r:Int} (h:M_em aZ0 leftZ0=some r):Ok Tryz.prog 86 [.lst .o 4 (aZ0.map (e_TFiber .o)),.i leftZ0] ((fun r=>.i r) r):=by
 refine ok_of_body hmix m86 rfl ?_
 unfold M_em at h
 simp only [ZC,A86,V86,body_eq]
 obtain ⟨cZ1,h⟩ | ⟨cZ1,h⟩:=cond_s h
 · cases h
   exact ZL cZ1 V86.eq_1
 · cases h
   exact ZL cZ1 V86.eq_1
theorem w_en (aZ0:TNetwork) (leftZ0:Int) {r:Int} (h:M_en aZ0 leftZ0=some r):Ok Tryz.prog 34 [.agg [.lst .o 1 (aZ0.Nodes.map AV.z),.lst .o 4 (aZ0.Fibers.map (e_TFiber .o))],.i leftZ0] ((fun r=>.i r) r):=by
 refine ok_of_body hmix m34 rfl ?_
 unfold M_en at h
 simp only [ZC,A34,V34,body_eq]
 obtain ⟨rZ1,hrZ1,h⟩:=bind_s h
 refine ZF trivial ?_
 refine ZS trivial (w_el _ _ hrZ1) ?_
 refine ZG ?_
 obtain ⟨cZ2,h⟩ | ⟨cZ2,h⟩:=cond_s h
 · cases h
   exact ZL cZ2 V34.eq_1
 · obtain ⟨rZ3,hrZ3,h⟩:=bind_s h
   refine ZF cZ2 ?_
   refine ZS cZ2 (w_em _ _ hrZ3) ?_
   refine ZG ?_
   obtain ⟨cZ4,h⟩ | ⟨cZ4,h⟩:=cond_s h
   · cases h
     exact ZL (ZA cZ2 cZ4) V34.eq_1
   · cases h
     exact ZL (ZA cZ2 cZ4) V34.eq_1
theorem w_eo (aZ0:List Int) (leftZ0:Int) {r:Int} (h:M_eo aZ0 leftZ0=some r):Ok Tryz.prog 60 [.lst .o 1 (aZ0.map AV.i),.i leftZ0] ((fun r=>.i r) r):=by
 refine ok_of_body hmix m60 rfl ?_
 unfold M_eo at h
 simp only [ZC,A60,V60,body_eq]
 obtain ⟨cZ1,h⟩ | ⟨cZ1,h⟩:=cond_s h
 · cases h
   exact ZL cZ1 V60.eq_1
 · cases h
   exact ZL cZ1 V60.eq_1
theorem w_cy (aZ0:TRoute) (leftZ0:Int) {r:Int} (h:M_cy aZ0 leftZ0=some r):Ok Tryz.prog 147 [.agg [.i aZ0.Start,.lst .o 1 (aZ0.Fibers.map AV.i)],.i leftZ0] ((fun r=>.i r) r):=by
 refine ok_of_body hmix m147 rfl ?_
 unfold M_cy at h
 simp only [ZC,A147,V147,body_eq]
 obtain ⟨rZ1,hrZ1,h⟩:=bind_s h
 refine ZF trivial ?_
 refine ZS trivial (w_eo _ _ hrZ1) ?_
 refine ZG ?_
 obtain ⟨cZ2,h⟩ | ⟨cZ2,h⟩:=cond_s h
 · cases h
   exact ZL cZ2 V147.eq_1
 · cases h
   exact ZL cZ2 V147.eq_1
theorem w_ep (aZ0:TService) (leftZ0:Int) {r:Int} (h:M_ep aZ0 leftZ0=some r):Ok Tryz.prog 87 [.agg [.i aZ0.Id,.i aZ0.Class,.i aZ0.Work.Start,.lst .o 1 (aZ0.Work.Fibers.map AV.i),.i aZ0.WorkBlock.First,.i aZ0.WorkBlock.Count,.i aZ0.Spare.Start,.lst .o 1 (aZ0.Spare.Fibers.map AV.i),.i aZ0.SpareBlock.First,.i aZ0.SpareBlock.Count],.i leftZ0] ((fun r=>.i r) r):=by
 refine ok_of_body hmix m87 rfl ?_
 unfold M_ep at h
 simp only [ZC,A87,V87,body_eq]
 obtain ⟨rZ1,hrZ1,h⟩:=bind_s h
 refine ZF trivial ?_
 refine ZS trivial (w_cy _ _ hrZ1) ?_
 refine ZG ?_
 obtain ⟨cZ2,h⟩ | ⟨cZ2,h⟩:=cond_s h
 · cases h
   exact ZL cZ2 V87.eq_1
 · obtain ⟨rZ3,hrZ3,h⟩:=bind_s h
   refine ZF cZ2 ?_
   refine ZS cZ2 (w_cy _ _ hrZ3) ?_
   refine ZG ?_
   obtain ⟨cZ4,h⟩ | ⟨cZ4,h⟩:=cond_s h
   · cases h
     exact ZL (ZA cZ2 cZ4) V87.eq_1
   · cases h
     exact ZL (ZA cZ2 cZ4) V87.eq_1
def S_ai (aZ0:List TService) (v:Int×Int):St:=⟨[(0,.lst .o 10 (aZ0.map (e_TService .o))),(1,.i v.1),(5,.i v.2)],[]⟩
def SX_ai (v:Int):St:=⟨[(1,.i v)],[]⟩
theorem w_ai (aZ0:List TService) (sZ2:Int×Int) (o:(Int×Int) ⊕ (Int ⊕ Int)) (h:M_ai aZ0 sZ2=some o):AWP (OkS Tryz.prog) A35L1 (qL [0,1,5] [] (S_ai aZ0) (qS (qX 0 [1] [] (SX_ai)) (qR V35 (fun r=>.i r))) o) (S_ai aZ0 sZ2):=by
 unfold M_ai at h
 simp only [ZC,S_ai,A35L1]
 obtain ⟨cZ3,h⟩ | ⟨cZ3,h⟩:=cond_s h
 · obtain ⟨yZ4,hyZ4,h⟩:=bind_s h
   obtain ⟨hyZ4a,hyZ4b⟩:=geti_s hyZ4
   obtain ⟨rZ5,hrZ5,h⟩:=bind_s h
   refine ZF (ZA cZ3 (ZA hyZ4a hyZ4b)) ?_
   refine ZS (ZA cZ3 (ZA hyZ4a hyZ4b)) (w_ep _ _ hrZ5) ?_
   refine ZG ?_
   obtain ⟨cZ6,h⟩ | ⟨cZ6,h⟩:=cond_s h
   · cases h
     exact ZL (ZA cZ3 (ZA hyZ4a (ZA hyZ4b cZ6))) V35.eq_1
   · cases h
     exact ZL (ZA cZ3 (ZA hyZ4a (ZA hyZ4b cZ6))) (ZA S_ai.eq_1 SX_ai.eq_1)
 · cases h
   exact ZL cZ3 (ZA S_ai.eq_1 SX_ai.eq_1)
theorem w_eq (aZ0:List TService) (leftZ0:Int) {r:Int} (h:M_eq aZ0 leftZ0=some r):Ok Tryz.prog 35 [.lst .o 10 (aZ0.map (e_TService .o)),.i leftZ0] ((fun r=>.i r) r):=by
 refine ok_of_body hmix m35 rfl ?_
 unfold M_eq at h
 simp only [ZC,A35,V35,body_eq]
 obtain ⟨cZ1,h⟩ | ⟨cZ1,h⟩:=cond_s h
 · cases h
   exact ZL cZ1 V35.eq_1
 · obtain ⟨oZ7,hoZ7,h⟩:=bind_s h
   try refine ZF cZ1 ?_
   refine join_rule (o:=oZ7) (blk_rule sideR (loop_rule (w_ai aZ0) hoZ7 ?_)) (fun vZ8 hv=>?_) (fun xZ9 hv e τ hne hq=>?_)
   · exact ZK (ZA S_ai.eq_1 SX_ai.eq_1)
   · subst hv
     simp only [] at h
     simp only [ZC,SX_ai,A35R2]
     cases h
     exact ZL cZ1 V35.eq_1
   · subst hv
     simp only [] at h
     obtain ⟨rfl,qZ10⟩:=hq
     cases h
     exact qZ10
def S_aj (aZ0:List ByteArray) (v:Int×List ByteArray):St:=⟨[(0,.lst .o 1 (aZ0.map AV.z)),(3,.sl 3 0 v.2.length),(4,.i v.1)],[(3,.arr 1 (v.2.map AV.z))]⟩
def SX_aj (v:List ByteArray):St:=⟨[(3,.sl 3 0 v.length)],[(3,.arr 1 (v.map AV.z))]⟩
theorem w_aj (aZ0:List ByteArray) (sZ4:Int×List ByteArray) (o:(Int×List ByteArray) ⊕ (List ByteArray)) (h:M_aj aZ0 sZ4=some o):AWP (OkS Tryz.prog) A91L1 (qL [0,3,4] [3] (S_aj aZ0) (qX 0 [3] [3] (SX_aj)) o) (S_aj aZ0 sZ4):=by
 unfold M_aj at h
 simp only [ZC,S_aj,A91L1]
 obtain ⟨cZ5,h⟩ | ⟨cZ5,h⟩:=cond_s h
 · obtain ⟨yZ6,hyZ6,h⟩:=bind_s h
   obtain ⟨hyZ6a,hyZ6b⟩:=geti_s hyZ6
   obtain ⟨kZ7,hkZ7,h⟩:=bind_s h
   obtain ⟨hkZ7a,hkZ7b⟩:=grd_s hkZ7
   obtain ⟨yZ8,hyZ8,h⟩:=bind_s h
   obtain ⟨lZ9,hlZ9,h⟩:=bnd_s h
   have eZ10:(sZ4.2.map AV.z).set (Int.toNat sZ4.1) (.z yZ6)=lZ9.map AV.z:=by rw [← hlZ9,List.map_set]
   cases h
   exact ZL (ZA cZ5 (ZA hyZ6a (ZA hyZ6b (ZA hkZ7a (ZA hkZ7b (ZA hyZ8 eZ10)))))) (ZA S_aj.eq_1 (ZA SX_aj.eq_1 hlZ9.symm))
 · cases h
   exact ZL cZ5 (ZA S_aj.eq_1 SX_aj.eq_1)
theorem w_er (aZ0:List ByteArray) {r:List ByteArray} (h:M_er aZ0=some r):Ok Tryz.prog 91 [.lst .o 1 (aZ0.map AV.z)] ((fun r=>.lst .u 1 (r.map AV.z)) r):=by
 refine ok_of_body hmix m91 rfl ?_
 unfold M_er at h
 simp only [ZC,A91,V91,body_eq]
 obtain ⟨uZ1,huZ1,h⟩:=bind_s h
 obtain ⟨huZ11,huZ12,huZ13,huZ14⟩:=grd_s huZ1
 obtain ⟨lZ2,hlZ2,h⟩:=bnd_s h
 have eZ3:List.replicate (Int.toNat (aZ0.length:Int)) (.z (⟨#[]⟩:ByteArray):AV)=lZ2.map AV.z:=by rw [← hlZ2,List.map_replicate]
 obtain ⟨oZ11,hoZ11,h⟩:=bind_s h
 try refine ZF (ZA huZ11 (ZA huZ12 (ZA huZ13 (ZA huZ14 eZ3)))) ?_
 refine join_rule0 (blk_rule0 (loop_rule (w_aj aZ0) hoZ11 ?_)) ?_
 · exact ZK (ZA S_aj.eq_1 (ZA SX_aj.eq_1 (ZA hlZ2.symm @Zr)))
 · simp only [ZC,SX_aj,A91R2]
   cases h
   exact ZL (ZA huZ11 (ZA huZ12 (ZA huZ13 (ZA huZ14 eZ3)))) V91.eq_1
theorem w_dl (aZ0:TFiber) {r:TFiber} (h:M_dl aZ0=some r):Ok Tryz.prog 150 [.agg [.i aZ0.A,.i aZ0.B,.i aZ0.Length,.i aZ0.Risk]] ((fun r=>.agg [.i r.A,.i r.B,.i r.Length,.i r.Risk]) r):=by
 refine ok_of_body hmix m150 rfl ?_
 unfold M_dl at h
 simp only [ZC,A150,V150,body_eq]
 cases h
 exact ZL trivial V150.eq_1
def S_ak (aZ0:List TFiber) (v:Int×List TFiber):St:=⟨[(0,.lst .o 4 (aZ0.map (e_TFiber .o))),(3,.sl 3 0 v.2.length),(4,.i v.1)],[(3,.arr 4 (v.2.map (e_TFiber .u)))]⟩
def SX_ak (v:List TFiber):St:=⟨[(3,.sl 3 0 v.length)],[(3,.arr 4 (v.map (e_TFiber .u)))]⟩
theorem w_ak (aZ0:List TFiber) (sZ4:Int×List TFiber) (o:(Int×List TFiber) ⊕ (List TFiber)) (h:M_ak aZ0 sZ4=some o):AWP (OkS Tryz.prog) A92L1 (qL [0,3,4] [3] (S_ak aZ0) (qX 0 [3] [3] (SX_ak)) o) (S_ak aZ0 sZ4):=by
 unfold M_ak at h
 simp only [ZC,S_ak,A92L1]
 obtain ⟨cZ5,h⟩ | ⟨cZ5,h⟩:=cond_s h
 · obtain ⟨yZ6,hyZ6,h⟩:=bind_s h
   obtain ⟨hyZ6a,hyZ6b⟩:=geti_s hyZ6
   obtain ⟨rZ7,hrZ7,h⟩:=bind_s h
   refine ZF (ZA cZ5 (ZA hyZ6a hyZ6b)) ?_
   refine ZU (ZA cZ5 (ZA hyZ6a hyZ6b)) (w_dl _ hrZ7) ?_
   refine ZG ?_
   obtain ⟨kZ8,hkZ8,h⟩:=bind_s h
   obtain ⟨hkZ8a,hkZ8b⟩:=grd_s hkZ8
   obtain ⟨yZ9,hyZ9,h⟩:=bind_s h
   obtain ⟨lZ10,hlZ10,h⟩:=bnd_s h
   have eZ11:(sZ4.2.map (e_TFiber .u)).set (Int.toNat sZ4.1) (.agg [.i rZ7.A,.i rZ7.B,.i rZ7.Length,.i rZ7.Risk])=lZ10.map (e_TFiber .u):=by rw [← hlZ10,List.map_set]; rfl
   cases h
   exact ZL (ZA cZ5 (ZA hyZ6a (ZA hyZ6b (ZA hkZ8a (ZA hkZ8b (ZA hyZ9 eZ11)))))) (ZA S_ak.eq_1 (ZA SX_ak.eq_1 hlZ10.symm))
 · cases h
   exact ZL cZ5 (ZA S_ak.eq_1 SX_ak.eq_1)
theorem w_es (aZ0:List TFiber) {r:List TFiber} (h:M_es aZ0=some r):Ok Tryz.prog 92 [.lst .o 4 (aZ0.map (e_TFiber .o))] ((fun r=>.lst .u 4 (r.map (e_TFiber .u))) r):=by
 refine ok_of_body hmix m92 rfl ?_
 unfold M_es at h
 simp only [ZC,A92,V92,body_eq]
 obtain ⟨uZ1,huZ1,h⟩:=bind_s h
 obtain ⟨huZ11,huZ12,huZ13,huZ14⟩:=grd_s huZ1
 obtain ⟨lZ2,hlZ2,h⟩:=bnd_s h
 have eZ3:List.replicate (Int.toNat (aZ0.length:Int)) (.agg [.i 0,.i 0,.i 0,.i 0]:AV)=lZ2.map (e_TFiber .u):=by rw [← hlZ2,List.map_replicate]; rfl
 obtain ⟨oZ12,hoZ12,h⟩:=bind_s h
 try refine ZF (ZA huZ11 (ZA huZ12 (ZA huZ13 (ZA huZ14 eZ3)))) ?_
 refine join_rule0 (blk_rule0 (loop_rule (w_ak aZ0) hoZ12 ?_)) ?_
 · exact ZK (ZA S_ak.eq_1 (ZA SX_ak.eq_1 (ZA hlZ2.symm @Zr)))
 · simp only [ZC,SX_ak,A92R2]
   cases h
   exact ZL (ZA huZ11 (ZA huZ12 (ZA huZ13 (ZA huZ14 eZ3)))) V92.eq_1
theorem w_bu (aZ0:TNetwork) {r:TNetwork} (h:M_bu aZ0=some r):Ok Tryz.prog 37 [.agg [.lst .o 1 (aZ0.Nodes.map AV.z),.lst .o 4 (aZ0.Fibers.map (e_TFiber .o))]] ((fun r=>.agg [.lst .u 1 (r.Nodes.map AV.z),.lst .u 4 (r.Fibers.map (e_TFiber .u))]) r):=by
 refine ok_of_body hmix m37 rfl ?_
 unfold M_bu at h
 simp only [ZC,A37,V37,body_eq]
 obtain ⟨rZ1,hrZ1,h⟩:=bind_s h
 refine ZF trivial ?_
 refine ZU trivial (w_er _ hrZ1) ?_
 refine ZG ?_
 obtain ⟨rZ2,hrZ2,h⟩:=bind_s h
 refine ZF trivial ?_
 refine ZU trivial (w_es _ hrZ2) ?_
 refine ZG ?_
 cases h
 exact ZL trivial V37.eq_1
def S_al (aZ0:List Int) (v:Int×List Int):St:=⟨[(0,.lst .o 1 (aZ0.map AV.i)),(3,.sl 3 0 v.2.length),(4,.i v.1)],[(3,.arr 1 (v.2.map AV.i))]⟩
def SX_al (v:List Int):St:=⟨[(3,.sl 3 0 v.length)],[(3,.arr 1 (v.map AV.i))]⟩
theorem w_al (aZ0:List Int) (sZ4:Int×List Int) (o:(Int×List Int) ⊕ (List Int)) (h:M_al aZ0 sZ4=some o):AWP (OkS Tryz.prog) A32L1 (qL [0,3,4] [3] (S_al aZ0) (qX 0 [3] [3] (SX_al)) o) (S_al aZ0 sZ4):=by
 unfold M_al at h
 simp only [ZC,S_al,A32L1]
 obtain ⟨cZ5,h⟩ | ⟨cZ5,h⟩:=cond_s h
 · obtain ⟨yZ6,hyZ6,h⟩:=bind_s h
   obtain ⟨hyZ6a,hyZ6b⟩:=geti_s hyZ6
   obtain ⟨kZ7,hkZ7,h⟩:=bind_s h
   obtain ⟨hkZ7a,hkZ7b⟩:=grd_s hkZ7
   obtain ⟨yZ8,hyZ8,h⟩:=bind_s h
   obtain ⟨lZ9,hlZ9,h⟩:=bnd_s h
   have eZ10:(sZ4.2.map AV.i).set (Int.toNat sZ4.1) (.i yZ6)=lZ9.map AV.i:=by rw [← hlZ9,List.map_set]
   cases h
   exact ZL (ZA cZ5 (ZA hyZ6a (ZA hyZ6b (ZA hkZ7a (ZA hkZ7b (ZA hyZ8 eZ10)))))) (ZA S_al.eq_1 (ZA SX_al.eq_1 hlZ9.symm))
 · cases h
   exact ZL cZ5 (ZA S_al.eq_1 SX_al.eq_1)
theorem w_et (aZ0:List Int) {r:List Int} (h:M_et aZ0=some r):Ok Tryz.prog 32 [.lst .o 1 (aZ0.map AV.i)] ((fun r=>.lst .u 1 (r.map AV.i)) r):=by
 refine ok_of_body hmix m32 rfl ?_
 unfold M_et at h
 simp only [ZC,A32,V32,body_eq]
 obtain ⟨uZ1,huZ1,h⟩:=bind_s h
 obtain ⟨huZ11,huZ12,huZ13,huZ14⟩:=grd_s huZ1
 obtain ⟨lZ2,hlZ2,h⟩:=bnd_s h
 have eZ3:List.replicate (Int.toNat (aZ0.length:Int)) (.i 0:AV)=lZ2.map AV.i:=by rw [← hlZ2,List.map_replicate]
 obtain ⟨oZ11,hoZ11,h⟩:=bind_s h
 try refine ZF (ZA huZ11 (ZA huZ12 (ZA huZ13 (ZA huZ14 eZ3)))) ?_
 refine join_rule0 (blk_rule0 (loop_rule (w_al aZ0) hoZ11 ?_)) ?_
 · exact ZK (ZA S_al.eq_1 (ZA SX_al.eq_1 (ZA hlZ2.symm @Zr)))
 · simp only [ZC,SX_al,A32R2]
   cases h
   exact ZL (ZA huZ11 (ZA huZ12 (ZA huZ13 (ZA huZ14 eZ3)))) V32.eq_1
theorem w_cz (aZ0:TRoute) {r:TRoute} (h:M_cz aZ0=some r):Ok Tryz.prog 151 [.agg [.i aZ0.Start,.lst .o 1 (aZ0.Fibers.map AV.i)]] ((fun r=>.agg [.i r.Start,.lst .u 1 (r.Fibers.map AV.i)]) r):=by
 refine ok_of_body hmix m151 rfl ?_
 unfold M_cz at h
 simp only [ZC,A151,V151,body_eq]
 obtain ⟨rZ1,hrZ1,h⟩:=bind_s h
 refine ZF trivial ?_
 refine ZU trivial (w_et _ hrZ1) ?_
 refine ZG ?_
 cases h
 exact ZL trivial V151.eq_1
theorem w_da (aZ0:TBlock) {r:TBlock} (h:M_da aZ0=some r):Ok Tryz.prog 152 [.agg [.i aZ0.First,.i aZ0.Count]] ((fun r=>.agg [.i r.First,.i r.Count]) r):=by
 refine ok_of_body hmix m152 rfl ?_
 unfold M_da at h
 simp only [ZC,A152,V152,body_eq]
 cases h
 exact ZL trivial V152.eq_1
theorem w_dm (aZ0:TService) {r:TService} (h:M_dm aZ0=some r):Ok Tryz.prog 93 [.agg [.i aZ0.Id,.i aZ0.Class,.i aZ0.Work.Start,.lst .o 1 (aZ0.Work.Fibers.map AV.i),.i aZ0.WorkBlock.First,.i aZ0.WorkBlock.Count,.i aZ0.Spare.Start,.lst .o 1 (aZ0.Spare.Fibers.map AV.i),.i aZ0.SpareBlock.First,.i aZ0.SpareBlock.Count]] ((fun r=>.agg [.i r.Id,.i r.Class,.i r.Work.Start,.lst .u 1 (r.Work.Fibers.map AV.i),.i r.WorkBlock.First,.i r.WorkBlock.Count,.i r.Spare.Start,.lst .u 1 (r.Spare.Fibers.map AV.i),.i r.SpareBlock.First,.i r.SpareBlock.Count]) r):=by
 refine ok_of_body hmix m93 rfl ?_
 unfold M_dm at h
 simp only [ZC,A93,V93,body_eq]
 obtain ⟨rZ1,hrZ1,h⟩:=bind_s h
 refine ZF trivial ?_
 refine ZU trivial (w_cz _ hrZ1) ?_
 refine ZG ?_
 obtain ⟨rZ2,hrZ2,h⟩:=bind_s h
 refine ZF trivial ?_
 refine ZU trivial (w_da _ hrZ2) ?_
 refine ZG ?_
 obtain ⟨rZ3,hrZ3,h⟩:=bind_s h
 refine ZF trivial ?_
 refine ZU trivial (w_cz _ hrZ3) ?_
 refine ZG ?_
 obtain ⟨rZ4,hrZ4,h⟩:=bind_s h
 refine ZF trivial ?_
 refine ZU trivial (w_da _ hrZ4) ?_
 refine ZG ?_
 cases h
 exact ZL trivial V93.eq_1
def S_am (aZ0:List TService) (v:Int×List TService):St:=⟨[(0,.lst .o 10 (aZ0.map (e_TService .o))),(3,.sl 3 0 v.2.length),(4,.i v.1)],[(3,.arr 10 (v.2.map (e_TService .u)))]⟩
def SX_am (v:List TService):St:=⟨[(3,.sl 3 0 v.length)],[(3,.arr 10 (v.map (e_TService .u)))]⟩
theorem w_am (aZ0:List TService) (sZ4:Int×List TService) (o:(Int×List TService) ⊕ (List TService)) (h:M_am aZ0 sZ4=some o):AWP (OkS Tryz.prog) A38L1 (qL [0,3,4] [3] (S_am aZ0) (qX 0 [3] [3] (SX_am)) o) (S_am aZ0 sZ4):=by
 unfold M_am at h
 simp only [ZC,S_am,A38L1]
 obtain ⟨cZ5,h⟩ | ⟨cZ5,h⟩:=cond_s h
 · obtain ⟨yZ6,hyZ6,h⟩:=bind_s h
   obtain ⟨hyZ6a,hyZ6b⟩:=geti_s hyZ6
   obtain ⟨rZ7,hrZ7,h⟩:=bind_s h
   refine ZF (ZA cZ5 (ZA hyZ6a hyZ6b)) ?_
   refine ZU (ZA cZ5 (ZA hyZ6a hyZ6b)) (w_dm _ hrZ7) ?_
   refine ZG ?_
   obtain ⟨kZ8,hkZ8,h⟩:=bind_s h
   obtain ⟨hkZ8a,hkZ8b⟩:=grd_s hkZ8
   obtain ⟨yZ9,hyZ9,h⟩:=bind_s h
   obtain ⟨lZ10,hlZ10,h⟩:=bnd_s h
   have eZ11:(sZ4.2.map (e_TService .u)).set (Int.toNat sZ4.1) (.agg [.i rZ7.Id,.i rZ7.Class,.i rZ7.Work.Start,.lst .u 1 (rZ7.Work.Fibers.map AV.i),.i rZ7.WorkBlock.First,.i rZ7.WorkBlock.Count,.i rZ7.Spare.Start,.lst .u 1 (rZ7.Spare.Fibers.map AV.i),.i rZ7.SpareBlock.First,.i rZ7.SpareBlock.Count])=lZ10.map (e_TService .u):=by rw [← hlZ10,List.map_set]; rfl
   cases h
   exact ZL (ZA cZ5 (ZA hyZ6a (ZA hyZ6b (ZA hkZ8a (ZA hkZ8b (ZA hyZ9 eZ11)))))) (ZA S_am.eq_1 (ZA SX_am.eq_1 hlZ10.symm))
 · cases h
   exact ZL cZ5 (ZA S_am.eq_1 SX_am.eq_1)
theorem w_bv (aZ0:List TService) {r:List TService} (h:M_bv aZ0=some r):Ok Tryz.prog 38 [.lst .o 10 (aZ0.map (e_TService .o))] ((fun r=>.lst .u 10 (r.map (e_TService .u))) r):=by
 refine ok_of_body hmix m38 rfl ?_
 unfold M_bv at h
 simp only [ZC,A38,V38,body_eq]
 obtain ⟨uZ1,huZ1,h⟩:=bind_s h
 obtain ⟨huZ11,huZ12,huZ13,huZ14⟩:=grd_s huZ1
 obtain ⟨lZ2,hlZ2,h⟩:=bnd_s h
 have eZ3:List.replicate (Int.toNat (aZ0.length:Int)) (.agg [.i 0,.i 0,.i 0,.lst .u 1 [],.i 0,.i 0,.i 0,.lst .u 1 [],.i 0,.i 0]:AV)=lZ2.map (e_TService .u):=by rw [← hlZ2,List.map_replicate]; rfl
 obtain ⟨oZ12,hoZ12,h⟩:=bind_s h
 try refine ZF (ZA huZ11 (ZA huZ12 (ZA huZ13 (ZA huZ14 eZ3)))) ?_
 refine join_rule0 (blk_rule0 (loop_rule (w_am aZ0) hoZ12 ?_)) ?_
 · exact ZK (ZA S_am.eq_1 (ZA SX_am.eq_1 (ZA hlZ2.symm @Zr)))
 · simp only [ZC,SX_am,A38R2]
   cases h
   exact ZL (ZA huZ11 (ZA huZ12 (ZA huZ13 (ZA huZ14 eZ3)))) V38.eq_1
theorem w_b (xZ0:Int) (aZ0:Int) (bZ0:Int) {r:Bool} (h:M_b xZ0 aZ0 bZ0=some r):Ok Tryz.prog 178 [.i xZ0,.i aZ0,.i bZ0] ((fun r=>.b r) r):=by
 refine ok_of_body hmix m178 rfl ?_
 unfold M_b at h
 simp only [ZC,A178,V178,body_eq]
 obtain ⟨cZ1,h⟩ | ⟨cZ1,h⟩:=cond_s h
 · cases h
   exact ZL cZ1 V178.eq_1
 · cases h
   exact ZL cZ1 V178.eq_1
theorem w_eu (bZ0:Int) {r:Bool} (h:M_eu bZ0=some r):Ok Tryz.prog 224 [.sc (.int .u8 bZ0)] ((fun r=>.b r) r):=by
 refine ok_of_body hmix m224 rfl ?_
 unfold M_eu at h
 simp only [ZC,A224,V224,body_eq]
 obtain ⟨cZ1,h⟩ | ⟨cZ1,h⟩:=cond_s h
 · obtain ⟨cZ2,h⟩ | ⟨cZ2,h⟩:=cond_s h
   · cases h
     exact ZL (ZA cZ1 cZ2) V224.eq_1
   · obtain ⟨cZ3,h⟩ | ⟨cZ3,h⟩:=cond_s h
     · cases h
       exact ZL (ZA cZ1 (ZA cZ2 cZ3)) V224.eq_1
     · cases h
       exact ZL (ZA cZ1 (ZA cZ2 cZ3)) V224.eq_1
 · obtain ⟨cZ4,h⟩ | ⟨cZ4,h⟩:=cond_s h
   · cases h
     exact ZL (ZA cZ1 cZ4) V224.eq_1
   · cases h
     exact ZL (ZA cZ1 cZ4) V224.eq_1
def S_an (sZ0:ByteArray) (v:Int):St:=⟨[(0,.z sZ0),(3,.i v)],[]⟩
def SX_an (v:Unit):St:=⟨[],[]⟩
theorem w_an (sZ0:ByteArray) (sZ7:Int) (o:Int ⊕ (Unit ⊕ Bool)) (h:M_an sZ0 sZ7=some o):AWP (OkS Tryz.prog) A187L2 (qL [0,3] [] (S_an sZ0) (qS (qX 0 [] [] (SX_an)) (qR V187 (fun r=>.b r))) o) (S_an sZ0 sZ7):=by
 unfold M_an at h
 simp only [ZC,S_an,A187L2]
 obtain ⟨cZ8,h⟩ | ⟨cZ8,h⟩:=cond_s h
 · obtain ⟨yZ9,hyZ9,h⟩:=bind_s h
   obtain ⟨hyZ9a,hyZ9b⟩:=getz_s hyZ9
   obtain ⟨rZ10,hrZ10,h⟩:=bind_s h
   refine ZF (ZA cZ8 (ZA hyZ9a hyZ9b)) ?_
   refine ZS (ZA cZ8 (ZA hyZ9a hyZ9b)) (w_eu _ hrZ10) ?_
   refine ZG ?_
   obtain ⟨cZ11,h⟩ | ⟨cZ11,h⟩:=cond_s h
   · cases h
     exact ZL (ZA cZ8 (ZA hyZ9a (ZA hyZ9b cZ11))) V187.eq_1
   · cases h
     exact ZL (ZA cZ8 (ZA hyZ9a (ZA hyZ9b cZ11))) (ZA S_an.eq_1 SX_an.eq_1)
 · cases h
   exact ZL cZ8 (ZA S_an.eq_1 SX_an.eq_1)
theorem w_ev (sZ0:ByteArray) {r:Bool} (h:M_ev sZ0=some r):Ok Tryz.prog 187 [.z sZ0] ((fun r=>.b r) r):=by
 refine ok_of_body hmix m187 rfl ?_
 unfold M_ev at h
 simp only [ZC,A187,V187,body_eq]
 obtain ⟨oZ5,hoZ5,h⟩:=bind_s h
 try refine ZF trivial ?_
 refine join_rule0 (sh:=(fun v=>⟨[(0,.z sZ0),(17,.b v)],[]⟩)) (s:=oZ5) ?_ ?_
 · replace h:=hoZ5
   obtain ⟨rZ1,hrZ1,h⟩:=bind_s h
   refine ZF trivial ?_
   refine ZS trivial (w_b _ _ _ hrZ1) ?_
   refine ZG ?_
   obtain ⟨cZ2,h⟩ | ⟨cZ2,h⟩:=cond_s h
   · cases h
     exact ZL cZ2 trivial
   · obtain ⟨yZ3,hyZ3,h⟩:=bind_s h
     obtain ⟨hyZ3a,hyZ3b⟩:=getz_s hyZ3
     obtain ⟨cZ4,h⟩ | ⟨cZ4,h⟩:=cond_s h
     · cases h
       exact ZL (ZA cZ2 (ZA hyZ3a (ZA hyZ3b cZ4))) trivial
     · cases h
       exact ZL (ZA cZ2 (ZA hyZ3a (ZA hyZ3b cZ4))) trivial
 · simp only [ZC,A187R1]
   obtain ⟨cZ6,h⟩ | ⟨cZ6,h⟩:=cond_s h
   · cases h
     exact ZL cZ6 V187.eq_1
   · obtain ⟨oZ12,hoZ12,h⟩:=bind_s h
     try refine ZF cZ6 ?_
     refine join_rule (o:=oZ12) (blk_rule sideR (loop_rule (w_an sZ0) hoZ12 ?_)) (fun vZ13 hv=>?_) (fun xZ14 hv e τ hne hq=>?_)
     · exact ZK (ZA S_an.eq_1 SX_an.eq_1)
     · subst hv
       simp only [] at h
       simp only [ZC,SX_an,A187R3]
       cases h
       exact ZL cZ6 V187.eq_1
     · subst hv
       simp only [] at h
       obtain ⟨rfl,qZ15⟩:=hq
       cases h
       exact qZ15
def S_ao (listZ0:List ByteArray) (nameZ0:ByteArray) (v:Int):St:=⟨[(0,.lst .o 1 (listZ0.map AV.z)),(1,.z nameZ0),(5,.i v)],[]⟩
def SX_ao (v:Unit):St:=⟨[],[]⟩
theorem w_ao (listZ0:List ByteArray) (nameZ0:ByteArray) (sZ1:Int) (o:Int ⊕ (Unit ⊕ Int)) (h:M_ao listZ0 nameZ0 sZ1=some o):AWP (OkS Tryz.prog) A188L1 (qL [0,1,5] [] (S_ao listZ0 nameZ0) (qS (qX 0 [] [] (SX_ao)) (qR V188 (fun r=>.i r))) o) (S_ao listZ0 nameZ0 sZ1):=by
 unfold M_ao at h
 simp only [ZC,S_ao,A188L1]
 obtain ⟨cZ2,h⟩ | ⟨cZ2,h⟩:=cond_s h
 · obtain ⟨yZ3,hyZ3,h⟩:=bind_s h
   obtain ⟨hyZ3a,hyZ3b⟩:=geti_s hyZ3
   obtain ⟨cZ4,h⟩ | ⟨cZ4,h⟩:=cond_s h
   · cases h
     exact ZL (ZA cZ2 (ZA hyZ3a (ZA hyZ3b cZ4))) V188.eq_1
   · cases h
     exact ZL (ZA cZ2 (ZA hyZ3a (ZA hyZ3b cZ4))) (ZA S_ao.eq_1 SX_ao.eq_1)
 · cases h
   exact ZL cZ2 (ZA S_ao.eq_1 SX_ao.eq_1)
theorem w_ew (listZ0:List ByteArray) (nameZ0:ByteArray) {r:Int} (h:M_ew listZ0 nameZ0=some r):Ok Tryz.prog 188 [.lst .o 1 (listZ0.map AV.z),.z nameZ0] ((fun r=>.i r) r):=by
 refine ok_of_body hmix m188 rfl ?_
 unfold M_ew at h
 simp only [ZC,A188,V188,body_eq]
 obtain ⟨oZ5,hoZ5,h⟩:=bind_s h
 try refine ZF trivial ?_
 refine join_rule (o:=oZ5) (blk_rule sideR (loop_rule (w_ao listZ0 nameZ0) hoZ5 ?_)) (fun vZ6 hv=>?_) (fun xZ7 hv e τ hne hq=>?_)
 · exact ZK (ZA S_ao.eq_1 SX_ao.eq_1)
 · subst hv
   simp only [] at h
   simp only [ZC,SX_ao,A188R2]
   cases h
   exact ZL trivial V188.eq_1
 · subst hv
   simp only [] at h
   obtain ⟨rfl,qZ8⟩:=hq
   cases h
   exact qZ8
theorem w_ej (fZ0:TFiber) (nodesZ0:Int) {r:Bool} (h:M_ej fZ0 nodesZ0=some r):Ok Tryz.prog 189 [.agg [.i fZ0.A,.i fZ0.B,.i fZ0.Length,.i fZ0.Risk],.i nodesZ0] ((fun r=>.b r) r):=by
 refine ok_of_body hmix m189 rfl ?_
 unfold M_ej at h
 simp only [ZC,A189,V189,body_eq]
 obtain ⟨rZ1,hrZ1,h⟩:=bind_s h
 refine ZF trivial ?_
 refine ZS trivial (w_b _ _ _ hrZ1) ?_
 refine ZG ?_
 obtain ⟨cZ2,h⟩ | ⟨cZ2,h⟩:=cond_s h
 · obtain ⟨rZ3,hrZ3,h⟩:=bind_s h
   refine ZF cZ2 ?_
   refine ZS cZ2 (w_b _ _ _ hrZ3) ?_
   refine ZG ?_
   obtain ⟨cZ4,h⟩ | ⟨cZ4,h⟩:=cond_s h
   · obtain ⟨rZ5,hrZ5,h⟩:=bind_s h
     refine ZF (ZA cZ2 cZ4) ?_
     refine ZS (ZA cZ2 cZ4) (w_b _ _ _ hrZ5) ?_
     refine ZG ?_
     obtain ⟨cZ6,h⟩ | ⟨cZ6,h⟩:=cond_s h
     · obtain ⟨rZ7,hrZ7,h⟩:=bind_s h
       refine ZF (ZA cZ2 (ZA cZ4 cZ6)) ?_
       refine ZS (ZA cZ2 (ZA cZ4 cZ6)) (w_b _ _ _ hrZ7) ?_
       refine ZG ?_
       cases h
       exact ZL (ZA cZ2 (ZA cZ4 cZ6)) V189.eq_1
     · cases h
       exact ZL (ZA cZ2 (ZA cZ4 cZ6)) V189.eq_1
   · cases h
     exact ZL (ZA cZ2 cZ4) V189.eq_1
 · cases h
   exact ZL cZ2 V189.eq_1
theorem w_ek (fZ0:TFiber) (gZ0:TFiber) {r:Int} (h:M_ek fZ0 gZ0=some r):Ok Tryz.prog 190 [.agg [.i fZ0.A,.i fZ0.B,.i fZ0.Length,.i fZ0.Risk],.agg [.i gZ0.A,.i gZ0.B,.i gZ0.Length,.i gZ0.Risk]] ((fun r=>.i r) r):=by
 refine ok_of_body hmix m190 rfl ?_
 unfold M_ek at h
 simp only [ZC,A190,V190,body_eq]
 obtain ⟨cZ1,h⟩ | ⟨cZ1,h⟩:=cond_s h
 · cases h
   exact ZL cZ1 V190.eq_1
 · obtain ⟨cZ2,h⟩ | ⟨cZ2,h⟩:=cond_s h
   · cases h
     exact ZL (ZA cZ1 cZ2) V190.eq_1
   · obtain ⟨cZ3,h⟩ | ⟨cZ3,h⟩:=cond_s h
     · cases h
       exact ZL (ZA cZ1 (ZA cZ2 cZ3)) V190.eq_1
     · cases h
       exact ZL (ZA cZ1 (ZA cZ2 cZ3)) V190.eq_1
def S_af (nZ0:TNetwork) (v:Int):St:=⟨[(1,.pt 1 0 0),(3,.i v)],[(1,.var (.agg [.lst .o 1 (nZ0.Nodes.map AV.z),.lst .o 4 (nZ0.Fibers.map (e_TFiber .o))]))]⟩
def SX_af (nZ0:TNetwork) (v:Unit):St:=⟨[(1,.pt 1 0 0)],[(1,.var (.agg [.lst .o 1 (nZ0.Nodes.map AV.z),.lst .o 4 (nZ0.Fibers.map (e_TFiber .o))]))]⟩
theorem w_af (nZ0:TNetwork) (sZ5:Int) (o:Int ⊕ (Unit ⊕ Bool)) (h:M_af nZ0 sZ5=some o):AWP (OkS Tryz.prog) A138L3 (qL [1,3] [1] (S_af nZ0) (qS (qX 0 [1] [1] (SX_af nZ0)) (qR V138 (fun r=>.b r))) o) (S_af nZ0 sZ5):=by
 unfold M_af at h
 simp only [ZC,S_af,A138L3]
 obtain ⟨cZ6,h⟩ | ⟨cZ6,h⟩:=cond_s h
 · obtain ⟨oZ11,hoZ11,h⟩:=bind_s h
   try refine ZF cZ6 ?_
   refine join_rule0 (sh:=(fun v=>⟨[(1,.pt 1 0 0),(3,.i sZ5),(41,.b v)],[(1,.var (.agg [.lst .o 1 (nZ0.Nodes.map AV.z),.lst .o 4 (nZ0.Fibers.map (e_TFiber .o))]))]⟩)) (s:=oZ11) ?_ ?_
   · replace h:=hoZ11
     obtain ⟨yZ7,hyZ7,h⟩:=bind_s h
     obtain ⟨hyZ7a,hyZ7b⟩:=geti_s hyZ7
     obtain ⟨rZ8,hrZ8,h⟩:=bind_s h
     refine ZF (ZA cZ6 (ZA hyZ7a hyZ7b)) ?_
     refine ZS (ZA cZ6 (ZA hyZ7a hyZ7b)) (w_ev _ hrZ8) ?_
     refine ZG ?_
     obtain ⟨cZ9,h⟩ | ⟨cZ9,h⟩:=cond_s h
     · cases h
       exact ZL (ZA cZ6 (ZA hyZ7a (ZA hyZ7b cZ9))) trivial
     · obtain ⟨rZ10,hrZ10,h⟩:=bind_s h
       refine ZF (ZA cZ6 (ZA hyZ7a (ZA hyZ7b cZ9))) ?_
       refine ZS (ZA cZ6 (ZA hyZ7a (ZA hyZ7b cZ9))) (w_ew _ _ hrZ10) ?_
       refine ZG ?_
       cases h
       exact ZL (ZA cZ6 (ZA hyZ7a (ZA hyZ7b cZ9))) trivial
   · simp only [ZC,A138R2]
     obtain ⟨cZ12,h⟩ | ⟨cZ12,h⟩:=cond_s h
     · cases h
       exact ZL (ZA cZ6 cZ12) V138.eq_1
     · cases h
       exact ZL (ZA cZ6 cZ12) (ZA S_af.eq_1 SX_af.eq_1)
 · cases h
   exact ZL cZ6 (ZA S_af.eq_1 SX_af.eq_1)
def S_ag (nZ0:TNetwork) (v:Int):St:=⟨[(1,.pt 1 0 0),(4,.i v)],[(1,.var (.agg [.lst .o 1 (nZ0.Nodes.map AV.z),.lst .o 4 (nZ0.Fibers.map (e_TFiber .o))]))]⟩
def SX_ag (v:Unit):St:=⟨[],[]⟩
theorem w_ag (nZ0:TNetwork) (sZ16:Int) (o:Int ⊕ (Unit ⊕ Bool)) (h:M_ag nZ0 sZ16=some o):AWP (OkS Tryz.prog) A138L6 (qL [1,4] [1] (S_ag nZ0) (qS (qX 2 [] [] (SX_ag)) (qR V138 (fun r=>.b r))) o) (S_ag nZ0 sZ16):=by
 unfold M_ag at h
 simp only [ZC,S_ag,A138L6]
 obtain ⟨cZ17,h⟩ | ⟨cZ17,h⟩:=cond_s h
 · obtain ⟨oZ24,hoZ24,h⟩:=bind_s h
   try refine ZF cZ17 ?_
   refine join_rule0 (sh:=(fun v=>⟨[(1,.pt 1 0 0),(4,.i sZ16),(77,.b v)],[(1,.var (.agg [.lst .o 1 (nZ0.Nodes.map AV.z),.lst .o 4 (nZ0.Fibers.map (e_TFiber .o))]))]⟩)) (s:=oZ24) ?_ ?_
   · replace h:=hoZ24
     obtain ⟨yZ18,hyZ18,h⟩:=bind_s h
     obtain ⟨hyZ18a,hyZ18b⟩:=geti_s hyZ18
     obtain ⟨rZ19,hrZ19,h⟩:=bind_s h
     refine ZF (ZA cZ17 (ZA hyZ18a hyZ18b)) ?_
     refine ZS (ZA cZ17 (ZA hyZ18a hyZ18b)) (w_ej _ _ hrZ19) ?_
     refine ZG ?_
     obtain ⟨cZ20,h⟩ | ⟨cZ20,h⟩:=cond_s h
     · cases h
       exact ZL (ZA cZ17 (ZA hyZ18a (ZA hyZ18b cZ20))) trivial
     · obtain ⟨cZ21,h⟩ | ⟨cZ21,h⟩:=cond_s h
       · obtain ⟨yZ22,hyZ22,h⟩:=bind_s h
         obtain ⟨hyZ22a,hyZ22b⟩:=geti_s hyZ22
         obtain ⟨rZ23,hrZ23,h⟩:=bind_s h
         refine ZF (ZA cZ17 (ZA hyZ18a (ZA hyZ18b (ZA cZ20 (ZA cZ21 (ZA hyZ22a hyZ22b)))))) ?_
         refine ZS (ZA cZ17 (ZA hyZ18a (ZA hyZ18b (ZA cZ20 (ZA cZ21 (ZA hyZ22a hyZ22b)))))) (w_ek _ _ hrZ23) ?_
         refine ZG ?_
         cases h
         exact ZL (ZA cZ17 (ZA hyZ18a (ZA hyZ18b (ZA cZ20 (ZA cZ21 (ZA hyZ22a hyZ22b)))))) trivial
       · cases h
         exact ZL (ZA cZ17 (ZA hyZ18a (ZA hyZ18b (ZA cZ20 cZ21)))) trivial
   · simp only [ZC,A138R5]
     obtain ⟨cZ25,h⟩ | ⟨cZ25,h⟩:=cond_s h
     · cases h
       exact ZL (ZA cZ17 cZ25) V138.eq_1
     · cases h
       exact ZL (ZA cZ17 cZ25) (ZA S_ag.eq_1 SX_ag.eq_1)
 · cases h
   exact ZL cZ17 (ZA S_ag.eq_1 SX_ag.eq_1)
theorem w_cd (nZ0:TNetwork) {r:Bool} (h:M_cd nZ0=some r):Ok Tryz.prog 138 [.agg [.lst .o 1 (nZ0.Nodes.map AV.z),.lst .o 4 (nZ0.Fibers.map (e_TFiber .o))]] ((fun r=>.b r) r):=by
 refine ok_of_body hmix m138 rfl ?_
 unfold M_cd at h
 simp only [ZC,A138,V138,body_eq]
 obtain ⟨oZ3,hoZ3,h⟩:=bind_s h
 try refine ZF trivial ?_
 refine join_rule0 (sh:=(fun v=>⟨[(1,.pt 1 0 0),(15,.b v)],[(1,.var (.agg [.lst .o 1 (nZ0.Nodes.map AV.z),.lst .o 4 (nZ0.Fibers.map (e_TFiber .o))]))]⟩)) (s:=oZ3) ?_ ?_
 · replace h:=hoZ3
   obtain ⟨rZ1,hrZ1,h⟩:=bind_s h
   refine ZF trivial ?_
   refine ZS trivial (w_b _ _ _ hrZ1) ?_
   refine ZG ?_
   obtain ⟨cZ2,h⟩ | ⟨cZ2,h⟩:=cond_s h
   · cases h
     exact ZL cZ2 trivial
   · cases h
     exact ZL cZ2 trivial
 · simp only [ZC,A138R1]
   obtain ⟨cZ4,h⟩ | ⟨cZ4,h⟩:=cond_s h
   · cases h
     exact ZL cZ4 V138.eq_1
   · obtain ⟨oZ13,hoZ13,h⟩:=bind_s h
     try refine ZF cZ4 ?_
     refine join_rule (o:=oZ13) (blk_rule sideR (loop_rule (w_af nZ0) hoZ13 ?_)) (fun vZ14 hv=>?_) (fun xZ15 hv e τ hne hq=>?_)
     · exact ZK (ZA S_af.eq_1 SX_af.eq_1)
     · subst hv
       simp only [] at h
       simp only [ZC,SX_af,A138R4]
       obtain ⟨oZ26,hoZ26,h⟩:=bind_s h
       try refine ZF cZ4 ?_
       refine join_rule (o:=oZ26) (blk_rule sideR (loop_rule (w_ag nZ0) hoZ26 ?_)) (fun vZ27 hv=>?_) (fun xZ28 hv e τ hne hq=>?_)
       · exact ZK (ZA S_ag.eq_1 SX_ag.eq_1)
       · subst hv
         simp only [] at h
         simp only [ZC,SX_ag,A138R7]
         cases h
         exact ZL cZ4 V138.eq_1
       · subst hv
         simp only [] at h
         obtain ⟨rfl,qZ29⟩:=hq
         cases h
         exact qZ29
     · subst hv
       simp only [] at h
       obtain ⟨rfl,qZ30⟩:=hq
       cases h
       exact qZ30
theorem w_ee (nZ0:TNetwork) (fiberZ0:Int) (nodeZ0:Int) {r:Int} (h:M_ee nZ0 fiberZ0 nodeZ0=some r):Ok Tryz.prog 246 [.agg [.lst .o 1 (nZ0.Nodes.map AV.z),.lst .o 4 (nZ0.Fibers.map (e_TFiber .o))],.i fiberZ0,.i nodeZ0] ((fun r=>.i r) r):=by
 refine ok_of_body hmix m246 rfl ?_
 unfold M_ee at h
 simp only [ZC,A246,V246,body_eq]
 obtain ⟨yZ1,hyZ1,h⟩:=bind_s h
 obtain ⟨hyZ1a,hyZ1b⟩:=geti_s hyZ1
 obtain ⟨cZ2,h⟩ | ⟨cZ2,h⟩:=cond_s h
 · cases h
   exact ZL (ZA hyZ1a (ZA hyZ1b cZ2)) V246.eq_1
 · obtain ⟨cZ3,h⟩ | ⟨cZ3,h⟩:=cond_s h
   · cases h
     exact ZL (ZA hyZ1a (ZA hyZ1b (ZA cZ2 cZ3))) V246.eq_1
   · cases h
     exact ZL (ZA hyZ1a (ZA hyZ1b (ZA cZ2 cZ3))) V246.eq_1
def S_ad (lZ0:List Int) (nZ0:Int) (v:Int):St:=⟨[(0,.lst .o 1 (lZ0.map AV.i)),(1,.i nZ0),(5,.i v)],[]⟩
def SX_ad (v:Unit):St:=⟨[],[]⟩
theorem w_ad (lZ0:List Int) (nZ0:Int) (sZ1:Int) (o:Int ⊕ (Unit ⊕ Bool)) (h:M_ad lZ0 nZ0 sZ1=some o):AWP (OkS Tryz.prog) A144L1 (qL [0,1,5] [] (S_ad lZ0 nZ0) (qS (qX 0 [] [] (SX_ad)) (qR V144 (fun r=>.b r))) o) (S_ad lZ0 nZ0 sZ1):=by
 unfold M_ad at h
 simp only [ZC,S_ad,A144L1]
 obtain ⟨cZ2,h⟩ | ⟨cZ2,h⟩:=cond_s h
 · obtain ⟨yZ3,hyZ3,h⟩:=bind_s h
   obtain ⟨hyZ3a,hyZ3b⟩:=geti_s hyZ3
   obtain ⟨cZ4,h⟩ | ⟨cZ4,h⟩:=cond_s h
   · cases h
     exact ZL (ZA cZ2 (ZA hyZ3a (ZA hyZ3b cZ4))) V144.eq_1
   · cases h
     exact ZL (ZA cZ2 (ZA hyZ3a (ZA hyZ3b cZ4))) (ZA S_ad.eq_1 SX_ad.eq_1)
 · cases h
   exact ZL cZ2 (ZA S_ad.eq_1 SX_ad.eq_1)
theorem w_cc (lZ0:List Int) (nZ0:Int) {r:Bool} (h:M_cc lZ0 nZ0=some r):Ok Tryz.prog 144 [.lst .o 1 (lZ0.map AV.i),.i nZ0] ((fun r=>.b r) r):=by
 refine ok_of_body hmix m144 rfl ?_
 unfold M_cc at h
 simp only [ZC,A144,V144,body_eq]
 obtain ⟨oZ5,hoZ5,h⟩:=bind_s h
 try refine ZF trivial ?_
 refine join_rule (o:=oZ5) (blk_rule sideR (loop_rule (w_ad lZ0 nZ0) hoZ5 ?_)) (fun vZ6 hv=>?_) (fun xZ7 hv e τ hne hq=>?_)
 · exact ZK (ZA S_ad.eq_1 SX_ad.eq_1)
 · subst hv
   simp only [] at h
   simp only [ZC,SX_ad,A144R2]
   cases h
   exact ZL trivial V144.eq_1
 · subst hv
   simp only [] at h
   obtain ⟨rfl,qZ8⟩:=hq
   cases h
   exact qZ8
def S_ap (nZ0:TNetwork) (rZ0:TRoute) (v:Int×List Int):St:=⟨[(2,.pt 2 0 0),(3,.pt 3 0 0),(6,.sl 6 0 v.2.length),(7,.i v.1)],[(2,.var (.agg [.lst .o 1 (nZ0.Nodes.map AV.z),.lst .o 4 (nZ0.Fibers.map (e_TFiber .o))])),(3,.var (.agg [.i rZ0.Start,.lst .o 1 (rZ0.Fibers.map AV.i)])),(6,.arr 1 (v.2.map AV.i))]⟩
def SX_ap (v:List Int):St:=⟨[(6,.sl 6 0 v.length)],[(6,.arr 1 (v.map AV.i))]⟩
theorem w_ap (nZ0:TNetwork) (rZ0:TRoute) (sZ8:Int×List Int) (o:(Int×List Int) ⊕ ((List Int) ⊕ (List Int×Bool))) (h:M_ap nZ0 rZ0 sZ8=some o):AWP (OkS Tryz.prog) A220L3 (qL [2,3,6,7] [2,3,6] (S_ap nZ0 rZ0) (qS (qX 0 [6] [6] (SX_ap)) (qR V220 (fun r=>.tup [.lst .u 1 (r.1.map AV.i),.b r.2]))) o) (S_ap nZ0 rZ0 sZ8):=by
 unfold M_ap at h
 simp only [ZC,S_ap,A220L3]
 obtain ⟨cZ9,h⟩ | ⟨cZ9,h⟩:=cond_s h
 · obtain ⟨yZ10,hyZ10,h⟩:=bind_s h
   obtain ⟨hyZ10a,hyZ10b⟩:=geti_s hyZ10
   obtain ⟨rZ11,hrZ11,h⟩:=bind_s h
   refine ZF (ZA cZ9 (ZA hyZ10a hyZ10b)) ?_
   refine ZS (ZA cZ9 (ZA hyZ10a hyZ10b)) (w_b _ _ _ hrZ11) ?_
   refine ZG ?_
   obtain ⟨cZ12,h⟩ | ⟨cZ12,h⟩:=cond_s h
   · cases h
     exact ZL (ZA cZ9 (ZA hyZ10a (ZA hyZ10b cZ12))) V220.eq_1
   · obtain ⟨kZ13,hkZ13,h⟩:=bind_s h
     obtain ⟨hkZ13a,hkZ13b⟩:=grd_s hkZ13
     obtain ⟨yZ14,hyZ14,h⟩:=bind_s h
     obtain ⟨rZ15,hrZ15,h⟩:=bind_s h
     refine ZF (ZA cZ9 (ZA hyZ10a (ZA hyZ10b (ZA cZ12 (ZA hkZ13a (ZA hkZ13b hyZ14)))))) ?_
     refine ZS (ZA cZ9 (ZA hyZ10a (ZA hyZ10b (ZA cZ12 (ZA hkZ13a (ZA hkZ13b hyZ14)))))) (w_ee _ _ _ hrZ15) ?_
     refine ZG ?_
     obtain ⟨oZ18,hoZ18,h⟩:=bind_s h
     try refine ZF (ZA cZ9 (ZA hyZ10a (ZA hyZ10b (ZA cZ12 (ZA hkZ13a (ZA hkZ13b hyZ14)))))) ?_
     refine join_rule0 (sh:=(fun v=>⟨[(2,.pt 2 0 0),(3,.pt 3 0 0),(6,.sl 6 0 sZ8.2.length),(7,.i sZ8.1),(8,.i rZ15),(65,.b v)],[(2,.var (.agg [.lst .o 1 (nZ0.Nodes.map AV.z),.lst .o 4 (nZ0.Fibers.map (e_TFiber .o))])),(3,.var (.agg [.i rZ0.Start,.lst .o 1 (rZ0.Fibers.map AV.i)])),(6,.arr 1 (sZ8.2.map AV.i))]⟩)) (s:=oZ18) ?_ ?_
     · replace h:=hoZ18
       obtain ⟨cZ16,h⟩ | ⟨cZ16,h⟩:=cond_s h
       · cases h
         exact ZL (ZA cZ9 (ZA hyZ10a (ZA hyZ10b (ZA cZ12 (ZA hkZ13a (ZA hkZ13b (ZA hyZ14 cZ16))))))) trivial
       · obtain ⟨rZ17,hrZ17,h⟩:=bind_s h
         refine ZF (ZA cZ9 (ZA hyZ10a (ZA hyZ10b (ZA cZ12 (ZA hkZ13a (ZA hkZ13b (ZA hyZ14 cZ16))))))) ?_
         refine ZS (ZA cZ9 (ZA hyZ10a (ZA hyZ10b (ZA cZ12 (ZA hkZ13a (ZA hkZ13b (ZA hyZ14 cZ16))))))) (w_cc _ _ hrZ17) ?_
         refine ZG ?_
         cases h
         exact ZL (ZA cZ9 (ZA hyZ10a (ZA hyZ10b (ZA cZ12 (ZA hkZ13a (ZA hkZ13b (ZA hyZ14 cZ16))))))) trivial
     · simp only [ZC,A220R2]
       obtain ⟨cZ19,h⟩ | ⟨cZ19,h⟩:=cond_s h
       · cases h
         exact ZL (ZA cZ9 (ZA hyZ10a (ZA hyZ10b (ZA cZ12 (ZA hkZ13a (ZA hkZ13b (ZA hyZ14 cZ19))))))) V220.eq_1
       · obtain ⟨lZ20,hlZ20,h⟩:=bnd_s h
         have eZ21:Row.arr 1 [(.i rZ15:AV)]=Row.arr 1 (lZ20.map AV.i):=by rw [← hlZ20]; rfl
         have jjZ22:lZ20.length=1:=by rw [← hlZ20]; rfl
         obtain ⟨uZ23,huZ23,h⟩:=bind_s h
         have huZ23g:=grd_s huZ23
         obtain ⟨lZ24,hlZ24,h⟩:=bnd_s h
         have eZ25:sZ8.2.map AV.i++lZ20.map AV.i=lZ24.map AV.i:=by rw [← hlZ24,List.map_append]
         have eZ26:sZ8.2.length+1=lZ24.length:=by simp [← hlZ20,← hlZ24] <;> omega
         rw [eZ26] at huZ23g
         cases h
         exact ZL (ZA cZ9 (ZA hyZ10a (ZA hyZ10b (ZA cZ12 (ZA hkZ13a (ZA hkZ13b (ZA hyZ14 (ZA cZ19 (ZA eZ21 (ZA jjZ22 (ZA huZ23g (ZA eZ25 eZ26)))))))))))) (ZA S_ap.eq_1 (ZA SX_ap.eq_1 (ZA hlZ20.symm (ZA hlZ24.symm jjZ22))))
 · cases h
   exact ZL cZ9 (ZA S_ap.eq_1 SX_ap.eq_1)
theorem w_db (nZ0:TNetwork) (rZ0:TRoute) {r:List Int×Bool} (h:M_db nZ0 rZ0=some r):Ok Tryz.prog 220 [.agg [.lst .o 1 (nZ0.Nodes.map AV.z),.lst .o 4 (nZ0.Fibers.map (e_TFiber .o))],.agg [.i rZ0.Start,.lst .o 1 (rZ0.Fibers.map AV.i)]] ((fun r=>.tup [.lst .u 1 (r.1.map AV.i),.b r.2]) r):=by
 refine ok_of_body hmix m220 rfl ?_
 unfold M_db at h
 simp only [ZC,A220,V220,body_eq]
 obtain ⟨lZ1,hlZ1,h⟩:=bnd_s h
 have eZ2:Row.arr 1 [(.i rZ0.Start:AV)]=Row.arr 1 (lZ1.map AV.i):=by rw [← hlZ1]; rfl
 have jjZ3:lZ1.length=1:=by rw [← hlZ1]; rfl
 obtain ⟨oZ6,hoZ6,h⟩:=bind_s h
 try refine ZF (ZA eZ2 jjZ3) ?_
 refine join_rule0 (sh:=(fun v=>⟨[(2,.pt 2 0 0),(3,.pt 3 0 0),(6,.sl 6 0 lZ1.length),(25,.b v)],[(2,.var (.agg [.lst .o 1 (nZ0.Nodes.map AV.z),.lst .o 4 (nZ0.Fibers.map (e_TFiber .o))])),(3,.var (.agg [.i rZ0.Start,.lst .o 1 (rZ0.Fibers.map AV.i)])),(6,.arr 1 (lZ1.map AV.i))]⟩)) (s:=oZ6) ?_ ?_
 · replace h:=hoZ6
   obtain ⟨rZ4,hrZ4,h⟩:=bind_s h
   refine ZF (ZA eZ2 jjZ3) ?_
   refine ZS (ZA eZ2 jjZ3) (w_b _ _ _ hrZ4) ?_
   refine ZG ?_
   obtain ⟨cZ5,h⟩ | ⟨cZ5,h⟩:=cond_s h
   · cases h
     exact ZL (ZA eZ2 (ZA jjZ3 cZ5)) (ZA hlZ1.symm jjZ3)
   · cases h
     exact ZL (ZA eZ2 (ZA jjZ3 cZ5)) (ZA hlZ1.symm jjZ3)
 · simp only [ZC,A220R1]
   obtain ⟨cZ7,h⟩ | ⟨cZ7,h⟩:=cond_s h
   · cases h
     exact ZL (ZA eZ2 (ZA jjZ3 cZ7)) (ZA V220.eq_1 jjZ3)
   · obtain ⟨oZ27,hoZ27,h⟩:=bind_s h
     try refine ZF (ZA eZ2 (ZA jjZ3 cZ7)) ?_
     refine join_rule (o:=oZ27) (blk_rule sideR (loop_rule (w_ap nZ0 rZ0) hoZ27 ?_)) (fun vZ28 hv=>?_) (fun xZ29 hv e τ hne hq=>?_)
     · exact ZK (ZA S_ap.eq_1 (ZA SX_ap.eq_1 jjZ3))
     · subst hv
       simp only [] at h
       simp only [ZC,SX_ap,A220R4]
       cases h
       exact ZL (ZA eZ2 (ZA jjZ3 cZ7)) (ZA V220.eq_1 jjZ3)
     · subst hv
       simp only [] at h
       obtain ⟨rfl,qZ30⟩:=hq
       cases h
       exact qZ30
theorem w_bw (nZ0:TNetwork) (rZ0:TRoute) {r:Bool} (h:M_bw nZ0 rZ0=some r):Ok Tryz.prog 191 [.agg [.lst .o 1 (nZ0.Nodes.map AV.z),.lst .o 4 (nZ0.Fibers.map (e_TFiber .o))],.agg [.i rZ0.Start,.lst .o 1 (rZ0.Fibers.map AV.i)]] ((fun r=>.b r) r):=by
 refine ok_of_body hmix m191 rfl ?_
 unfold M_bw at h
 simp only [ZC,A191,V191,body_eq]
 obtain ⟨rZ1,hrZ1,h⟩:=bind_s h
 refine ZF trivial ?_
 refine ZS trivial (w_cd _ hrZ1) ?_
 refine ZG ?_
 obtain ⟨cZ2,h⟩ | ⟨cZ2,h⟩:=cond_s h
 · cases h
   exact ZL cZ2 V191.eq_1
 · obtain ⟨rZ3,hrZ3,h⟩:=bind_s h
   refine ZF cZ2 ?_
   refine ZU cZ2 (w_db _ _ hrZ3) ?_
   refine ZG ?_
   cases h
   exact ZL cZ2 V191.eq_1
theorem w_ca (bZ0:TBlock) {r:Bool} (h:M_ca bZ0=some r):Ok Tryz.prog 192 [.agg [.i bZ0.First,.i bZ0.Count]] ((fun r=>.b r) r):=by
 refine ok_of_body hmix m192 rfl ?_
 unfold M_ca at h
 simp only [ZC,A192,V192,body_eq]
 obtain ⟨rZ1,hrZ1,h⟩:=bind_s h
 refine ZF trivial ?_
 refine ZS trivial (w_b _ _ _ hrZ1) ?_
 refine ZG ?_
 obtain ⟨cZ2,h⟩ | ⟨cZ2,h⟩:=cond_s h
 · obtain ⟨rZ3,hrZ3,h⟩:=bind_s h
   refine ZF cZ2 ?_
   refine ZS cZ2 (w_b _ _ _ hrZ3) ?_
   refine ZG ?_
   cases h
   exact ZL cZ2 V192.eq_1
 · cases h
   exact ZL cZ2 V192.eq_1
theorem w_ga (nZ0:TNetwork) (rZ0:TRoute) {r:List Int} (h:M_ga nZ0 rZ0=some r):Ok Tryz.prog 179 [.agg [.lst .o 1 (nZ0.Nodes.map AV.z),.lst .o 4 (nZ0.Fibers.map (e_TFiber .o))],.agg [.i rZ0.Start,.lst .o 1 (rZ0.Fibers.map AV.i)]] ((fun r=>.lst .u 1 (r.map AV.i)) r):=by
 refine ok_of_body hmix m179 rfl ?_
 unfold M_ga at h
 simp only [ZC,A179,V179,body_eq]
 obtain ⟨rZ1,hrZ1,h⟩:=bind_s h
 refine ZF trivial ?_
 refine ZU trivial (w_db _ _ hrZ1) ?_
 refine ZG ?_
 cases h
 exact ZL trivial V179.eq_1
theorem w_dc (nZ0:TNetwork) (rZ0:TRoute) {r:Int} (h:M_dc nZ0 rZ0=some r):Ok Tryz.prog 126 [.agg [.lst .o 1 (nZ0.Nodes.map AV.z),.lst .o 4 (nZ0.Fibers.map (e_TFiber .o))],.agg [.i rZ0.Start,.lst .o 1 (rZ0.Fibers.map AV.i)]] ((fun r=>.i r) r):=by
 refine ok_of_body hmix m126 rfl ?_
 unfold M_dc at h
 simp only [ZC,A126,V126,body_eq]
 obtain ⟨rZ1,hrZ1,h⟩:=bind_s h
 refine ZF trivial ?_
 refine ZU trivial (w_ga _ _ hrZ1) ?_
 refine ZG ?_
 obtain ⟨kZ2,hkZ2,h⟩:=bind_s h
 obtain ⟨hkZ2a,hkZ2b⟩:=grd_s hkZ2
 obtain ⟨yZ3,hyZ3,h⟩:=bind_s h
 cases h
 exact ZL (ZA hkZ2a (ZA hkZ2b hyZ3)) V126.eq_1
def S_j (nZ0:TNetwork) (fiberZ0:Int) (v:Int×List Int):St:=⟨[(1,.i fiberZ0),(2,.pt 2 0 0),(5,.sl 5 0 v.2.length),(6,.i v.1)],[(2,.var (.agg [.lst .o 1 (nZ0.Nodes.map AV.z),.lst .o 4 (nZ0.Fibers.map (e_TFiber .o))])),(5,.arr 1 (v.2.map AV.i))]⟩
def SX_j (v:List Int):St:=⟨[(5,.sl 5 0 v.length)],[(5,.arr 1 (v.map AV.i))]⟩
theorem w_j (nZ0:TNetwork) (fiberZ0:Int) (sZ7:Int×List Int) (o:(Int×List Int) ⊕ (List Int)) (h:M_j nZ0 fiberZ0 sZ7=some o):AWP (OkS Tryz.prog) A225L1 (qL [1,2,5,6] [2,5] (S_j nZ0 fiberZ0) (qX 0 [5] [5] (SX_j)) o) (S_j nZ0 fiberZ0 sZ7):=by
 unfold M_j at h
 simp only [ZC,S_j,A225L1]
 obtain ⟨cZ8,h⟩ | ⟨cZ8,h⟩:=cond_s h
 · obtain ⟨yZ9,hyZ9,h⟩:=bind_s h
   obtain ⟨hyZ9a,hyZ9b⟩:=geti_s hyZ9
   obtain ⟨yZ10,hyZ10,h⟩:=bind_s h
   obtain ⟨hyZ10a,hyZ10b⟩:=geti_s hyZ10
   obtain ⟨cZ11,h⟩ | ⟨cZ11,h⟩:=cond_s h
   · obtain ⟨lZ12,hlZ12,h⟩:=bnd_s h
     have eZ13:Row.arr 1 [(.i sZ7.1:AV)]=Row.arr 1 (lZ12.map AV.i):=by rw [← hlZ12]; rfl
     have jjZ14:lZ12.length=1:=by rw [← hlZ12]; rfl
     obtain ⟨uZ15,huZ15,h⟩:=bind_s h
     have huZ15g:=grd_s huZ15
     obtain ⟨lZ16,hlZ16,h⟩:=bnd_s h
     have eZ17:sZ7.2.map AV.i++lZ12.map AV.i=lZ16.map AV.i:=by rw [← hlZ16,List.map_append]
     have eZ18:sZ7.2.length+1=lZ16.length:=by simp [← hlZ12,← hlZ16] <;> omega
     rw [eZ18] at huZ15g
     cases h
     exact ZL (ZA cZ8 (ZA hyZ9a (ZA hyZ9b (ZA hyZ10a (ZA hyZ10b (ZA cZ11 (ZA eZ13 (ZA jjZ14 (ZA huZ15g (ZA eZ17 eZ18)))))))))) (ZA S_j.eq_1 (ZA SX_j.eq_1 (ZA hlZ12.symm (ZA hlZ16.symm jjZ14))))
   · cases h
     exact ZL (ZA cZ8 (ZA hyZ9a (ZA hyZ9b (ZA hyZ10a (ZA hyZ10b cZ11))))) (ZA S_j.eq_1 SX_j.eq_1)
 · cases h
   exact ZL cZ8 (ZA S_j.eq_1 SX_j.eq_1)
theorem w_cv (nZ0:TNetwork) (fiberZ0:Int) {r:List Int} (h:M_cv nZ0 fiberZ0=some r):Ok Tryz.prog 225 [.agg [.lst .o 1 (nZ0.Nodes.map AV.z),.lst .o 4 (nZ0.Fibers.map (e_TFiber .o))],.i fiberZ0] ((fun r=>.lst .u 1 (r.map AV.i)) r):=by
 refine ok_of_body hmix m225 rfl ?_
 unfold M_cv at h
 simp only [ZC,A225,V225,body_eq]
 obtain ⟨yZ1,hyZ1,h⟩:=bind_s h
 obtain ⟨hyZ1a,hyZ1b⟩:=geti_s hyZ1
 obtain ⟨cZ2,h⟩ | ⟨cZ2,h⟩:=cond_s h
 · obtain ⟨lZ3,hlZ3,h⟩:=bnd_s h
   have eZ4:Row.arr 1 [(.i fiberZ0:AV)]=Row.arr 1 (lZ3.map AV.i):=by rw [← hlZ3]; rfl
   have jjZ5:lZ3.length=1:=by rw [← hlZ3]; rfl
   have nZ6:sub (lZ3.map AV.i) 0 1=lZ3.map AV.i:=sub_n _ (by simp [← hlZ3])
   cases h
   exact ZL (ZA hyZ1a (ZA hyZ1b (ZA cZ2 (ZA eZ4 (ZA jjZ5 nZ6))))) (ZA V225.eq_1 (ZA hlZ3.symm jjZ5))
 · obtain ⟨oZ19,hoZ19,h⟩:=bind_s h
   try refine ZF (ZA hyZ1a (ZA hyZ1b cZ2)) ?_
   refine join_rule0 (blk_rule0 (loop_rule (w_j nZ0 fiberZ0) hoZ19 ?_)) ?_
   · exact ZK (ZA S_j.eq_1 SX_j.eq_1)
   · simp only [ZC,SX_j,A225R2]
     cases h
     exact ZL (ZA hyZ1a (ZA hyZ1b cZ2)) V225.eq_1
def S_s (nZ0:TNetwork) (aZ0:TRoute) (bZ0:TRoute) (sZ1:Int) (rZ4:List Int) (v:Int):St:=⟨[(3,.pt 3 0 0),(4,.pt 4 0 0),(5,.pt 5 0 0),(7,.i sZ1),(8,.sl 8 0 rZ4.length),(9,.i v)],[(3,.var (.agg [.lst .o 1 (nZ0.Nodes.map AV.z),.lst .o 4 (nZ0.Fibers.map (e_TFiber .o))])),(4,.var (.agg [.i aZ0.Start,.lst .o 1 (aZ0.Fibers.map AV.i)])),(5,.var (.agg [.i bZ0.Start,.lst .o 1 (bZ0.Fibers.map AV.i)])),(8,.arr 1 (rZ4.map AV.i))]⟩
def SX_s (nZ0:TNetwork) (aZ0:TRoute) (bZ0:TRoute) (sZ1:Int) (v:Unit):St:=⟨[(3,.pt 3 0 0),(4,.pt 4 0 0),(5,.pt 5 0 0),(7,.i sZ1)],[(3,.var (.agg [.lst .o 1 (nZ0.Nodes.map AV.z),.lst .o 4 (nZ0.Fibers.map (e_TFiber .o))])),(4,.var (.agg [.i aZ0.Start,.lst .o 1 (aZ0.Fibers.map AV.i)])),(5,.var (.agg [.i bZ0.Start,.lst .o 1 (bZ0.Fibers.map AV.i)]))]⟩
theorem w_s (nZ0:TNetwork) (aZ0:TRoute) (bZ0:TRoute) (sZ1:Int) (rZ4:List Int) (sZ5:Int) (o:Int ⊕ (Unit ⊕ Bool)) (h:M_s bZ0 rZ4 sZ5=some o):AWP (OkS Tryz.prog) A195L1 (qL [3,4,5,7,8,9] [3,4,5,8] (S_s nZ0 aZ0 bZ0 sZ1 rZ4) (qS (qX 2 [3,4,5,7] [3,4,5] (SX_s nZ0 aZ0 bZ0 sZ1)) (qR V195 (fun r=>.b r))) o) (S_s nZ0 aZ0 bZ0 sZ1 rZ4 sZ5):=by
 unfold M_s at h
 simp only [ZC,S_s,A195L1]
 obtain ⟨cZ6,h⟩ | ⟨cZ6,h⟩:=cond_s h
 · obtain ⟨yZ7,hyZ7,h⟩:=bind_s h
   obtain ⟨hyZ7a,hyZ7b⟩:=geti_s hyZ7
   obtain ⟨rZ8,hrZ8,h⟩:=bind_s h
   refine ZF (ZA cZ6 (ZA hyZ7a hyZ7b)) ?_
   refine ZS (ZA cZ6 (ZA hyZ7a hyZ7b)) (w_cc _ _ hrZ8) ?_
   refine ZG ?_
   obtain ⟨cZ9,h⟩ | ⟨cZ9,h⟩:=cond_s h
   · cases h
     exact ZL (ZA cZ6 (ZA hyZ7a (ZA hyZ7b cZ9))) V195.eq_1
   · cases h
     exact ZL (ZA cZ6 (ZA hyZ7a (ZA hyZ7b cZ9))) (ZA S_s.eq_1 SX_s.eq_1)
 · cases h
   exact ZL cZ6 (ZA S_s.eq_1 SX_s.eq_1)
def S_ac (nZ0:TNetwork) (aZ0:TRoute) (bZ0:TRoute) (v:Int):St:=⟨[(3,.pt 3 0 0),(4,.pt 4 0 0),(5,.pt 5 0 0),(7,.i v)],[(3,.var (.agg [.lst .o 1 (nZ0.Nodes.map AV.z),.lst .o 4 (nZ0.Fibers.map (e_TFiber .o))])),(4,.var (.agg [.i aZ0.Start,.lst .o 1 (aZ0.Fibers.map AV.i)])),(5,.var (.agg [.i bZ0.Start,.lst .o 1 (bZ0.Fibers.map AV.i)]))]⟩
def SX_ac (v:Unit):St:=⟨[],[]⟩
theorem w_ac (nZ0:TNetwork) (aZ0:TRoute) (bZ0:TRoute) (sZ1:Int) (o:Int ⊕ (Unit ⊕ Bool)) (h:M_ac nZ0 aZ0 bZ0 sZ1=some o):AWP (OkS Tryz.prog) A195L3 (qL [3,4,5,7] [3,4,5] (S_ac nZ0 aZ0 bZ0) (qS (qX 0 [] [] (SX_ac)) (qR V195 (fun r=>.b r))) o) (S_ac nZ0 aZ0 bZ0 sZ1):=by
 unfold M_ac at h
 simp only [ZC,S_ac,A195L3]
 obtain ⟨cZ2,h⟩ | ⟨cZ2,h⟩:=cond_s h
 · obtain ⟨oZ15,hoZ15,h⟩:=bind_s h
   try refine ZF cZ2 ?_
   refine join_rule (sh:=(fun v=>⟨[(3,.pt 3 0 0),(4,.pt 4 0 0),(5,.pt 5 0 0),(7,.i sZ1)],[(3,.var (.agg [.lst .o 1 (nZ0.Nodes.map AV.z),.lst .o 4 (nZ0.Fibers.map (e_TFiber .o))])),(4,.var (.agg [.i aZ0.Start,.lst .o 1 (aZ0.Fibers.map AV.i)])),(5,.var (.agg [.i bZ0.Start,.lst .o 1 (bZ0.Fibers.map AV.i)]))]⟩)) (q:=(qR V195 (fun r=>.b r))) (o:=oZ15) ?_ (fun vZ16 hv=>?_) (fun xZ17 hv e τ hne hq=>?_)
   · replace h:=hoZ15
     obtain ⟨yZ3,hyZ3,h⟩:=bind_s h
     obtain ⟨hyZ3a,hyZ3b⟩:=geti_s hyZ3
     obtain ⟨rZ4,hrZ4,h⟩:=bind_s h
     refine ZF (ZA cZ2 (ZA hyZ3a hyZ3b)) ?_
     refine ZU (ZA cZ2 (ZA hyZ3a hyZ3b)) (w_cv _ _ hrZ4) ?_
     refine ZG ?_
     obtain ⟨oZ10,hoZ10,h⟩:=bind_s h
     try refine ZF (ZA cZ2 (ZA hyZ3a hyZ3b)) ?_
     first | refine tail_rule (o:=oZ10) (blk_rule sideR (loop_rule (w_s nZ0 aZ0 bZ0 sZ1 rZ4) hoZ10 ?_)) (fun vZ11 hv τ qZ13=>?_) (fun xZ12 hv e τ hne hq=>?_) | refine tail_blk (o:=oZ10) sideR (loop_rule (w_s nZ0 aZ0 bZ0 sZ1 rZ4) hoZ10 ?_) (fun vZ11 hv τ qZ13=>?_) (fun xZ12 hv e τ hne hq=>?_)
     · exact ZK (ZA S_s.eq_1 SX_s.eq_1)
     · subst hv
       simp only [] at h
       cases h
       try refine ZF trivial ?_
       refine ⟨rfl,Shp.sub qZ13 (by decide) (by decide) ?_⟩
       exact ZK SX_s.eq_1
     · subst hv
       simp only [] at h
       obtain ⟨rfl,qZ14⟩:=hq
       cases h
       try refine ZF trivial ?_
       first | exact ⟨by simp,qZ14⟩ | exact ⟨by simp,rfl,qZ14⟩
   · subst hv
     simp only [] at h
     simp only [ZC,A195R2]
     cases h
     exact ZL cZ2 (ZA S_ac.eq_1 SX_ac.eq_1)
   · subst hv
     simp only [] at h
     obtain ⟨rfl,qZ18⟩:=hq
     cases h
     try refine ZF trivial ?_
     first | exact ⟨by simp,qZ18⟩ | exact ⟨by simp,rfl,qZ18⟩
 · cases h
   exact ZL cZ2 (ZA S_ac.eq_1 SX_ac.eq_1)
theorem w_cw (nZ0:TNetwork) (aZ0:TRoute) (bZ0:TRoute) {r:Bool} (h:M_cw nZ0 aZ0 bZ0=some r):Ok Tryz.prog 195 [.agg [.lst .o 1 (nZ0.Nodes.map AV.z),.lst .o 4 (nZ0.Fibers.map (e_TFiber .o))],.agg [.i aZ0.Start,.lst .o 1 (aZ0.Fibers.map AV.i)],.agg [.i bZ0.Start,.lst .o 1 (bZ0.Fibers.map AV.i)]] ((fun r=>.b r) r):=by
 refine ok_of_body hmix m195 rfl ?_
 unfold M_cw at h
 simp only [ZC,A195,V195,body_eq]
 obtain ⟨oZ19,hoZ19,h⟩:=bind_s h
 try refine ZF trivial ?_
 refine join_rule (o:=oZ19) (blk_rule sideR (loop_rule (w_ac nZ0 aZ0 bZ0) hoZ19 ?_)) (fun vZ20 hv=>?_) (fun xZ21 hv e τ hne hq=>?_)
 · exact ZK (ZA S_ac.eq_1 SX_ac.eq_1)
 · subst hv
   simp only [] at h
   simp only [ZC,SX_ac,A195R4]
   cases h
   exact ZL trivial V195.eq_1
 · subst hv
   simp only [] at h
   obtain ⟨rfl,qZ22⟩:=hq
   cases h
   exact qZ22
theorem w_ex (nZ0:TNetwork) (sZ0:TService) {r:Bool} (h:M_ex nZ0 sZ0=some r):Ok Tryz.prog 148 [.agg [.lst .o 1 (nZ0.Nodes.map AV.z),.lst .o 4 (nZ0.Fibers.map (e_TFiber .o))],.agg [.i sZ0.Id,.i sZ0.Class,.i sZ0.Work.Start,.lst .o 1 (sZ0.Work.Fibers.map AV.i),.i sZ0.WorkBlock.First,.i sZ0.WorkBlock.Count,.i sZ0.Spare.Start,.lst .o 1 (sZ0.Spare.Fibers.map AV.i),.i sZ0.SpareBlock.First,.i sZ0.SpareBlock.Count]] ((fun r=>.b r) r):=by
 refine ok_of_body hmix m148 rfl ?_
 unfold M_ex at h
 simp only [ZC,A148,V148,body_eq]
 obtain ⟨oZ8,hoZ8,h⟩:=bind_s h
 try refine ZF trivial ?_
 refine join_rule0 (sh:=(fun v=>⟨[(2,.pt 2 0 0),(3,.pt 3 0 0),(27,.b v)],[(2,.var (.agg [.lst .o 1 (nZ0.Nodes.map AV.z),.lst .o 4 (nZ0.Fibers.map (e_TFiber .o))])),(3,.var (.agg [.i sZ0.Id,.i sZ0.Class,.i sZ0.Work.Start,.lst .o 1 (sZ0.Work.Fibers.map AV.i),.i sZ0.WorkBlock.First,.i sZ0.WorkBlock.Count,.i sZ0.Spare.Start,.lst .o 1 (sZ0.Spare.Fibers.map AV.i),.i sZ0.SpareBlock.First,.i sZ0.SpareBlock.Count]))]⟩)) (s:=oZ8) ?_ ?_
 · replace h:=hoZ8
   obtain ⟨rZ1,hrZ1,h⟩:=bind_s h
   refine ZF trivial ?_
   refine ZS trivial (w_b _ _ _ hrZ1) ?_
   refine ZG ?_
   obtain ⟨cZ2,h⟩ | ⟨cZ2,h⟩:=cond_s h
   · cases h
     exact ZL cZ2 trivial
   · obtain ⟨rZ3,hrZ3,h⟩:=bind_s h
     refine ZF cZ2 ?_
     refine ZS cZ2 (w_b _ _ _ hrZ3) ?_
     refine ZG ?_
     obtain ⟨cZ4,h⟩ | ⟨cZ4,h⟩:=cond_s h
     · cases h
       exact ZL (ZA cZ2 cZ4) trivial
     · obtain ⟨rZ5,hrZ5,h⟩:=bind_s h
       refine ZF (ZA cZ2 cZ4) ?_
       refine ZS (ZA cZ2 cZ4) (w_bw _ _ hrZ5) ?_
       refine ZG ?_
       obtain ⟨cZ6,h⟩ | ⟨cZ6,h⟩:=cond_s h
       · cases h
         exact ZL (ZA cZ2 (ZA cZ4 cZ6)) trivial
       · obtain ⟨rZ7,hrZ7,h⟩:=bind_s h
         refine ZF (ZA cZ2 (ZA cZ4 cZ6)) ?_
         refine ZS (ZA cZ2 (ZA cZ4 cZ6)) (w_ca _ hrZ7) ?_
         refine ZG ?_
         cases h
         exact ZL (ZA cZ2 (ZA cZ4 cZ6)) trivial
 · simp only [ZC,A148R1]
   obtain ⟨cZ9,h⟩ | ⟨cZ9,h⟩:=cond_s h
   · cases h
     exact ZL cZ9 V148.eq_1
   · obtain ⟨cZ10,h⟩ | ⟨cZ10,h⟩:=cond_s h
     · obtain ⟨oZ13,hoZ13,h⟩:=bind_s h
       try refine ZF (ZA cZ9 cZ10) ?_
       refine join_rule0 (sh:=(fun v=>⟨[(4,.b v)],[]⟩)) (s:=oZ13) ?_ ?_
       · replace h:=hoZ13
         obtain ⟨cZ11,h⟩ | ⟨cZ11,h⟩:=cond_s h
         · obtain ⟨cZ12,h⟩ | ⟨cZ12,h⟩:=cond_s h
           · cases h
             exact ZL (ZA cZ9 (ZA cZ10 (ZA cZ11 cZ12))) trivial
           · cases h
             exact ZL (ZA cZ9 (ZA cZ10 (ZA cZ11 cZ12))) trivial
         · cases h
           exact ZL (ZA cZ9 (ZA cZ10 cZ11)) trivial
       · simp only [ZC,A148R2]
         cases h
         exact ZL (ZA cZ9 cZ10) V148.eq_1
     · obtain ⟨rZ14,hrZ14,h⟩:=bind_s h
       refine ZF (ZA cZ9 cZ10) ?_
       refine ZS (ZA cZ9 cZ10) (w_bw _ _ hrZ14) ?_
       refine ZG ?_
       obtain ⟨cZ15,h⟩ | ⟨cZ15,h⟩:=cond_s h
       · obtain ⟨rZ16,hrZ16,h⟩:=bind_s h
         refine ZF (ZA cZ9 (ZA cZ10 cZ15)) ?_
         refine ZS (ZA cZ9 (ZA cZ10 cZ15)) (w_ca _ hrZ16) ?_
         refine ZG ?_
         obtain ⟨cZ17,h⟩ | ⟨cZ17,h⟩:=cond_s h
         · obtain ⟨cZ18,h⟩ | ⟨cZ18,h⟩:=cond_s h
           · obtain ⟨rZ19,hrZ19,h⟩:=bind_s h
             refine ZF (ZA cZ9 (ZA cZ10 (ZA cZ15 (ZA cZ17 cZ18)))) ?_
             refine ZS (ZA cZ9 (ZA cZ10 (ZA cZ15 (ZA cZ17 cZ18)))) (w_dc _ _ hrZ19) ?_
             refine ZG ?_
             obtain ⟨rZ20,hrZ20,h⟩:=bind_s h
             refine ZF (ZA cZ9 (ZA cZ10 (ZA cZ15 (ZA cZ17 cZ18)))) ?_
             refine ZS (ZA cZ9 (ZA cZ10 (ZA cZ15 (ZA cZ17 cZ18)))) (w_dc _ _ hrZ20) ?_
             refine ZG ?_
             obtain ⟨cZ21,h⟩ | ⟨cZ21,h⟩:=cond_s h
             · obtain ⟨rZ22,hrZ22,h⟩:=bind_s h
               refine ZF (ZA cZ9 (ZA cZ10 (ZA cZ15 (ZA cZ17 (ZA cZ18 cZ21))))) ?_
               refine ZS (ZA cZ9 (ZA cZ10 (ZA cZ15 (ZA cZ17 (ZA cZ18 cZ21))))) (w_cw _ _ _ hrZ22) ?_
               refine ZG ?_
               cases h
               exact ZL (ZA cZ9 (ZA cZ10 (ZA cZ15 (ZA cZ17 (ZA cZ18 cZ21))))) V148.eq_1
             · cases h
               exact ZL (ZA cZ9 (ZA cZ10 (ZA cZ15 (ZA cZ17 (ZA cZ18 cZ21))))) V148.eq_1
           · cases h
             exact ZL (ZA cZ9 (ZA cZ10 (ZA cZ15 (ZA cZ17 cZ18)))) V148.eq_1
         · cases h
           exact ZL (ZA cZ9 (ZA cZ10 (ZA cZ15 cZ17))) V148.eq_1
       · cases h
         exact ZL (ZA cZ9 (ZA cZ10 cZ15)) V148.eq_1
def S_z (rZ0:TRoute) (groupZ0:List Int) (v:Int):St:=⟨[(1,.lst .o 1 (groupZ0.map AV.i)),(2,.pt 2 0 0),(5,.i v)],[(2,.var (.agg [.i rZ0.Start,.lst .o 1 (rZ0.Fibers.map AV.i)]))]⟩
def SX_z (v:Unit):St:=⟨[],[]⟩
theorem w_z (rZ0:TRoute) (groupZ0:List Int) (sZ1:Int) (o:Int ⊕ (Unit ⊕ Bool)) (h:M_z rZ0 groupZ0 sZ1=some o):AWP (OkS Tryz.prog) A125L1 (qL [1,2,5] [2] (S_z rZ0 groupZ0) (qS (qX 0 [] [] (SX_z)) (qR V125 (fun r=>.b r))) o) (S_z rZ0 groupZ0 sZ1):=by
 unfold M_z at h
 simp only [ZC,S_z,A125L1]
 obtain ⟨cZ2,h⟩ | ⟨cZ2,h⟩:=cond_s h
 · obtain ⟨yZ3,hyZ3,h⟩:=bind_s h
   obtain ⟨hyZ3a,hyZ3b⟩:=geti_s hyZ3
   obtain ⟨rZ4,hrZ4,h⟩:=bind_s h
   refine ZF (ZA cZ2 (ZA hyZ3a hyZ3b)) ?_
   refine ZS (ZA cZ2 (ZA hyZ3a hyZ3b)) (w_cc _ _ hrZ4) ?_
   refine ZG ?_
   obtain ⟨cZ5,h⟩ | ⟨cZ5,h⟩:=cond_s h
   · cases h
     exact ZL (ZA cZ2 (ZA hyZ3a (ZA hyZ3b cZ5))) V125.eq_1
   · cases h
     exact ZL (ZA cZ2 (ZA hyZ3a (ZA hyZ3b cZ5))) (ZA S_z.eq_1 SX_z.eq_1)
 · cases h
   exact ZL cZ2 (ZA S_z.eq_1 SX_z.eq_1)
theorem w_cs (rZ0:TRoute) (groupZ0:List Int) {r:Bool} (h:M_cs rZ0 groupZ0=some r):Ok Tryz.prog 125 [.agg [.i rZ0.Start,.lst .o 1 (rZ0.Fibers.map AV.i)],.lst .o 1 (groupZ0.map AV.i)] ((fun r=>.b r) r):=by
 refine ok_of_body hmix m125 rfl ?_
 unfold M_cs at h
 simp only [ZC,A125,V125,body_eq]
 obtain ⟨oZ6,hoZ6,h⟩:=bind_s h
 try refine ZF trivial ?_
 refine join_rule (o:=oZ6) (blk_rule sideR (loop_rule (w_z rZ0 groupZ0) hoZ6 ?_)) (fun vZ7 hv=>?_) (fun xZ8 hv e τ hne hq=>?_)
 · exact ZK (ZA S_z.eq_1 SX_z.eq_1)
 · subst hv
   simp only [] at h
   simp only [ZC,SX_z,A125R2]
   cases h
   exact ZL trivial V125.eq_1
 · subst hv
   simp only [] at h
   obtain ⟨rfl,qZ9⟩:=hq
   cases h
   exact qZ9
theorem w_bq (bZ0:TBlock) {r:Int} (h:M_bq bZ0=some r):Ok Tryz.prog 167 [.agg [.i bZ0.First,.i bZ0.Count]] ((fun r=>.i r) r):=by
 refine ok_of_body hmix m167 rfl ?_
 unfold M_bq at h
 simp only [ZC,A167,V167,body_eq]
 obtain ⟨uZ1,huZ1,h⟩:=bind_s h
 have huZ1g:=grd_s huZ1
 obtain ⟨uZ2,huZ2,h⟩:=bind_s h
 have huZ2g:=grd_s huZ2
 cases h
 exact ZL (ZA huZ1g huZ2g) V167.eq_1
theorem w_bs (aZ0:TRoute) (xZ0:TBlock) (bZ0:TRoute) (yZ0:TBlock) {r:Bool} (h:M_bs aZ0 xZ0 bZ0 yZ0=some r):Ok Tryz.prog 196 [.agg [.i aZ0.Start,.lst .o 1 (aZ0.Fibers.map AV.i)],.agg [.i xZ0.First,.i xZ0.Count],.agg [.i bZ0.Start,.lst .o 1 (bZ0.Fibers.map AV.i)],.agg [.i yZ0.First,.i yZ0.Count]] ((fun r=>.b r) r):=by
 refine ok_of_body hmix m196 rfl ?_
 unfold M_bs at h
 simp only [ZC,A196,V196,body_eq]
 obtain ⟨rZ1,hrZ1,h⟩:=bind_s h
 refine ZF trivial ?_
 refine ZS trivial (w_cs _ _ hrZ1) ?_
 refine ZG ?_
 obtain ⟨cZ2,h⟩ | ⟨cZ2,h⟩:=cond_s h
 · obtain ⟨cZ3,h⟩ | ⟨cZ3,h⟩:=cond_s h
   · obtain ⟨cZ4,h⟩ | ⟨cZ4,h⟩:=cond_s h
     · obtain ⟨rZ5,hrZ5,h⟩:=bind_s h
       refine ZF (ZA cZ2 (ZA cZ3 cZ4)) ?_
       refine ZS (ZA cZ2 (ZA cZ3 cZ4)) (w_bq _ hrZ5) ?_
       refine ZG ?_
       obtain ⟨rZ6,hrZ6,h⟩:=bind_s h
       refine ZF (ZA cZ2 (ZA cZ3 cZ4)) ?_
       refine ZS (ZA cZ2 (ZA cZ3 cZ4)) (w_bq _ hrZ6) ?_
       refine ZG ?_
       cases h
       exact ZL (ZA cZ2 (ZA cZ3 cZ4)) V196.eq_1
     · cases h
       exact ZL (ZA cZ2 (ZA cZ3 cZ4)) V196.eq_1
   · cases h
     exact ZL (ZA cZ2 cZ3) V196.eq_1
 · cases h
   exact ZL cZ2 V196.eq_1
theorem w_ey (nZ0:TNetwork) (aZ0:TService) (bZ0:TService) {r:Bool} (h:M_ey nZ0 aZ0 bZ0=some r):Ok Tryz.prog 149 [.agg [.lst .o 1 (nZ0.Nodes.map AV.z),.lst .o 4 (nZ0.Fibers.map (e_TFiber .o))],.agg [.i aZ0.Id,.i aZ0.Class,.i aZ0.Work.Start,.lst .o 1 (aZ0.Work.Fibers.map AV.i),.i aZ0.WorkBlock.First,.i aZ0.WorkBlock.Count,.i aZ0.Spare.Start,.lst .o 1 (aZ0.Spare.Fibers.map AV.i),.i aZ0.SpareBlock.First,.i aZ0.SpareBlock.Count],.agg [.i bZ0.Id,.i bZ0.Class,.i bZ0.Work.Start,.lst .o 1 (bZ0.Work.Fibers.map AV.i),.i bZ0.WorkBlock.First,.i bZ0.WorkBlock.Count,.i bZ0.Spare.Start,.lst .o 1 (bZ0.Spare.Fibers.map AV.i),.i bZ0.SpareBlock.First,.i bZ0.SpareBlock.Count]] ((fun r=>.b r) r):=by
 refine ok_of_body hmix m149 rfl ?_
 unfold M_ey at h
 simp only [ZC,A149,V149,body_eq]
 obtain ⟨oZ6,hoZ6,h⟩:=bind_s h
 try refine ZF trivial ?_
 refine join_rule0 (sh:=(fun v=>⟨[(3,.pt 3 0 0),(4,.pt 4 0 0),(5,.pt 5 0 0),(37,.b v)],[(3,.var (.agg [.lst .o 1 (nZ0.Nodes.map AV.z),.lst .o 4 (nZ0.Fibers.map (e_TFiber .o))])),(4,.var (.agg [.i aZ0.Id,.i aZ0.Class,.i aZ0.Work.Start,.lst .o 1 (aZ0.Work.Fibers.map AV.i),.i aZ0.WorkBlock.First,.i aZ0.WorkBlock.Count,.i aZ0.Spare.Start,.lst .o 1 (aZ0.Spare.Fibers.map AV.i),.i aZ0.SpareBlock.First,.i aZ0.SpareBlock.Count])),(5,.var (.agg [.i bZ0.Id,.i bZ0.Class,.i bZ0.Work.Start,.lst .o 1 (bZ0.Work.Fibers.map AV.i),.i bZ0.WorkBlock.First,.i bZ0.WorkBlock.Count,.i bZ0.Spare.Start,.lst .o 1 (bZ0.Spare.Fibers.map AV.i),.i bZ0.SpareBlock.First,.i bZ0.SpareBlock.Count]))]⟩)) (s:=oZ6) ?_ ?_
 · replace h:=hoZ6
   obtain ⟨rZ1,hrZ1,h⟩:=bind_s h
   refine ZF trivial ?_
   refine ZS trivial (w_bs _ _ _ _ hrZ1) ?_
   refine ZG ?_
   obtain ⟨cZ2,h⟩ | ⟨cZ2,h⟩:=cond_s h
   · cases h
     exact ZL cZ2 trivial
   · obtain ⟨rZ3,hrZ3,h⟩:=bind_s h
     refine ZF cZ2 ?_
     refine ZS cZ2 (w_bs _ _ _ _ hrZ3) ?_
     refine ZG ?_
     obtain ⟨cZ4,h⟩ | ⟨cZ4,h⟩:=cond_s h
     · cases h
       exact ZL (ZA cZ2 cZ4) trivial
     · obtain ⟨rZ5,hrZ5,h⟩:=bind_s h
       refine ZF (ZA cZ2 cZ4) ?_
       refine ZS (ZA cZ2 cZ4) (w_bs _ _ _ _ hrZ5) ?_
       refine ZG ?_
       cases h
       exact ZL (ZA cZ2 cZ4) trivial
 · simp only [ZC,A149R1]
   obtain ⟨cZ7,h⟩ | ⟨cZ7,h⟩:=cond_s h
   · cases h
     exact ZL cZ7 V149.eq_1
   · obtain ⟨oZ11,hoZ11,h⟩:=bind_s h
     try refine ZF cZ7 ?_
     refine join_rule0 (sh:=(fun v=>⟨[(4,.pt 4 0 0),(5,.pt 5 0 0),(53,.b v)],[(4,.var (.agg [.i aZ0.Id,.i aZ0.Class,.i aZ0.Work.Start,.lst .o 1 (aZ0.Work.Fibers.map AV.i),.i aZ0.WorkBlock.First,.i aZ0.WorkBlock.Count,.i aZ0.Spare.Start,.lst .o 1 (aZ0.Spare.Fibers.map AV.i),.i aZ0.SpareBlock.First,.i aZ0.SpareBlock.Count])),(5,.var (.agg [.i bZ0.Id,.i bZ0.Class,.i bZ0.Work.Start,.lst .o 1 (bZ0.Work.Fibers.map AV.i),.i bZ0.WorkBlock.First,.i bZ0.WorkBlock.Count,.i bZ0.Spare.Start,.lst .o 1 (bZ0.Spare.Fibers.map AV.i),.i bZ0.SpareBlock.First,.i bZ0.SpareBlock.Count]))]⟩)) (s:=oZ11) ?_ ?_
     · replace h:=hoZ11
       obtain ⟨cZ8,h⟩ | ⟨cZ8,h⟩:=cond_s h
       · obtain ⟨cZ9,h⟩ | ⟨cZ9,h⟩:=cond_s h
         · obtain ⟨rZ10,hrZ10,h⟩:=bind_s h
           refine ZF (ZA cZ7 (ZA cZ8 cZ9)) ?_
           refine ZS (ZA cZ7 (ZA cZ8 cZ9)) (w_cw _ _ _ hrZ10) ?_
           refine ZG ?_
           cases h
           exact ZL (ZA cZ7 (ZA cZ8 cZ9)) trivial
         · cases h
           exact ZL (ZA cZ7 (ZA cZ8 cZ9)) trivial
       · cases h
         exact ZL (ZA cZ7 cZ8) trivial
     · simp only [ZC,A149R2]
       obtain ⟨cZ12,h⟩ | ⟨cZ12,h⟩:=cond_s h
       · cases h
         exact ZL (ZA cZ7 cZ12) V149.eq_1
       · obtain ⟨rZ13,hrZ13,h⟩:=bind_s h
         refine ZF (ZA cZ7 cZ12) ?_
         refine ZS (ZA cZ7 cZ12) (w_bs _ _ _ _ hrZ13) ?_
         refine ZG ?_
         cases h
         exact ZL (ZA cZ7 cZ12) V149.eq_1
def S_k (nZ0:TNetwork) (listZ0:List TService) (sZ5:Int) (v:Int):St:=⟨[(1,.lst .o 10 (listZ0.map (e_TService .o))),(2,.pt 2 0 0),(5,.i sZ5),(6,.i v)],[(2,.var (.agg [.lst .o 1 (nZ0.Nodes.map AV.z),.lst .o 4 (nZ0.Fibers.map (e_TFiber .o))]))]⟩
def SX_k (nZ0:TNetwork) (listZ0:List TService) (sZ5:Int) (v:Unit):St:=⟨[(1,.lst .o 10 (listZ0.map (e_TService .o))),(2,.pt 2 0 0),(5,.i sZ5)],[(2,.var (.agg [.lst .o 1 (nZ0.Nodes.map AV.z),.lst .o 4 (nZ0.Fibers.map (e_TFiber .o))]))]⟩
theorem w_k (nZ0:TNetwork) (listZ0:List TService) (sZ5:Int) (sZ14:Int) (o:Int ⊕ (Unit ⊕ Bool)) (h:M_k nZ0 listZ0 sZ5 sZ14=some o):AWP (OkS Tryz.prog) A88L3 (qL [1,2,5,6] [2] (S_k nZ0 listZ0 sZ5) (qS (qX 2 [1,2,5] [2] (SX_k nZ0 listZ0 sZ5)) (qR V88 (fun r=>.b r))) o) (S_k nZ0 listZ0 sZ5 sZ14):=by
 unfold M_k at h
 simp only [ZC,S_k,A88L3]
 obtain ⟨cZ15,h⟩ | ⟨cZ15,h⟩:=cond_s h
 · obtain ⟨yZ16,hyZ16,h⟩:=bind_s h
   obtain ⟨hyZ16a,hyZ16b⟩:=geti_s hyZ16
   obtain ⟨yZ17,hyZ17,h⟩:=bind_s h
   obtain ⟨hyZ17a,hyZ17b⟩:=geti_s hyZ17
   obtain ⟨rZ18,hrZ18,h⟩:=bind_s h
   refine ZF (ZA cZ15 (ZA hyZ16a (ZA hyZ16b (ZA hyZ17a hyZ17b)))) ?_
   refine ZS (ZA cZ15 (ZA hyZ16a (ZA hyZ16b (ZA hyZ17a hyZ17b)))) (w_ey _ _ _ hrZ18) ?_
   refine ZG ?_
   obtain ⟨cZ19,h⟩ | ⟨cZ19,h⟩:=cond_s h
   · cases h
     exact ZL (ZA cZ15 (ZA hyZ16a (ZA hyZ16b (ZA hyZ17a (ZA hyZ17b cZ19))))) V88.eq_1
   · cases h
     exact ZL (ZA cZ15 (ZA hyZ16a (ZA hyZ16b (ZA hyZ17a (ZA hyZ17b cZ19))))) (ZA S_k.eq_1 SX_k.eq_1)
 · cases h
   exact ZL cZ15 (ZA S_k.eq_1 SX_k.eq_1)
def S_aq (nZ0:TNetwork) (listZ0:List TService) (v:Int):St:=⟨[(1,.lst .o 10 (listZ0.map (e_TService .o))),(2,.pt 2 0 0),(5,.i v)],[(2,.var (.agg [.lst .o 1 (nZ0.Nodes.map AV.z),.lst .o 4 (nZ0.Fibers.map (e_TFiber .o))]))]⟩
def SX_aq (v:Unit):St:=⟨[],[]⟩
theorem w_aq (nZ0:TNetwork) (listZ0:List TService) (sZ5:Int) (o:Int ⊕ (Unit ⊕ Bool)) (h:M_aq nZ0 listZ0 sZ5=some o):AWP (OkS Tryz.prog) A88L5 (qL [1,2,5] [2] (S_aq nZ0 listZ0) (qS (qX 0 [] [] (SX_aq)) (qR V88 (fun r=>.b r))) o) (S_aq nZ0 listZ0 sZ5):=by
 unfold M_aq at h
 simp only [ZC,S_aq,A88L5]
 obtain ⟨cZ6,h⟩ | ⟨cZ6,h⟩:=cond_s h
 · obtain ⟨oZ25,hoZ25,h⟩:=bind_s h
   try refine ZF cZ6 ?_
   refine join_rule (sh:=(fun v=>⟨[(1,.lst .o 10 (listZ0.map (e_TService .o))),(2,.pt 2 0 0),(5,.i sZ5)],[(2,.var (.agg [.lst .o 1 (nZ0.Nodes.map AV.z),.lst .o 4 (nZ0.Fibers.map (e_TFiber .o))]))]⟩)) (q:=(qR V88 (fun r=>.b r))) (o:=oZ25) ?_ (fun vZ26 hv=>?_) (fun xZ27 hv e τ hne hq=>?_)
   · replace h:=hoZ25
     obtain ⟨oZ12,hoZ12,h⟩:=bind_s h
     try refine ZF cZ6 ?_
     refine join_rule0 (sh:=(fun v=>⟨[(1,.lst .o 10 (listZ0.map (e_TService .o))),(2,.pt 2 0 0),(5,.i sZ5),(45,.b v)],[(2,.var (.agg [.lst .o 1 (nZ0.Nodes.map AV.z),.lst .o 4 (nZ0.Fibers.map (e_TFiber .o))]))]⟩)) (s:=oZ12) ?_ ?_
     · replace h:=hoZ12
       obtain ⟨yZ7,hyZ7,h⟩:=bind_s h
       obtain ⟨hyZ7a,hyZ7b⟩:=geti_s hyZ7
       obtain ⟨rZ8,hrZ8,h⟩:=bind_s h
       refine ZF (ZA cZ6 (ZA hyZ7a hyZ7b)) ?_
       refine ZS (ZA cZ6 (ZA hyZ7a hyZ7b)) (w_ex _ _ hrZ8) ?_
       refine ZG ?_
       obtain ⟨cZ9,h⟩ | ⟨cZ9,h⟩:=cond_s h
       · cases h
         exact ZL (ZA cZ6 (ZA hyZ7a (ZA hyZ7b cZ9))) trivial
       · obtain ⟨cZ10,h⟩ | ⟨cZ10,h⟩:=cond_s h
         · obtain ⟨yZ11,hyZ11,h⟩:=bind_s h
           obtain ⟨hyZ11a,hyZ11b⟩:=geti_s hyZ11
           cases h
           exact ZL (ZA cZ6 (ZA hyZ7a (ZA hyZ7b (ZA cZ9 (ZA cZ10 (ZA hyZ11a hyZ11b)))))) trivial
         · cases h
           exact ZL (ZA cZ6 (ZA hyZ7a (ZA hyZ7b (ZA cZ9 cZ10)))) trivial
     · simp only [ZC,A88R2]
       obtain ⟨cZ13,h⟩ | ⟨cZ13,h⟩:=cond_s h
       · cases h
         exact ZL (ZA cZ6 cZ13) V88.eq_1
       · obtain ⟨oZ20,hoZ20,h⟩:=bind_s h
         try refine ZF (ZA cZ6 cZ13) ?_
         first | refine tail_rule (o:=oZ20) (blk_rule sideR (loop_rule (w_k nZ0 listZ0 sZ5) hoZ20 ?_)) (fun vZ21 hv τ qZ23=>?_) (fun xZ22 hv e τ hne hq=>?_) | refine tail_blk (o:=oZ20) sideR (loop_rule (w_k nZ0 listZ0 sZ5) hoZ20 ?_) (fun vZ21 hv τ qZ23=>?_) (fun xZ22 hv e τ hne hq=>?_)
         · exact ZK (ZA S_k.eq_1 SX_k.eq_1)
         · subst hv
           simp only [] at h
           cases h
           try refine ZF trivial ?_
           refine ⟨rfl,Shp.sub qZ23 (by decide) (by decide) ?_⟩
           exact ZK SX_k.eq_1
         · subst hv
           simp only [] at h
           obtain ⟨rfl,qZ24⟩:=hq
           cases h
           try refine ZF trivial ?_
           first | exact ⟨by simp,qZ24⟩ | exact ⟨by simp,rfl,qZ24⟩
   · subst hv
     simp only [] at h
     simp only [ZC,A88R4]
     cases h
     exact ZL cZ6 (ZA S_aq.eq_1 SX_aq.eq_1)
   · subst hv
     simp only [] at h
     obtain ⟨rfl,qZ28⟩:=hq
     cases h
     try refine ZF trivial ?_
     first | exact ⟨by simp,qZ28⟩ | exact ⟨by simp,rfl,qZ28⟩
 · cases h
   exact ZL cZ6 (ZA S_aq.eq_1 SX_aq.eq_1)
theorem w_dn (nZ0:TNetwork) (listZ0:List TService) {r:Bool} (h:M_dn nZ0 listZ0=some r):Ok Tryz.prog 88 [.agg [.lst .o 1 (nZ0.Nodes.map AV.z),.lst .o 4 (nZ0.Fibers.map (e_TFiber .o))],.lst .o 10 (listZ0.map (e_TService .o))] ((fun r=>.b r) r):=by
 refine ok_of_body hmix m88 rfl ?_
 unfold M_dn at h
 simp only [ZC,A88,V88,body_eq]
 obtain ⟨oZ3,hoZ3,h⟩:=bind_s h
 try refine ZF trivial ?_
 refine join_rule0 (sh:=(fun v=>⟨[(1,.lst .o 10 (listZ0.map (e_TService .o))),(2,.pt 2 0 0),(14,.b v)],[(2,.var (.agg [.lst .o 1 (nZ0.Nodes.map AV.z),.lst .o 4 (nZ0.Fibers.map (e_TFiber .o))]))]⟩)) (s:=oZ3) ?_ ?_
 · replace h:=hoZ3
   obtain ⟨rZ1,hrZ1,h⟩:=bind_s h
   refine ZF trivial ?_
   refine ZS trivial (w_cd _ hrZ1) ?_
   refine ZG ?_
   obtain ⟨cZ2,h⟩ | ⟨cZ2,h⟩:=cond_s h
   · cases h
     exact ZL cZ2 trivial
   · cases h
     exact ZL cZ2 trivial
 · simp only [ZC,A88R1]
   obtain ⟨cZ4,h⟩ | ⟨cZ4,h⟩:=cond_s h
   · cases h
     exact ZL cZ4 V88.eq_1
   · obtain ⟨oZ29,hoZ29,h⟩:=bind_s h
     try refine ZF cZ4 ?_
     refine join_rule (o:=oZ29) (blk_rule sideR (loop_rule (w_aq nZ0 listZ0) hoZ29 ?_)) (fun vZ30 hv=>?_) (fun xZ31 hv e τ hne hq=>?_)
     · exact ZK (ZA S_aq.eq_1 SX_aq.eq_1)
     · subst hv
       simp only [] at h
       simp only [ZC,SX_aq,A88R6]
       cases h
       exact ZL cZ4 V88.eq_1
     · subst hv
       simp only [] at h
       obtain ⟨rfl,qZ32⟩:=hq
       cases h
       exact qZ32
theorem w_cq (nZ0:TNetwork) {r:TNetwork} (h:M_cq nZ0=some r):Ok Tryz.prog 89 [.agg [.lst .o 1 (nZ0.Nodes.map AV.z),.lst .o 4 (nZ0.Fibers.map (e_TFiber .o))]] ((fun r=>.agg [.lst .u 1 (r.Nodes.map AV.z),.lst .u 4 (r.Fibers.map (e_TFiber .u))]) r):=by
 refine ok_of_body hmix m89 rfl ?_
 unfold M_cq at h
 simp only [ZC,A89,V89,body_eq]
 obtain ⟨uZ1,huZ1,h⟩:=bind_s h
 have huZ1g:=grd_s huZ1
 obtain ⟨uZ2,huZ2,h⟩:=bind_s h
 have huZ2g:=grd_s huZ2
 cases h
 exact ZL (ZA huZ1g huZ2g) V89.eq_1
theorem w_fx (lZ0:List Int) {r:List Int} (h:M_fx lZ0=some r):Ok Tryz.prog 194 [.lst .o 1 (lZ0.map AV.i)] ((fun r=>.lst .u 1 (r.map AV.i)) r):=by
 refine ok_of_body hmix m194 rfl ?_
 unfold M_fx at h
 simp only [ZC,A194,V194,body_eq]
 obtain ⟨uZ1,huZ1,h⟩:=bind_s h
 have huZ1g:=grd_s huZ1
 cases h
 exact ZL huZ1g V194.eq_1
theorem w_fw (rZ0:TRoute) {r:TRoute} (h:M_fw rZ0=some r):Ok Tryz.prog 193 [.agg [.i rZ0.Start,.lst .o 1 (rZ0.Fibers.map AV.i)]] ((fun r=>.agg [.i r.Start,.lst .u 1 (r.Fibers.map AV.i)]) r):=by
 refine ok_of_body hmix m193 rfl ?_
 unfold M_fw at h
 simp only [ZC,A193,V193,body_eq]
 obtain ⟨rZ1,hrZ1,h⟩:=bind_s h
 refine ZF trivial ?_
 refine ZU trivial (w_fx _ hrZ1) ?_
 refine ZG ?_
 cases h
 exact ZL trivial V193.eq_1
theorem w_cp (xZ0:TLight) {r:TLight} (h:M_cp xZ0=some r):Ok Tryz.prog 141 [.agg [.i xZ0.Id,.i xZ0.Route.Start,.lst .o 1 (xZ0.Route.Fibers.map AV.i),.i xZ0.Block.First,.i xZ0.Block.Count]] ((fun r=>.agg [.i r.Id,.i r.Route.Start,.lst .u 1 (r.Route.Fibers.map AV.i),.i r.Block.First,.i r.Block.Count]) r):=by
 refine ok_of_body hmix m141 rfl ?_
 unfold M_cp at h
 simp only [ZC,A141,V141,body_eq]
 obtain ⟨rZ1,hrZ1,h⟩:=bind_s h
 refine ZF trivial ?_
 refine ZU trivial (w_fw _ hrZ1) ?_
 refine ZG ?_
 cases h
 exact ZL trivial V141.eq_1
def S_y (pZ0:TPlan) (rZ1:TNetwork) (v:Int×List TLight):St:=⟨[(1,.pt 1 0 0),(2,.pt 2 0 0),(3,.pt 3 0 0),(4,.i v.1)],[(1,.var (.agg [.lst .o 1 (pZ0.Network.Nodes.map AV.z),.lst .o 4 (pZ0.Network.Fibers.map (e_TFiber .o)),.lst .o 5 (pZ0.Lights.map (e_TLight .o))])),(2,.var (.agg [.lst .u 1 [],.lst .u 4 [],.lst .u 5 []])),(3,.var (.agg [.sl 500000192 0 rZ1.Nodes.length,.sl 500000193 0 rZ1.Fibers.length,.sl 500000194 0 v.2.length])),(500000192,.arr 1 (rZ1.Nodes.map AV.z)),(500000193,.arr 4 (rZ1.Fibers.map (e_TFiber .u))),(500000194,.arr 5 (v.2.map (e_TLight .u)))]⟩
def SX_y (rZ1:TNetwork) (v:List TLight):St:=⟨[(2,.pt 2 0 0),(3,.pt 3 0 0)],[(2,.var (.agg [.lst .u 1 [],.lst .u 4 [],.lst .u 5 []])),(3,.var (.agg [.sl 500000192 0 rZ1.Nodes.length,.sl 500000193 0 rZ1.Fibers.length,.sl 500000194 0 v.length])),(500000192,.arr 1 (rZ1.Nodes.map AV.z)),(500000193,.arr 4 (rZ1.Fibers.map (e_TFiber .u))),(500000194,.arr 5 (v.map (e_TLight .u)))]⟩
theorem w_y (pZ0:TPlan) (rZ1:TNetwork) (sZ2:Int×List TLight) (o:(Int×List TLight) ⊕ (List TLight)) (h:M_y pZ0 sZ2=some o):AWP (OkS Tryz.prog) A75L1 (qL [1,2,3,4] [1,2,3,500000192,500000193,500000194] (S_y pZ0 rZ1) (qX 0 [2,3] [2,3,500000192,500000193,500000194] (SX_y rZ1)) o) (S_y pZ0 rZ1 sZ2):=by
 unfold M_y at h
 simp only [ZC,S_y,A75L1]
 obtain ⟨cZ3,h⟩ | ⟨cZ3,h⟩:=cond_s h
 · obtain ⟨yZ4,hyZ4,h⟩:=bind_s h
   obtain ⟨hyZ4a,hyZ4b⟩:=geti_s hyZ4
   obtain ⟨rZ5,hrZ5,h⟩:=bind_s h
   refine ZF (ZA cZ3 (ZA hyZ4a hyZ4b)) ?_
   refine ZU (ZA cZ3 (ZA hyZ4a hyZ4b)) (w_cp _ hrZ5) ?_
   refine ZG ?_
   obtain ⟨lZ6,hlZ6,h⟩:=bnd_s h
   have eZ7:Row.arr 5 [(.agg [.i rZ5.Id,.i rZ5.Route.Start,.lst .u 1 (rZ5.Route.Fibers.map AV.i),.i rZ5.Block.First,.i rZ5.Block.Count]:AV)]=Row.arr 5 (lZ6.map (e_TLight .u)):=by rw [← hlZ6]; rfl
   have jjZ8:lZ6.length=1:=by rw [← hlZ6]; rfl
   obtain ⟨uZ9,huZ9,h⟩:=bind_s h
   have huZ9g:=grd_s huZ9
   obtain ⟨lZ10,hlZ10,h⟩:=bnd_s h
   have eZ11:sZ2.2.map (e_TLight .u)++lZ6.map (e_TLight .u)=lZ10.map (e_TLight .u):=by rw [← hlZ10,List.map_append]
   have eZ12:sZ2.2.length+1=lZ10.length:=by simp [← hlZ6,← hlZ10] <;> omega
   rw [eZ12] at huZ9g
   cases h
   exact ZL (ZA cZ3 (ZA hyZ4a (ZA hyZ4b (ZA eZ7 (ZA jjZ8 (ZA huZ9g (ZA eZ11 eZ12))))))) (ZA S_y.eq_1 (ZA SX_y.eq_1 (ZA hlZ6.symm (ZA hlZ10.symm jjZ8))))
 · cases h
   exact ZL cZ3 (ZA S_y.eq_1 SX_y.eq_1)
theorem w_dk (pZ0:TPlan) {r:TPlan} (h:M_dk pZ0=some r):Ok Tryz.prog 75 [.agg [.lst .o 1 (pZ0.Network.Nodes.map AV.z),.lst .o 4 (pZ0.Network.Fibers.map (e_TFiber .o)),.lst .o 5 (pZ0.Lights.map (e_TLight .o))]] ((fun r=>.agg [.lst .u 1 (r.Network.Nodes.map AV.z),.lst .u 4 (r.Network.Fibers.map (e_TFiber .u)),.lst .u 5 (r.Lights.map (e_TLight .u))]) r):=by
 refine ok_of_body hmix m75 rfl ?_
 unfold M_dk at h
 simp only [ZC,A75,V75,body_eq]
 obtain ⟨rZ1,hrZ1,h⟩:=bind_s h
 refine ZF trivial ?_
 refine ZU trivial (w_cq _ hrZ1) ?_
 refine ZG ?_
 obtain ⟨oZ13,hoZ13,h⟩:=bind_s h
 try refine ZF trivial ?_
 refine join_rule0 (blk_rule0 (loop_rule (w_y pZ0 rZ1) hoZ13 ?_)) ?_
 · exact ZK (ZA S_y.eq_1 SX_y.eq_1)
 · simp only [ZC,SX_y,A75R2]
   cases h
   exact ZL trivial V75.eq_1
theorem w_ez (nZ0:TNetwork) (xZ0:TLight) {r:Bool} (h:M_ez nZ0 xZ0=some r):Ok Tryz.prog 139 [.agg [.lst .o 1 (nZ0.Nodes.map AV.z),.lst .o 4 (nZ0.Fibers.map (e_TFiber .o))],.agg [.i xZ0.Id,.i xZ0.Route.Start,.lst .o 1 (xZ0.Route.Fibers.map AV.i),.i xZ0.Block.First,.i xZ0.Block.Count]] ((fun r=>.b r) r):=by
 refine ok_of_body hmix m139 rfl ?_
 unfold M_ez at h
 simp only [ZC,A139,V139,body_eq]
 obtain ⟨rZ1,hrZ1,h⟩:=bind_s h
 refine ZF trivial ?_
 refine ZS trivial (w_b _ _ _ hrZ1) ?_
 refine ZG ?_
 obtain ⟨cZ2,h⟩ | ⟨cZ2,h⟩:=cond_s h
 · obtain ⟨rZ3,hrZ3,h⟩:=bind_s h
   refine ZF cZ2 ?_
   refine ZS cZ2 (w_bw _ _ hrZ3) ?_
   refine ZG ?_
   obtain ⟨cZ4,h⟩ | ⟨cZ4,h⟩:=cond_s h
   · obtain ⟨rZ5,hrZ5,h⟩:=bind_s h
     refine ZF (ZA cZ2 cZ4) ?_
     refine ZS (ZA cZ2 cZ4) (w_ca _ hrZ5) ?_
     refine ZG ?_
     cases h
     exact ZL (ZA cZ2 cZ4) V139.eq_1
   · cases h
     exact ZL (ZA cZ2 cZ4) V139.eq_1
 · cases h
   exact ZL cZ2 V139.eq_1
theorem w_fa (xZ0:TLight) (yZ0:TLight) {r:Bool} (h:M_fa xZ0 yZ0=some r):Ok Tryz.prog 140 [.agg [.i xZ0.Id,.i xZ0.Route.Start,.lst .o 1 (xZ0.Route.Fibers.map AV.i),.i xZ0.Block.First,.i xZ0.Block.Count],.agg [.i yZ0.Id,.i yZ0.Route.Start,.lst .o 1 (yZ0.Route.Fibers.map AV.i),.i yZ0.Block.First,.i yZ0.Block.Count]] ((fun r=>.b r) r):=by
 refine ok_of_body hmix m140 rfl ?_
 unfold M_fa at h
 simp only [ZC,A140,V140,body_eq]
 obtain ⟨rZ1,hrZ1,h⟩:=bind_s h
 refine ZF trivial ?_
 refine ZS trivial (w_cs _ _ hrZ1) ?_
 refine ZG ?_
 obtain ⟨cZ2,h⟩ | ⟨cZ2,h⟩:=cond_s h
 · obtain ⟨rZ3,hrZ3,h⟩:=bind_s h
   refine ZF cZ2 ?_
   refine ZS cZ2 (w_bq _ hrZ3) ?_
   refine ZG ?_
   obtain ⟨rZ4,hrZ4,h⟩:=bind_s h
   refine ZF cZ2 ?_
   refine ZS cZ2 (w_bq _ hrZ4) ?_
   refine ZG ?_
   cases h
   exact ZL cZ2 V140.eq_1
 · cases h
   exact ZL cZ2 V140.eq_1
def S_l (pZ0:TPlan) (sZ5:Int) (v:Int):St:=⟨[(1,.pt 1 0 0),(3,.i sZ5),(4,.i v)],[(1,.var (.agg [.lst .o 1 (pZ0.Network.Nodes.map AV.z),.lst .o 4 (pZ0.Network.Fibers.map (e_TFiber .o)),.lst .o 5 (pZ0.Lights.map (e_TLight .o))]))]⟩
def SX_l (pZ0:TPlan) (sZ5:Int) (v:Unit):St:=⟨[(1,.pt 1 0 0),(3,.i sZ5)],[(1,.var (.agg [.lst .o 1 (pZ0.Network.Nodes.map AV.z),.lst .o 4 (pZ0.Network.Fibers.map (e_TFiber .o)),.lst .o 5 (pZ0.Lights.map (e_TLight .o))]))]⟩
theorem w_l (pZ0:TPlan) (sZ5:Int) (sZ14:Int) (o:Int ⊕ (Unit ⊕ Bool)) (h:M_l pZ0 sZ5 sZ14=some o):AWP (OkS Tryz.prog) A74L3 (qL [1,3,4] [1] (S_l pZ0 sZ5) (qS (qX 2 [1,3] [1] (SX_l pZ0 sZ5)) (qR V74 (fun r=>.b r))) o) (S_l pZ0 sZ5 sZ14):=by
 unfold M_l at h
 simp only [ZC,S_l,A74L3]
 obtain ⟨cZ15,h⟩ | ⟨cZ15,h⟩:=cond_s h
 · obtain ⟨yZ16,hyZ16,h⟩:=bind_s h
   obtain ⟨hyZ16a,hyZ16b⟩:=geti_s hyZ16
   obtain ⟨yZ17,hyZ17,h⟩:=bind_s h
   obtain ⟨hyZ17a,hyZ17b⟩:=geti_s hyZ17
   obtain ⟨rZ18,hrZ18,h⟩:=bind_s h
   refine ZF (ZA cZ15 (ZA hyZ16a (ZA hyZ16b (ZA hyZ17a hyZ17b)))) ?_
   refine ZS (ZA cZ15 (ZA hyZ16a (ZA hyZ16b (ZA hyZ17a hyZ17b)))) (w_fa _ _ hrZ18) ?_
   refine ZG ?_
   obtain ⟨cZ19,h⟩ | ⟨cZ19,h⟩:=cond_s h
   · cases h
     exact ZL (ZA cZ15 (ZA hyZ16a (ZA hyZ16b (ZA hyZ17a (ZA hyZ17b cZ19))))) V74.eq_1
   · cases h
     exact ZL (ZA cZ15 (ZA hyZ16a (ZA hyZ16b (ZA hyZ17a (ZA hyZ17b cZ19))))) (ZA S_l.eq_1 SX_l.eq_1)
 · cases h
   exact ZL cZ15 (ZA S_l.eq_1 SX_l.eq_1)
def S_ar (pZ0:TPlan) (v:Int):St:=⟨[(1,.pt 1 0 0),(3,.i v)],[(1,.var (.agg [.lst .o 1 (pZ0.Network.Nodes.map AV.z),.lst .o 4 (pZ0.Network.Fibers.map (e_TFiber .o)),.lst .o 5 (pZ0.Lights.map (e_TLight .o))]))]⟩
def SX_ar (v:Unit):St:=⟨[],[]⟩
theorem w_ar (pZ0:TPlan) (sZ5:Int) (o:Int ⊕ (Unit ⊕ Bool)) (h:M_ar pZ0 sZ5=some o):AWP (OkS Tryz.prog) A74L5 (qL [1,3] [1] (S_ar pZ0) (qS (qX 0 [] [] (SX_ar)) (qR V74 (fun r=>.b r))) o) (S_ar pZ0 sZ5):=by
 unfold M_ar at h
 simp only [ZC,S_ar,A74L5]
 obtain ⟨cZ6,h⟩ | ⟨cZ6,h⟩:=cond_s h
 · obtain ⟨oZ25,hoZ25,h⟩:=bind_s h
   try refine ZF cZ6 ?_
   refine join_rule (sh:=(fun v=>⟨[(1,.pt 1 0 0),(3,.i sZ5)],[(1,.var (.agg [.lst .o 1 (pZ0.Network.Nodes.map AV.z),.lst .o 4 (pZ0.Network.Fibers.map (e_TFiber .o)),.lst .o 5 (pZ0.Lights.map (e_TLight .o))]))]⟩)) (q:=(qR V74 (fun r=>.b r))) (o:=oZ25) ?_ (fun vZ26 hv=>?_) (fun xZ27 hv e τ hne hq=>?_)
   · replace h:=hoZ25
     obtain ⟨oZ12,hoZ12,h⟩:=bind_s h
     try refine ZF cZ6 ?_
     refine join_rule0 (sh:=(fun v=>⟨[(1,.pt 1 0 0),(3,.i sZ5),(50,.b v)],[(1,.var (.agg [.lst .o 1 (pZ0.Network.Nodes.map AV.z),.lst .o 4 (pZ0.Network.Fibers.map (e_TFiber .o)),.lst .o 5 (pZ0.Lights.map (e_TLight .o))]))]⟩)) (s:=oZ12) ?_ ?_
     · replace h:=hoZ12
       obtain ⟨yZ7,hyZ7,h⟩:=bind_s h
       obtain ⟨hyZ7a,hyZ7b⟩:=geti_s hyZ7
       obtain ⟨rZ8,hrZ8,h⟩:=bind_s h
       refine ZF (ZA cZ6 (ZA hyZ7a hyZ7b)) ?_
       refine ZS (ZA cZ6 (ZA hyZ7a hyZ7b)) (w_ez _ _ hrZ8) ?_
       refine ZG ?_
       obtain ⟨cZ9,h⟩ | ⟨cZ9,h⟩:=cond_s h
       · cases h
         exact ZL (ZA cZ6 (ZA hyZ7a (ZA hyZ7b cZ9))) trivial
       · obtain ⟨cZ10,h⟩ | ⟨cZ10,h⟩:=cond_s h
         · obtain ⟨yZ11,hyZ11,h⟩:=bind_s h
           obtain ⟨hyZ11a,hyZ11b⟩:=geti_s hyZ11
           cases h
           exact ZL (ZA cZ6 (ZA hyZ7a (ZA hyZ7b (ZA cZ9 (ZA cZ10 (ZA hyZ11a hyZ11b)))))) trivial
         · cases h
           exact ZL (ZA cZ6 (ZA hyZ7a (ZA hyZ7b (ZA cZ9 cZ10)))) trivial
     · simp only [ZC,A74R2]
       obtain ⟨cZ13,h⟩ | ⟨cZ13,h⟩:=cond_s h
       · cases h
         exact ZL (ZA cZ6 cZ13) V74.eq_1
       · obtain ⟨oZ20,hoZ20,h⟩:=bind_s h
         try refine ZF (ZA cZ6 cZ13) ?_
         first | refine tail_rule (o:=oZ20) (blk_rule sideR (loop_rule (w_l pZ0 sZ5) hoZ20 ?_)) (fun vZ21 hv τ qZ23=>?_) (fun xZ22 hv e τ hne hq=>?_) | refine tail_blk (o:=oZ20) sideR (loop_rule (w_l pZ0 sZ5) hoZ20 ?_) (fun vZ21 hv τ qZ23=>?_) (fun xZ22 hv e τ hne hq=>?_)
         · exact ZK (ZA S_l.eq_1 SX_l.eq_1)
         · subst hv
           simp only [] at h
           cases h
           try refine ZF trivial ?_
           refine ⟨rfl,Shp.sub qZ23 (by decide) (by decide) ?_⟩
           exact ZK SX_l.eq_1
         · subst hv
           simp only [] at h
           obtain ⟨rfl,qZ24⟩:=hq
           cases h
           try refine ZF trivial ?_
           first | exact ⟨by simp,qZ24⟩ | exact ⟨by simp,rfl,qZ24⟩
   · subst hv
     simp only [] at h
     simp only [ZC,A74R4]
     cases h
     exact ZL cZ6 (ZA S_ar.eq_1 SX_ar.eq_1)
   · subst hv
     simp only [] at h
     obtain ⟨rfl,qZ28⟩:=hq
     cases h
     try refine ZF trivial ?_
     first | exact ⟨by simp,qZ28⟩ | exact ⟨by simp,rfl,qZ28⟩
 · cases h
   exact ZL cZ6 (ZA S_ar.eq_1 SX_ar.eq_1)
theorem w_do (pZ0:TPlan) {r:Bool} (h:M_do pZ0=some r):Ok Tryz.prog 74 [.agg [.lst .o 1 (pZ0.Network.Nodes.map AV.z),.lst .o 4 (pZ0.Network.Fibers.map (e_TFiber .o)),.lst .o 5 (pZ0.Lights.map (e_TLight .o))]] ((fun r=>.b r) r):=by
 refine ok_of_body hmix m74 rfl ?_
 unfold M_do at h
 simp only [ZC,A74,V74,body_eq]
 obtain ⟨oZ3,hoZ3,h⟩:=bind_s h
 try refine ZF trivial ?_
 refine join_rule0 (sh:=(fun v=>⟨[(1,.pt 1 0 0),(14,.b v)],[(1,.var (.agg [.lst .o 1 (pZ0.Network.Nodes.map AV.z),.lst .o 4 (pZ0.Network.Fibers.map (e_TFiber .o)),.lst .o 5 (pZ0.Lights.map (e_TLight .o))]))]⟩)) (s:=oZ3) ?_ ?_
 · replace h:=hoZ3
   obtain ⟨rZ1,hrZ1,h⟩:=bind_s h
   refine ZF trivial ?_
   refine ZS trivial (w_cd _ hrZ1) ?_
   refine ZG ?_
   obtain ⟨cZ2,h⟩ | ⟨cZ2,h⟩:=cond_s h
   · cases h
     exact ZL cZ2 trivial
   · cases h
     exact ZL cZ2 trivial
 · simp only [ZC,A74R1]
   obtain ⟨cZ4,h⟩ | ⟨cZ4,h⟩:=cond_s h
   · cases h
     exact ZL cZ4 V74.eq_1
   · obtain ⟨oZ29,hoZ29,h⟩:=bind_s h
     try refine ZF cZ4 ?_
     refine join_rule (o:=oZ29) (blk_rule sideR (loop_rule (w_ar pZ0) hoZ29 ?_)) (fun vZ30 hv=>?_) (fun xZ31 hv e τ hne hq=>?_)
     · exact ZK (ZA S_ar.eq_1 SX_ar.eq_1)
     · subst hv
       simp only [] at h
       simp only [ZC,SX_ar,A74R6]
       cases h
       exact ZL cZ4 V74.eq_1
     · subst hv
       simp only [] at h
       obtain ⟨rfl,qZ32⟩:=hq
       cases h
       exact qZ32
def S_u (aaZ0:TLight) (abZ0:List ByteArray) (acZ0:List TFiber) (adZ0:List TLight) (rZ1:TPlan) (v:Int):St:=⟨[(3,.pt 3 0 0),(4,.pt 4 0 0),(5,.pt 5 0 0),(6,.i v)],[(3,.var (.agg [.i ((aaZ0).Id),.i (((aaZ0).Route).Start),.lst .m 1 ((((aaZ0).Route).Fibers).map AV.i),.i (((aaZ0).Block).First),.i (((aaZ0).Block).Count)])),(4,.var (.agg [.lst .u 1 [],.lst .u 4 [],.lst .u 5 []])),(5,.var (.agg [.sl 8 0 rZ1.Network.Nodes.length,.sl 1008 0 rZ1.Network.Fibers.length,.sl 2008 0 rZ1.Lights.length])),(8,.arr 1 (rZ1.Network.Nodes.map AV.z)),(1008,.arr 4 (rZ1.Network.Fibers.map (e_TFiber .u))),(2008,.arr 5 (rZ1.Lights.map (e_TLight .u))),(1000000000,.arr 1 (abZ0.map AV.z)),(1000000001,.arr 4 (acZ0.map (e_TFiber .u))),(1000000002,.arr 5 (adZ0.map (e_TLight .m)))]⟩
def SX_u (aaZ0:TLight) (abZ0:List ByteArray) (acZ0:List TFiber) (adZ0:List TLight) (rZ1:TPlan) (v:Int):St:=⟨[(3,.pt 3 0 0),(4,.pt 4 0 0),(5,.pt 5 0 0),(6,.i v)],[(3,.var (.agg [.i ((aaZ0).Id),.i (((aaZ0).Route).Start),.lst .m 1 ((((aaZ0).Route).Fibers).map AV.i),.i (((aaZ0).Block).First),.i (((aaZ0).Block).Count)])),(4,.var (.agg [.lst .u 1 [],.lst .u 4 [],.lst .u 5 []])),(5,.var (.agg [.sl 8 0 rZ1.Network.Nodes.length,.sl 1008 0 rZ1.Network.Fibers.length,.sl 2008 0 rZ1.Lights.length])),(8,.arr 1 (rZ1.Network.Nodes.map AV.z)),(1008,.arr 4 (rZ1.Network.Fibers.map (e_TFiber .u))),(2008,.arr 5 (rZ1.Lights.map (e_TLight .u))),(1000000000,.arr 1 (abZ0.map AV.z)),(1000000001,.arr 4 (acZ0.map (e_TFiber .u))),(1000000002,.arr 5 (adZ0.map (e_TLight .m)))]⟩
theorem w_u (aaZ0:TLight) (abZ0:List ByteArray) (acZ0:List TFiber) (adZ0:List TLight) (rZ1:TPlan) (sZ2:Int) (o:Int ⊕ Int) (h:M_u aaZ0 rZ1 sZ2=some o):AWP (OkS Tryz.prog) A90M6L1 (qL [3,4,5,6] [3,4,5,8,1008,2008,1000000000,1000000001,1000000002] (S_u aaZ0 abZ0 acZ0 adZ0 rZ1) (qX 0 [3,4,5,6] [3,4,5,8,1008,2008,1000000000,1000000001,1000000002] (SX_u aaZ0 abZ0 acZ0 adZ0 rZ1)) o) (S_u aaZ0 abZ0 acZ0 adZ0 rZ1 sZ2):=by
 unfold M_u at h
 simp only [ZC,S_u,A90M6L1]
 obtain ⟨cZ3,h⟩ | ⟨cZ3,h⟩:=cond_s h
 · obtain ⟨kZ4,hkZ4,h⟩:=bind_s h
   obtain ⟨hkZ4a,hkZ4b⟩:=grd_s hkZ4
   obtain ⟨yZ5,hyZ5,h⟩:=bind_s h
   obtain ⟨cZ6,h⟩ | ⟨cZ6,h⟩:=cond_s h
   · cases h
     exact ZL (ZA cZ3 (ZA hkZ4a (ZA hkZ4b (ZA hyZ5 cZ6)))) (ZA S_u.eq_1 SX_u.eq_1)
   · cases h
     exact ZL (ZA cZ3 (ZA hkZ4a (ZA hkZ4b (ZA hyZ5 cZ6)))) (ZA S_u.eq_1 SX_u.eq_1)
 · cases h
   exact ZL cZ3 (ZA S_u.eq_1 SX_u.eq_1)
theorem w_bx (aaZ0:TLight) (abZ0:List ByteArray) (acZ0:List TFiber) (adZ0:List TLight) {r:List ByteArray×List TLight×List TFiber×List ByteArray×List TFiber×List TLight} (h:M_bx aaZ0 abZ0 acZ0 adZ0=some r):OkM Tryz.prog 90 [.agg [.sl 1000000000 0 abZ0.length,.sl 1000000001 0 acZ0.length,.sl 1000000002 0 adZ0.length],.agg [.i ((aaZ0).Id),.i (((aaZ0).Route).Start),.lst .m 1 ((((aaZ0).Route).Fibers).map AV.i),.i (((aaZ0).Block).First),.i (((aaZ0).Block).Count)]] [(1000000000,.arr 1 (abZ0.map AV.z)),(1000000001,.arr 4 (acZ0.map (e_TFiber .u))),(1000000002,.arr 5 (adZ0.map (e_TLight .m)))] ((fun (r:List ByteArray×List TLight×List TFiber×List ByteArray×List TFiber×List TLight)=>.agg [.sl 8 0 r.1.length,.sl 1008 0 r.2.2.1.length,.sl 41 0 r.2.1.length]) r) ((fun (r:List ByteArray×List TLight×List TFiber×List ByteArray×List TFiber×List TLight)=>[(8,.arr 1 (r.1.map AV.z)),(41,.arr 5 (r.2.1.map (e_TLight .m))),(1008,.arr 4 (r.2.2.1.map (e_TFiber .u))),(1000000000,.arr 1 (r.2.2.2.1.map AV.z)),(1000000001,.arr 4 (r.2.2.2.2.1.map (e_TFiber .u))),(1000000002,.arr 5 (r.2.2.2.2.2.map (e_TLight .m)))]) r):=by
 refine okM_of_body (lr:=[8,41,1008,1000000000,1000000001,1000000002]) hmix m90M6 rfl rfl ?_
 unfold M_bx at h
 simp only [ZC,A90M6,V90M6]
 obtain ⟨rZ1,hrZ1,h⟩:=bind_s h
 refine ZF trivial ?_
 refine ZU trivial (w_dk _ hrZ1) ?_
 refine ZG ?_
 obtain ⟨oZ7,hoZ7,h⟩:=bind_s h
 try refine ZF trivial ?_
 refine join_rule0 (blk_rule0 (loop_rule (w_u aaZ0 abZ0 acZ0 adZ0 rZ1) hoZ7 ?_)) ?_
 · exact ZK (ZA S_u.eq_1 SX_u.eq_1)
 · simp only [ZC,SX_u,A90M6R2]
   obtain ⟨uZ8,huZ8,h⟩:=bind_s h
   obtain ⟨huZ8a,huZ8b,huZ8c,huZ8d⟩:=grd_s huZ8
   obtain ⟨lZ9,hlZ9,h⟩:=bnd_s h
   have eZ10:sub (rZ1.Lights.map (e_TLight .u)) 0 (Int.toNat oZ7)=lZ9.map (e_TLight .u):=by rw [sub_mapT,hlZ9]
   obtain ⟨uZ11,huZ11,h⟩:=bind_s h
   have huZ11g:=grd_s huZ11
   obtain ⟨rZ12,hrZ12,h⟩:=bind_s h
   refine ZF (ZA huZ8a (ZA huZ8b (ZA huZ8c (ZA huZ8d (ZA eZ10 huZ11g))))) ?_
   refine ZU (ZA huZ8a (ZA huZ8b (ZA huZ8c (ZA huZ8d (ZA eZ10 huZ11g))))) (w_cp _ hrZ12) ?_
   refine ZG ?_
   obtain ⟨lZ13,hlZ13,h⟩:=bnd_s h
   have eZ14:Row.arr 5 [(.agg [.i rZ12.Id,.i rZ12.Route.Start,.lst .u 1 (rZ12.Route.Fibers.map AV.i),.i rZ12.Block.First,.i rZ12.Block.Count]:AV)]=Row.arr 5 (lZ13.map (e_TLight .u)):=by rw [← hlZ13]; rfl
   have jjZ15:lZ13.length=1:=by rw [← hlZ13]; rfl
   obtain ⟨uZ16,huZ16,h⟩:=bind_s h
   have huZ16g:=grd_s huZ16
   obtain ⟨lZ17,hlZ17,h⟩:=bnd_s h
   have eZ18:lZ9.map (e_TLight .m)++lZ13.map (e_TLight .m)=lZ17.map (e_TLight .m):=by rw [← hlZ17,List.map_append]
   have eZ19:lZ9.length+1=lZ17.length:=by simp [← hlZ13,← hlZ17] <;> omega
   rw [eZ19] at huZ16g
   obtain ⟨uZ20,huZ20,h⟩:=bind_s h
   obtain ⟨huZ20a,huZ20b,huZ20c,huZ20d⟩:=grd_s huZ20
   obtain ⟨lZ21,hlZ21,h⟩:=bnd_s h
   have eZ22:sub (rZ1.Lights.map (e_TLight .u)) (Int.toNat oZ7) (rZ1.Lights.length - (Int.toNat oZ7))=lZ21.map (e_TLight .u):=by rw [sub_mapT,hlZ21]
   have nZ23:sub (lZ9.map (e_TLight .m)++lZ13.map (e_TLight .u)) 0 lZ17.length=lZ9.map (e_TLight .m)++lZ13.map (e_TLight .u):=if_pos ⟨rfl,by simp [← hlZ13,← hlZ17]⟩
   obtain ⟨uZ24,huZ24,h⟩:=bind_s h
   have huZ24g:=grd_s huZ24
   obtain ⟨lZ25,hlZ25,h⟩:=bnd_s h
   have eZ26:lZ17.map (e_TLight .m)++lZ21.map (e_TLight .m)=lZ25.map (e_TLight .m):=by rw [← hlZ25,List.map_append]
   have eZ27:lZ17.length+lZ21.length=lZ25.length:=by simp [← hlZ13,← hlZ17,← hlZ25] <;> omega
   rw [eZ27] at huZ24g
   cases h
   exact ZL (ZA huZ8a (ZA huZ8b (ZA huZ8c (ZA huZ8d (ZA eZ10 (ZA huZ11g (ZA eZ14 (ZA jjZ15 (ZA huZ16g (ZA eZ18 (ZA eZ19 (ZA huZ20a (ZA huZ20b (ZA huZ20c (ZA huZ20d (ZA eZ22 (ZA nZ23 (ZA huZ24g (ZA eZ26 eZ27))))))))))))))))))) (ZA V90M6.eq_1 (ZA hlZ13.symm (ZA hlZ17.symm (ZA hlZ25.symm jjZ15))))
def S_v (aaZ0:List ByteArray) (abZ0:List TFiber) (acZ0:List TService) (v:Int×List ByteArray×List TFiber×List TLight):St:=⟨[(1,.sl 1000000002 0 acZ0.length),(4,.pt 4 0 0),(6,.pt 6 0 0),(7,.i v.1)],[(4,.var (.agg [.lst .u 1 [],.lst .u 4 [],.lst .u 5 []])),(6,.var (.agg [.sl 500000384 0 v.2.1.length,.sl 500000385 0 v.2.2.1.length,.sl 500000386 0 v.2.2.2.length])),(500000384,.arr 1 (v.2.1.map AV.z)),(500000385,.arr 4 (v.2.2.1.map (e_TFiber .u))),(500000386,.arr 5 (v.2.2.2.map (e_TLight .m))),(1000000000,.arr 1 (aaZ0.map AV.z)),(1000000001,.arr 4 (abZ0.map (e_TFiber .u))),(1000000002,.arr 10 (acZ0.map (e_TService .u)))]⟩
def SX_v (aaZ0:List ByteArray) (abZ0:List TFiber) (acZ0:List TService) (v:List ByteArray×List TFiber×List TLight):St:=⟨[(4,.pt 4 0 0),(6,.pt 6 0 0)],[(4,.var (.agg [.lst .u 1 [],.lst .u 4 [],.lst .u 5 []])),(6,.var (.agg [.sl 500000384 0 v.1.length,.sl 500000385 0 v.2.1.length,.sl 500000386 0 v.2.2.length])),(500000384,.arr 1 (v.1.map AV.z)),(500000385,.arr 4 (v.2.1.map (e_TFiber .u))),(500000386,.arr 5 (v.2.2.map (e_TLight .m))),(1000000000,.arr 1 (aaZ0.map AV.z)),(1000000001,.arr 4 (abZ0.map (e_TFiber .u))),(1000000002,.arr 10 (acZ0.map (e_TService .u)))]⟩
theorem w_v (aaZ0:List ByteArray) (abZ0:List TFiber) (acZ0:List TService) (sZ4:Int×List ByteArray×List TFiber×List TLight) (o:(Int×List ByteArray×List TFiber×List TLight) ⊕ ((List ByteArray×List TFiber×List TLight) ⊕ (Bool×List ByteArray×List TFiber×List TLight×List ByteArray×List TFiber×List TService))) (h:M_v aaZ0 abZ0 acZ0 sZ4=some o):AWP (OkS Tryz.prog) A36M1L1 (qL [1,4,6,7] [4,6,500000384,500000385,500000386,1000000000,1000000001,1000000002] (S_v aaZ0 abZ0 acZ0) (qS (qX 0 [4,6] [4,6,500000384,500000385,500000386,1000000000,1000000001,1000000002] (SX_v aaZ0 abZ0 acZ0)) (qM V36M1 [500000256,500000257,500000258,1000000000,1000000001,1000000002] (fun (r:Bool×List ByteArray×List TFiber×List TLight×List ByteArray×List TFiber×List TService)=>.tup [.agg [.sl 500000256 0 r.2.1.length,.sl 500000257 0 r.2.2.1.length,.sl 500000258 0 r.2.2.2.1.length],.b r.1]) (fun (r:Bool×List ByteArray×List TFiber×List TLight×List ByteArray×List TFiber×List TService)=>[(500000256,.arr 1 (r.2.1.map AV.z)),(500000257,.arr 4 (r.2.2.1.map (e_TFiber .u))),(500000258,.arr 5 (r.2.2.2.1.map (e_TLight .m))),(1000000000,.arr 1 (r.2.2.2.2.1.map AV.z)),(1000000001,.arr 4 (r.2.2.2.2.2.1.map (e_TFiber .u))),(1000000002,.arr 10 (r.2.2.2.2.2.2.map (e_TService .u)))]))) o) (S_v aaZ0 abZ0 acZ0 sZ4):=by
 unfold M_v at h
 simp only [ZC,S_v,A36M1L1]
 obtain ⟨cZ5,h⟩ | ⟨cZ5,h⟩:=cond_s h
 · obtain ⟨kZ6,hkZ6,h⟩:=bind_s h
   obtain ⟨hkZ6a,hkZ6b⟩:=grd_s hkZ6
   obtain ⟨yZ7,hyZ7,h⟩:=bind_s h
   obtain ⟨cZ8,h⟩ | ⟨cZ8,h⟩:=cond_s h
   · cases h
     exact ZL (ZA cZ5 (ZA hkZ6a (ZA hkZ6b (ZA hyZ7 cZ8)))) V36M1.eq_1
   · obtain ⟨rZ9,hrZ9,h⟩:=bind_s h
     refine ZF (ZA cZ5 (ZA hkZ6a (ZA hkZ6b (ZA hyZ7 cZ8)))) ?_
     refine ZW (ZA cZ5 (ZA hkZ6a (ZA hkZ6b (ZA hyZ7 cZ8)))) (w_bx _ _ _ _ hrZ9) (h2:=by first | exact nm_ok [8,41,1008,1000000000,1000000001,1000000002] rfl (by decide +kernel) | exact nm_ok2 [8,41,1008,1000000000,1000000001,1000000002] [4000008,4000041,4001008] rfl (by decide +kernel) ZQ | exact ZQ) (hk:=?_)
     refine ZG ?_
     obtain ⟨cZ10,h⟩ | ⟨cZ10,h⟩:=cond_s h
     · obtain ⟨rZ11,hrZ11,h⟩:=bind_s h
       refine ZF (ZA cZ5 (ZA hkZ6a (ZA hkZ6b (ZA hyZ7 (ZA cZ8 cZ10))))) ?_
       refine ZW (ZA cZ5 (ZA hkZ6a (ZA hkZ6b (ZA hyZ7 (ZA cZ8 cZ10))))) (w_bx _ _ _ _ hrZ11) (h2:=by first | exact nm_ok [8,41,1008,1000000000,1000000001,1000000002] rfl (by decide +kernel) | exact nm_ok2 [8,41,1008,1000000000,1000000001,1000000002] [5300008,5300041,5301008] rfl (by decide +kernel) ZQ | exact ZQ) (hk:=?_)
       refine ZG ?_
       cases h
       exact ZL (ZA cZ5 (ZA hkZ6a (ZA hkZ6b (ZA hyZ7 (ZA cZ8 cZ10))))) (ZA S_v.eq_1 SX_v.eq_1)
     · cases h
       exact ZL (ZA cZ5 (ZA hkZ6a (ZA hkZ6b (ZA hyZ7 (ZA cZ8 cZ10))))) (ZA S_v.eq_1 SX_v.eq_1)
 · cases h
   exact ZL cZ5 (ZA S_v.eq_1 SX_v.eq_1)
theorem w_fb (aaZ0:List ByteArray) (abZ0:List TFiber) (acZ0:List TService) {r:Bool×List ByteArray×List TFiber×List TLight×List ByteArray×List TFiber×List TService} (h:M_fb aaZ0 abZ0 acZ0=some r):OkM Tryz.prog 36 [.agg [.sl 1000000000 0 aaZ0.length,.sl 1000000001 0 abZ0.length],.sl 1000000002 0 acZ0.length] [(1000000000,.arr 1 (aaZ0.map AV.z)),(1000000001,.arr 4 (abZ0.map (e_TFiber .u))),(1000000002,.arr 10 (acZ0.map (e_TService .u)))] ((fun (r:Bool×List ByteArray×List TFiber×List TLight×List ByteArray×List TFiber×List TService)=>.tup [.agg [.sl 500000256 0 r.2.1.length,.sl 500000257 0 r.2.2.1.length,.sl 500000258 0 r.2.2.2.1.length],.b r.1]) r) ((fun (r:Bool×List ByteArray×List TFiber×List TLight×List ByteArray×List TFiber×List TService)=>[(500000256,.arr 1 (r.2.1.map AV.z)),(500000257,.arr 4 (r.2.2.1.map (e_TFiber .u))),(500000258,.arr 5 (r.2.2.2.1.map (e_TLight .m))),(1000000000,.arr 1 (r.2.2.2.2.1.map AV.z)),(1000000001,.arr 4 (r.2.2.2.2.2.1.map (e_TFiber .u))),(1000000002,.arr 10 (r.2.2.2.2.2.2.map (e_TService .u)))]) r):=by
 refine okM_of_body (lr:=[500000256,500000257,500000258,1000000000,1000000001,1000000002]) hmix m36M1 rfl rfl ?_
 unfold M_fb at h
 simp only [ZC,A36M1,V36M1]
 obtain ⟨rZ1,hrZ1,h⟩:=bind_s h
 refine ZF trivial ?_
 refine ZS trivial (w_dn _ _ hrZ1) ?_
 refine ZG ?_
 obtain ⟨cZ2,h⟩ | ⟨cZ2,h⟩:=cond_s h
 · cases h
   exact ZL cZ2 V36M1.eq_1
 · obtain ⟨rZ3,hrZ3,h⟩:=bind_s h
   refine ZF cZ2 ?_
   refine ZU cZ2 (w_cq _ hrZ3) ?_
   refine ZG ?_
   obtain ⟨oZ12,hoZ12,h⟩:=bind_s h
   try refine ZF cZ2 ?_
   refine join_rule (o:=oZ12) (blk_rule sideM (loop_rule (w_v aaZ0 abZ0 acZ0) hoZ12 ?_)) (fun vZ13 hv=>?_) (fun xZ14 hv e τ hne hq=>?_)
   · exact ZK (ZA S_v.eq_1 SX_v.eq_1)
   · subst hv
     simp only [] at h
     simp only [ZC,SX_v,A36M1R2]
     obtain ⟨rZ15,hrZ15,h⟩:=bind_s h
     refine ZF cZ2 ?_
     refine ZS cZ2 (w_do _ hrZ15) ?_
     refine ZG ?_
     obtain ⟨cZ16,h⟩ | ⟨cZ16,h⟩:=cond_s h
     · cases h
       exact ZL (ZA cZ2 cZ16) V36M1.eq_1
     · cases h
       exact ZL (ZA cZ2 cZ16) V36M1.eq_1
   · subst hv
     simp only [] at h
     obtain ⟨rfl,qZ17⟩:=hq
     cases h
     exact qZ17
theorem w_c (nZ0:Int) (lowZ0:Int) (highZ0:Int) {r:Bool} (h:M_c nZ0 lowZ0 highZ0=some r):Ok Tryz.prog 132 [.i nZ0,.i lowZ0,.i highZ0] ((fun r=>.b r) r):=by
 refine ok_of_body hmix m132 rfl ?_
 unfold M_c at h
 simp only [ZC,A132,V132,body_eq]
 obtain ⟨cZ1,h⟩ | ⟨cZ1,h⟩:=cond_s h
 · cases h
   exact ZL cZ1 V132.eq_1
 · cases h
   exact ZL cZ1 V132.eq_1
def S_m (sZ0:ByteArray) (v:Int):St:=⟨[(0,.z sZ0),(7,.i (sZ0.size:Int)),(8,.i v)],[]⟩
def SX_m (sZ0:ByteArray) (v:Unit):St:=⟨[(0,.z sZ0)],[]⟩
theorem w_m (sZ0:ByteArray) (sZ1:Int) (o:Int ⊕ (Unit ⊕ Bool)) (h:M_m sZ0 sZ1=some o):AWP (OkS Tryz.prog) A180L2 (qL [0,7,8] [] (S_m sZ0) (qS (qX 0 [0] [] (SX_m sZ0)) (qR V180 (fun r=>.b r))) o) (S_m sZ0 sZ1):=by
 unfold M_m at h
 simp only [ZC,S_m,A180L2]
 obtain ⟨cZ2,h⟩ | ⟨cZ2,h⟩:=cond_s h
 · obtain ⟨oZ7,hoZ7,h⟩:=bind_s h
   try refine ZF cZ2 ?_
   refine join_rule0 (sh:=(fun v=>⟨[(0,.z sZ0),(3,.i sZ1),(4,.b v.1),(5,.b v.2),(7,.i (sZ0.size:Int)),(8,.i sZ1)],[]⟩)) (s:=oZ7) ?_ ?_
   · replace h:=hoZ7
     obtain ⟨yZ3,hyZ3,h⟩:=bind_s h
     obtain ⟨hyZ3a,hyZ3b⟩:=getz_s hyZ3
     obtain ⟨cZ4,h⟩ | ⟨cZ4,h⟩:=cond_s h
     · obtain ⟨cZ5,h⟩ | ⟨cZ5,h⟩:=cond_s h
       · cases h
         exact ZL (ZA cZ2 (ZA hyZ3a (ZA hyZ3b (ZA cZ4 cZ5)))) trivial
       · cases h
         exact ZL (ZA cZ2 (ZA hyZ3a (ZA hyZ3b (ZA cZ4 cZ5)))) trivial
     · obtain ⟨cZ6,h⟩ | ⟨cZ6,h⟩:=cond_s h
       · cases h
         exact ZL (ZA cZ2 (ZA hyZ3a (ZA hyZ3b (ZA cZ4 cZ6)))) trivial
       · cases h
         exact ZL (ZA cZ2 (ZA hyZ3a (ZA hyZ3b (ZA cZ4 cZ6)))) trivial
   · simp only [ZC,A180R1]
     obtain ⟨cZ8,h⟩ | ⟨cZ8,h⟩:=cond_s h
     · obtain ⟨cZ9,h⟩ | ⟨cZ9,h⟩:=cond_s h
       · cases h
         exact ZL (ZA cZ2 (ZA cZ8 cZ9)) V180.eq_1
       · obtain ⟨cZ10,h⟩ | ⟨cZ10,h⟩:=cond_s h
         · cases h
           exact ZL (ZA cZ2 (ZA cZ8 (ZA cZ9 cZ10))) V180.eq_1
         · cases h
           exact ZL (ZA cZ2 (ZA cZ8 (ZA cZ9 cZ10))) (ZA S_m.eq_1 SX_m.eq_1)
     · cases h
       exact ZL (ZA cZ2 cZ8) (ZA S_m.eq_1 SX_m.eq_1)
 · cases h
   exact ZL cZ2 (ZA S_m.eq_1 SX_m.eq_1)
theorem w_fc (sZ0:ByteArray) {r:Bool} (h:M_fc sZ0=some r):Ok Tryz.prog 180 [.z sZ0] ((fun r=>.b r) r):=by
 refine ok_of_body hmix m180 rfl ?_
 unfold M_fc at h
 simp only [ZC,A180,V180,body_eq]
 obtain ⟨oZ11,hoZ11,h⟩:=bind_s h
 try refine ZF trivial ?_
 refine join_rule (o:=oZ11) (blk_rule sideR (loop_rule (w_m sZ0) hoZ11 ?_)) (fun vZ12 hv=>?_) (fun xZ13 hv e τ hne hq=>?_)
 · exact ZK (ZA S_m.eq_1 SX_m.eq_1)
 · subst hv
   simp only [] at h
   simp only [ZC,SX_m,A180R3]
   obtain ⟨rZ14,hrZ14,h⟩:=bind_s h
   refine ZF trivial ?_
   refine ZS trivial (w_c _ _ _ hrZ14) ?_
   refine ZG ?_
   cases h
   exact ZL trivial V180.eq_1
 · subst hv
   simp only [] at h
   obtain ⟨rfl,qZ15⟩:=hq
   cases h
   exact qZ15
def S_as (sZ0:List ByteArray) (vZ0:ByteArray) (v:Int):St:=⟨[(0,.lst .o 1 (sZ0.map AV.z)),(1,.z vZ0),(7,.i (sZ0.length:Int)),(8,.i v)],[]⟩
def SX_as (v:Unit):St:=⟨[],[]⟩
theorem w_as (sZ0:List ByteArray) (vZ0:ByteArray) (sZ1:Int) (o:Int ⊕ (Unit ⊕ Int)) (h:M_as sZ0 vZ0 sZ1=some o):AWP (OkS Tryz.prog) A221L1 (qL [0,1,7,8] [] (S_as sZ0 vZ0) (qS (qX 0 [] [] (SX_as)) (qR V221 (fun r=>.i r))) o) (S_as sZ0 vZ0 sZ1):=by
 unfold M_as at h
 simp only [ZC,S_as,A221L1]
 obtain ⟨cZ2,h⟩ | ⟨cZ2,h⟩:=cond_s h
 · obtain ⟨yZ3,hyZ3,h⟩:=bind_s h
   obtain ⟨hyZ3a,hyZ3b⟩:=geti_s hyZ3
   obtain ⟨cZ4,h⟩ | ⟨cZ4,h⟩:=cond_s h
   · cases h
     exact ZL (ZA cZ2 (ZA hyZ3a (ZA hyZ3b cZ4))) V221.eq_1
   · cases h
     exact ZL (ZA cZ2 (ZA hyZ3a (ZA hyZ3b cZ4))) (ZA S_as.eq_1 SX_as.eq_1)
 · cases h
   exact ZL cZ2 (ZA S_as.eq_1 SX_as.eq_1)
theorem w_gb (sZ0:List ByteArray) (vZ0:ByteArray) {r:Int} (h:M_gb sZ0 vZ0=some r):Ok Tryz.prog 221 [.lst .o 1 (sZ0.map AV.z),.z vZ0] ((fun r=>.i r) r):=by
 refine ok_of_body hmix m221 rfl ?_
 unfold M_gb at h
 simp only [ZC,A221,V221,body_eq]
 obtain ⟨oZ5,hoZ5,h⟩:=bind_s h
 try refine ZF trivial ?_
 refine join_rule (o:=oZ5) (blk_rule sideR (loop_rule (w_as sZ0 vZ0) hoZ5 ?_)) (fun vZ6 hv=>?_) (fun xZ7 hv e τ hne hq=>?_)
 · exact ZK (ZA S_as.eq_1 SX_as.eq_1)
 · subst hv
   simp only [] at h
   simp only [ZC,SX_as,A221R2]
   cases h
   exact ZL trivial V221.eq_1
 · subst hv
   simp only [] at h
   obtain ⟨rfl,qZ8⟩:=hq
   cases h
   exact qZ8
theorem w_fd (sZ0:List ByteArray) (vZ0:ByteArray) {r:Bool} (h:M_fd sZ0 vZ0=some r):Ok Tryz.prog 181 [.lst .o 1 (sZ0.map AV.z),.z vZ0] ((fun r=>.b r) r):=by
 refine ok_of_body hmix m181 rfl ?_
 unfold M_fd at h
 simp only [ZC,A181,V181,body_eq]
 obtain ⟨rZ1,hrZ1,h⟩:=bind_s h
 refine ZF trivial ?_
 refine ZS trivial (w_gb _ _ hrZ1) ?_
 refine ZG ?_
 cases h
 exact ZL trivial V181.eq_1
theorem w_bt (xZ0:Int) {r:Bool} (h:M_bt xZ0=some r):Ok Tryz.prog 233 [.i xZ0] ((fun r=>.b r) r):=by
 refine ok_of_body hmix m233 rfl ?_
 unfold M_bt at h
 simp only [ZC,A233,V233,body_eq]
 cases h
 exact ZL trivial V233.eq_1
theorem w_by (xZ0:Int) (yZ0:Int) {r:Int} (h:M_by xZ0 yZ0=some r):Ok Tryz.prog 223 [.i xZ0,.i yZ0] ((fun r=>.i r) r):=by
 refine ok_of_body hmix m223 rfl ?_
 unfold M_by at h
 simp only [ZC,A223,V223,body_eq]
 obtain ⟨rZ1,hrZ1,h⟩:=bind_s h
 refine ZF trivial ?_
 refine ZS trivial (w_bt _ hrZ1) ?_
 refine ZG ?_
 obtain ⟨rZ2,hrZ2,h⟩:=bind_s h
 refine ZF trivial ?_
 refine ZS trivial (w_bt _ hrZ2) ?_
 refine ZG ?_
 obtain ⟨cZ3,h⟩ | ⟨cZ3,h⟩:=cond_s h
 · obtain ⟨cZ4,h⟩ | ⟨cZ4,h⟩:=cond_s h
   · cases h
     exact ZL (ZA cZ3 cZ4) V223.eq_1
   · cases h
     exact ZL (ZA cZ3 cZ4) V223.eq_1
 · obtain ⟨cZ5,h⟩ | ⟨cZ5,h⟩:=cond_s h
   · cases h
     exact ZL (ZA cZ3 cZ5) V223.eq_1
   · obtain ⟨cZ6,h⟩ | ⟨cZ6,h⟩:=cond_s h
     · cases h
       exact ZL (ZA cZ3 (ZA cZ5 cZ6)) V223.eq_1
     · obtain ⟨cZ7,h⟩ | ⟨cZ7,h⟩:=cond_s h
       · cases h
         exact ZL (ZA cZ3 (ZA cZ5 (ZA cZ6 cZ7))) V223.eq_1
       · cases h
         exact ZL (ZA cZ3 (ZA cZ5 (ZA cZ6 cZ7))) V223.eq_1
def S_at (valsZ0:List Int) (v:Int):St:=⟨[(3,.i 0),(6,.lst .o 1 (valsZ0.map AV.i)),(7,.i (valsZ0.length:Int)),(8,.i v)],[]⟩
def SX_at (v:Unit):St:=⟨[(3,.i 0)],[]⟩
theorem w_at (valsZ0:List Int) (sZ1:Int) (o:Int ⊕ (Unit ⊕ Int)) (h:M_at valsZ0 sZ1=some o):AWP (OkS Tryz.prog) A222L1 (qL [3,6,7,8] [] (S_at valsZ0) (qS (qX 0 [3] [] (SX_at)) (qR V222 (fun r=>.i r))) o) (S_at valsZ0 sZ1):=by
 unfold M_at at h
 simp only [ZC,S_at,A222L1]
 obtain ⟨cZ2,h⟩ | ⟨cZ2,h⟩:=cond_s h
 · obtain ⟨yZ3,hyZ3,h⟩:=bind_s h
   obtain ⟨hyZ3a,hyZ3b⟩:=geti_s hyZ3
   obtain ⟨cZ4,h⟩ | ⟨cZ4,h⟩:=cond_s h
   · cases h
     exact ZL (ZA cZ2 (ZA hyZ3a (ZA hyZ3b cZ4))) V222.eq_1
   · cases h
     exact ZL (ZA cZ2 (ZA hyZ3a (ZA hyZ3b cZ4))) (ZA S_at.eq_1 SX_at.eq_1)
 · cases h
   exact ZL cZ2 (ZA S_at.eq_1 SX_at.eq_1)
theorem w_gc (valsZ0:List Int) {r:Int} (h:M_gc valsZ0=some r):Ok Tryz.prog 222 [.lst .o 1 (valsZ0.map AV.i)] ((fun r=>.i r) r):=by
 refine ok_of_body hmix m222 rfl ?_
 unfold M_gc at h
 simp only [ZC,A222,V222,body_eq]
 obtain ⟨oZ5,hoZ5,h⟩:=bind_s h
 try refine ZF trivial ?_
 refine join_rule (o:=oZ5) (blk_rule sideR (loop_rule (w_at valsZ0) hoZ5 ?_)) (fun vZ6 hv=>?_) (fun xZ7 hv e τ hne hq=>?_)
 · exact ZK (ZA S_at.eq_1 SX_at.eq_1)
 · subst hv
   simp only [] at h
   simp only [ZC,SX_at,A222R2]
   cases h
   exact ZL trivial V222.eq_1
 · subst hv
   simp only [] at h
   obtain ⟨rfl,qZ8⟩:=hq
   cases h
   exact qZ8
theorem w_fe (aZ0:TFiber) (bZ0:TFiber) {r:Int} (h:M_fe aZ0 bZ0=some r):Ok Tryz.prog 182 [.agg [.i aZ0.A,.i aZ0.B,.i aZ0.Length,.i aZ0.Risk],.agg [.i bZ0.A,.i bZ0.B,.i bZ0.Length,.i bZ0.Risk]] ((fun r=>.i r) r):=by
 refine ok_of_body hmix m182 rfl ?_
 unfold M_fe at h
 simp only [ZC,A182,V182,body_eq]
 obtain ⟨rZ1,hrZ1,h⟩:=bind_s h
 refine ZF trivial ?_
 refine ZS trivial (w_by _ _ hrZ1) ?_
 refine ZG ?_
 obtain ⟨rZ2,hrZ2,h⟩:=bind_s h
 refine ZF trivial ?_
 refine ZS trivial (w_by _ _ hrZ2) ?_
 refine ZG ?_
 obtain ⟨rZ3,hrZ3,h⟩:=bind_s h
 refine ZF trivial ?_
 refine ZS trivial (w_by _ _ hrZ3) ?_
 refine ZG ?_
 obtain ⟨rZ4,hrZ4,h⟩:=bind_s h
 refine ZF trivial ?_
 refine ZS trivial (w_by _ _ hrZ4) ?_
 refine ZG ?_
 obtain ⟨lZ5,hlZ5,h⟩:=bnd_s h
 have eZ6:Row.arr 1 [(.i rZ1:AV),(.i rZ2:AV),(.i rZ3:AV),(.i rZ4:AV)]=Row.arr 1 (lZ5.map AV.i):=by rw [← hlZ5]; rfl
 have jjZ7:lZ5.length=4:=by rw [← hlZ5]; rfl
 have nZ8:sub (lZ5.map AV.i) 0 4=lZ5.map AV.i:=sub_n _ (by simp [← hlZ5])
 obtain ⟨rZ9,hrZ9,h⟩:=bind_s h
 refine ZF (ZA eZ6 (ZA jjZ7 nZ8)) ?_
 refine ZS (ZA eZ6 (ZA jjZ7 nZ8)) (w_gc _ hrZ9) ?_
 refine ZG ?_
 cases h
 exact ZL (ZA eZ6 (ZA jjZ7 nZ8)) (ZA V182.eq_1 (ZA hlZ5.symm jjZ7))
def S_ae (nZ0:TNetwork) (v:Int):St:=⟨[(1,.pt 1 0 0),(8,.lst .o 1 (nZ0.Nodes.map AV.z)),(9,.i (nZ0.Nodes.length:Int)),(10,.i v)],[(1,.var (.agg [.lst .o 1 (nZ0.Nodes.map AV.z),.lst .o 4 (nZ0.Fibers.map (e_TFiber .o))]))]⟩
def SX_ae (nZ0:TNetwork) (v:Unit):St:=⟨[(1,.pt 1 0 0)],[(1,.var (.agg [.lst .o 1 (nZ0.Nodes.map AV.z),.lst .o 4 (nZ0.Fibers.map (e_TFiber .o))]))]⟩
theorem w_ae (nZ0:TNetwork) (sZ1:Int) (o:Int ⊕ (Unit ⊕ Bool)) (h:M_ae nZ0 sZ1=some o):AWP (OkS Tryz.prog) A128L1 (qL [1,8,9,10] [1] (S_ae nZ0) (qS (qX 0 [1] [1] (SX_ae nZ0)) (qR V128 (fun r=>.b r))) o) (S_ae nZ0 sZ1):=by
 unfold M_ae at h
 simp only [ZC,S_ae,A128L1]
 obtain ⟨cZ2,h⟩ | ⟨cZ2,h⟩:=cond_s h
 · obtain ⟨yZ3,hyZ3,h⟩:=bind_s h
   obtain ⟨hyZ3a,hyZ3b⟩:=geti_s hyZ3
   obtain ⟨rZ4,hrZ4,h⟩:=bind_s h
   refine ZF (ZA cZ2 (ZA hyZ3a hyZ3b)) ?_
   refine ZS (ZA cZ2 (ZA hyZ3a hyZ3b)) (w_fc _ hrZ4) ?_
   refine ZG ?_
   obtain ⟨cZ5,h⟩ | ⟨cZ5,h⟩:=cond_s h
   · cases h
     exact ZL (ZA cZ2 (ZA hyZ3a (ZA hyZ3b cZ5))) V128.eq_1
   · obtain ⟨lZ6,hlZ6,h⟩:=bind_s h
     obtain ⟨hlZ6a,hlZ6b,hlZ6c,hlZ6d,hlZ6e⟩:=slT_s AV.z hlZ6
     obtain ⟨rZ7,hrZ7,h⟩:=bind_s h
     refine ZF (ZA cZ2 (ZA hyZ3a (ZA hyZ3b (ZA cZ5 (ZA hlZ6a (ZA hlZ6b (ZA hlZ6c (ZA hlZ6d hlZ6e)))))))) ?_
     refine ZS (ZA cZ2 (ZA hyZ3a (ZA hyZ3b (ZA cZ5 (ZA hlZ6a (ZA hlZ6b (ZA hlZ6c (ZA hlZ6d hlZ6e)))))))) (w_fd _ _ hrZ7) ?_
     refine ZG ?_
     obtain ⟨cZ8,h⟩ | ⟨cZ8,h⟩:=cond_s h
     · cases h
       exact ZL (ZA cZ2 (ZA hyZ3a (ZA hyZ3b (ZA cZ5 (ZA hlZ6a (ZA hlZ6b (ZA hlZ6c (ZA hlZ6d (ZA hlZ6e cZ8))))))))) V128.eq_1
     · cases h
       exact ZL (ZA cZ2 (ZA hyZ3a (ZA hyZ3b (ZA cZ5 (ZA hlZ6a (ZA hlZ6b (ZA hlZ6c (ZA hlZ6d (ZA hlZ6e cZ8))))))))) (ZA S_ae.eq_1 SX_ae.eq_1)
 · cases h
   exact ZL cZ2 (ZA S_ae.eq_1 SX_ae.eq_1)
def S_i (nZ0:TNetwork) (v:Int):St:=⟨[(1,.pt 1 0 0),(28,.lst .o 4 (nZ0.Fibers.map (e_TFiber .o))),(29,.i (nZ0.Fibers.length:Int)),(30,.i v)],[(1,.var (.agg [.lst .o 1 (nZ0.Nodes.map AV.z),.lst .o 4 (nZ0.Fibers.map (e_TFiber .o))]))]⟩
def SX_i (nZ0:TNetwork) (v:Unit):St:=⟨[(1,.pt 1 0 0)],[(1,.var (.agg [.lst .o 1 (nZ0.Nodes.map AV.z),.lst .o 4 (nZ0.Fibers.map (e_TFiber .o))]))]⟩
theorem w_i (nZ0:TNetwork) (sZ12:Int) (o:Int ⊕ (Unit ⊕ Bool)) (h:M_i nZ0 sZ12=some o):AWP (OkS Tryz.prog) A128L3 (qL [1,28,29,30] [1] (S_i nZ0) (qS (qX 2 [1] [1] (SX_i nZ0)) (qR V128 (fun r=>.b r))) o) (S_i nZ0 sZ12):=by
 unfold M_i at h
 simp only [ZC,S_i,A128L3]
 obtain ⟨cZ13,h⟩ | ⟨cZ13,h⟩:=cond_s h
 · obtain ⟨yZ14,hyZ14,h⟩:=bind_s h
   obtain ⟨hyZ14a,hyZ14b⟩:=geti_s hyZ14
   obtain ⟨cZ15,h⟩ | ⟨cZ15,h⟩:=cond_s h
   · cases h
     exact ZL (ZA cZ13 (ZA hyZ14a (ZA hyZ14b cZ15))) V128.eq_1
   · obtain ⟨cZ16,h⟩ | ⟨cZ16,h⟩:=cond_s h
     · cases h
       exact ZL (ZA cZ13 (ZA hyZ14a (ZA hyZ14b (ZA cZ15 cZ16)))) V128.eq_1
     · obtain ⟨cZ17,h⟩ | ⟨cZ17,h⟩:=cond_s h
       · cases h
         exact ZL (ZA cZ13 (ZA hyZ14a (ZA hyZ14b (ZA cZ15 (ZA cZ16 cZ17))))) V128.eq_1
       · obtain ⟨rZ18,hrZ18,h⟩:=bind_s h
         refine ZF (ZA cZ13 (ZA hyZ14a (ZA hyZ14b (ZA cZ15 (ZA cZ16 cZ17))))) ?_
         refine ZS (ZA cZ13 (ZA hyZ14a (ZA hyZ14b (ZA cZ15 (ZA cZ16 cZ17))))) (w_c _ _ _ hrZ18) ?_
         refine ZG ?_
         obtain ⟨cZ19,h⟩ | ⟨cZ19,h⟩:=cond_s h
         · cases h
           exact ZL (ZA cZ13 (ZA hyZ14a (ZA hyZ14b (ZA cZ15 (ZA cZ16 (ZA cZ17 cZ19)))))) V128.eq_1
         · obtain ⟨rZ20,hrZ20,h⟩:=bind_s h
           refine ZF (ZA cZ13 (ZA hyZ14a (ZA hyZ14b (ZA cZ15 (ZA cZ16 (ZA cZ17 cZ19)))))) ?_
           refine ZS (ZA cZ13 (ZA hyZ14a (ZA hyZ14b (ZA cZ15 (ZA cZ16 (ZA cZ17 cZ19)))))) (w_c _ _ _ hrZ20) ?_
           refine ZG ?_
           obtain ⟨cZ21,h⟩ | ⟨cZ21,h⟩:=cond_s h
           · cases h
             exact ZL (ZA cZ13 (ZA hyZ14a (ZA hyZ14b (ZA cZ15 (ZA cZ16 (ZA cZ17 (ZA cZ19 cZ21))))))) V128.eq_1
           · obtain ⟨cZ22,h⟩ | ⟨cZ22,h⟩:=cond_s h
             · obtain ⟨yZ23,hyZ23,h⟩:=bind_s h
               obtain ⟨hyZ23a,hyZ23b⟩:=geti_s hyZ23
               obtain ⟨rZ24,hrZ24,h⟩:=bind_s h
               refine ZF (ZA cZ13 (ZA hyZ14a (ZA hyZ14b (ZA cZ15 (ZA cZ16 (ZA cZ17 (ZA cZ19 (ZA cZ21 (ZA cZ22 (ZA hyZ23a hyZ23b)))))))))) ?_
               refine ZS (ZA cZ13 (ZA hyZ14a (ZA hyZ14b (ZA cZ15 (ZA cZ16 (ZA cZ17 (ZA cZ19 (ZA cZ21 (ZA cZ22 (ZA hyZ23a hyZ23b)))))))))) (w_fe _ _ hrZ24) ?_
               refine ZG ?_
               obtain ⟨cZ25,h⟩ | ⟨cZ25,h⟩:=cond_s h
               · cases h
                 exact ZL (ZA cZ13 (ZA hyZ14a (ZA hyZ14b (ZA cZ15 (ZA cZ16 (ZA cZ17 (ZA cZ19 (ZA cZ21 (ZA cZ22 (ZA hyZ23a (ZA hyZ23b cZ25))))))))))) V128.eq_1
               · cases h
                 exact ZL (ZA cZ13 (ZA hyZ14a (ZA hyZ14b (ZA cZ15 (ZA cZ16 (ZA cZ17 (ZA cZ19 (ZA cZ21 (ZA cZ22 (ZA hyZ23a (ZA hyZ23b cZ25))))))))))) (ZA S_i.eq_1 SX_i.eq_1)
             · cases h
               exact ZL (ZA cZ13 (ZA hyZ14a (ZA hyZ14b (ZA cZ15 (ZA cZ16 (ZA cZ17 (ZA cZ19 (ZA cZ21 cZ22)))))))) (ZA S_i.eq_1 SX_i.eq_1)
 · cases h
   exact ZL cZ13 (ZA S_i.eq_1 SX_i.eq_1)
theorem w_cx (nZ0:TNetwork) {r:Bool} (h:M_cx nZ0=some r):Ok Tryz.prog 128 [.agg [.lst .o 1 (nZ0.Nodes.map AV.z),.lst .o 4 (nZ0.Fibers.map (e_TFiber .o))]] ((fun r=>.b r) r):=by
 refine ok_of_body hmix m128 rfl ?_
 unfold M_cx at h
 simp only [ZC,A128,V128,body_eq]
 obtain ⟨oZ9,hoZ9,h⟩:=bind_s h
 try refine ZF trivial ?_
 refine join_rule (o:=oZ9) (blk_rule sideR (loop_rule (w_ae nZ0) hoZ9 ?_)) (fun vZ10 hv=>?_) (fun xZ11 hv e τ hne hq=>?_)
 · exact ZK (ZA S_ae.eq_1 SX_ae.eq_1)
 · subst hv
   simp only [] at h
   simp only [ZC,SX_ae,A128R2]
   obtain ⟨oZ26,hoZ26,h⟩:=bind_s h
   try refine ZF trivial ?_
   refine join_rule (o:=oZ26) (blk_rule sideR (loop_rule (w_i nZ0) hoZ26 ?_)) (fun vZ27 hv=>?_) (fun xZ28 hv e τ hne hq=>?_)
   · exact ZK (ZA S_i.eq_1 SX_i.eq_1)
   · subst hv
     simp only [] at h
     simp only [ZC,SX_i,A128R4]
     obtain ⟨rZ29,hrZ29,h⟩:=bind_s h
     refine ZF trivial ?_
     refine ZS trivial (w_c _ _ _ hrZ29) ?_
     refine ZG ?_
     obtain ⟨cZ30,h⟩ | ⟨cZ30,h⟩:=cond_s h
     · cases h
       exact ZL cZ30 V128.eq_1
     · cases h
       exact ZL cZ30 V128.eq_1
   · subst hv
     simp only [] at h
     obtain ⟨rfl,qZ31⟩:=hq
     cases h
     exact qZ31
 · subst hv
   simp only [] at h
   obtain ⟨rfl,qZ32⟩:=hq
   cases h
   exact qZ32
theorem w_ff (fZ0:TFiber) (nodeZ0:Int) {r:Int} (h:M_ff fZ0 nodeZ0=some r):Ok Tryz.prog 185 [.agg [.i fZ0.A,.i fZ0.B,.i fZ0.Length,.i fZ0.Risk],.i nodeZ0] ((fun r=>.i r) r):=by
 refine ok_of_body hmix m185 rfl ?_
 unfold M_ff at h
 simp only [ZC,A185,V185,body_eq]
 obtain ⟨cZ1,h⟩ | ⟨cZ1,h⟩:=cond_s h
 · cases h
   exact ZL cZ1 V185.eq_1
 · obtain ⟨cZ2,h⟩ | ⟨cZ2,h⟩:=cond_s h
   · cases h
     exact ZL (ZA cZ1 cZ2) V185.eq_1
   · cases h
     exact ZL (ZA cZ1 cZ2) V185.eq_1
def S_au (sZ0:List Int) (vZ0:Int) (v:Int):St:=⟨[(0,.lst .o 1 (sZ0.map AV.i)),(1,.i vZ0),(7,.i (sZ0.length:Int)),(8,.i v)],[]⟩
def SX_au (v:Unit):St:=⟨[],[]⟩
theorem w_au (sZ0:List Int) (vZ0:Int) (sZ1:Int) (o:Int ⊕ (Unit ⊕ Int)) (h:M_au sZ0 vZ0 sZ1=some o):AWP (OkS Tryz.prog) A146L1 (qL [0,1,7,8] [] (S_au sZ0 vZ0) (qS (qX 0 [] [] (SX_au)) (qR V146 (fun r=>.i r))) o) (S_au sZ0 vZ0 sZ1):=by
 unfold M_au at h
 simp only [ZC,S_au,A146L1]
 obtain ⟨cZ2,h⟩ | ⟨cZ2,h⟩:=cond_s h
 · obtain ⟨yZ3,hyZ3,h⟩:=bind_s h
   obtain ⟨hyZ3a,hyZ3b⟩:=geti_s hyZ3
   obtain ⟨cZ4,h⟩ | ⟨cZ4,h⟩:=cond_s h
   · cases h
     exact ZL (ZA cZ2 (ZA hyZ3a (ZA hyZ3b cZ4))) V146.eq_1
   · cases h
     exact ZL (ZA cZ2 (ZA hyZ3a (ZA hyZ3b cZ4))) (ZA S_au.eq_1 SX_au.eq_1)
 · cases h
   exact ZL cZ2 (ZA S_au.eq_1 SX_au.eq_1)
theorem w_gd (sZ0:List Int) (vZ0:Int) {r:Int} (h:M_gd sZ0 vZ0=some r):Ok Tryz.prog 146 [.lst .o 1 (sZ0.map AV.i),.i vZ0] ((fun r=>.i r) r):=by
 refine ok_of_body hmix m146 rfl ?_
 unfold M_gd at h
 simp only [ZC,A146,V146,body_eq]
 obtain ⟨oZ5,hoZ5,h⟩:=bind_s h
 try refine ZF trivial ?_
 refine join_rule (o:=oZ5) (blk_rule sideR (loop_rule (w_au sZ0 vZ0) hoZ5 ?_)) (fun vZ6 hv=>?_) (fun xZ7 hv e τ hne hq=>?_)
 · exact ZK (ZA S_au.eq_1 SX_au.eq_1)
 · subst hv
   simp only [] at h
   simp only [ZC,SX_au,A146R2]
   cases h
   exact ZL trivial V146.eq_1
 · subst hv
   simp only [] at h
   obtain ⟨rfl,qZ8⟩:=hq
   cases h
   exact qZ8
theorem w_cf (sZ0:List Int) (vZ0:Int) {r:Bool} (h:M_cf sZ0 vZ0=some r):Ok Tryz.prog 84 [.lst .o 1 (sZ0.map AV.i),.i vZ0] ((fun r=>.b r) r):=by
 refine ok_of_body hmix m84 rfl ?_
 unfold M_cf at h
 simp only [ZC,A84,V84,body_eq]
 obtain ⟨rZ1,hrZ1,h⟩:=bind_s h
 refine ZF trivial ?_
 refine ZS trivial (w_gd _ _ hrZ1) ?_
 refine ZG ?_
 cases h
 exact ZL trivial V84.eq_1
def S_av (nZ0:TNetwork) (rZ0:TRoute) (v:Int×Int×List Int):St:=⟨[(2,.pt 2 0 0),(6,.sl 6 0 v.2.2.length),(7,.i v.1),(30,.lst .o 1 (rZ0.Fibers.map AV.i)),(31,.i (rZ0.Fibers.length:Int)),(32,.i v.2.1)],[(2,.var (.agg [.lst .o 1 (nZ0.Nodes.map AV.z),.lst .o 4 (nZ0.Fibers.map (e_TFiber .o))])),(6,.arr 1 (v.2.2.map AV.i))]⟩
def SX_av (v:List Int):St:=⟨[(6,.sl 6 0 v.length)],[(6,.arr 1 (v.map AV.i))]⟩
theorem w_av (nZ0:TNetwork) (rZ0:TRoute) (sZ8:Int×Int×List Int) (o:(Int×Int×List Int) ⊕ ((List Int) ⊕ (List Int×Bool))) (h:M_av nZ0 rZ0 sZ8=some o):AWP (OkS Tryz.prog) A135L3 (qL [2,6,7,30,31,32] [2,6] (S_av nZ0 rZ0) (qS (qX 0 [6] [6] (SX_av)) (qR V135 (fun r=>.tup [.lst .u 1 (r.1.map AV.i),.b r.2]))) o) (S_av nZ0 rZ0 sZ8):=by
 unfold M_av at h
 simp only [ZC,S_av,A135L3]
 obtain ⟨cZ9,h⟩ | ⟨cZ9,h⟩:=cond_s h
 · obtain ⟨yZ10,hyZ10,h⟩:=bind_s h
   obtain ⟨hyZ10a,hyZ10b⟩:=geti_s hyZ10
   obtain ⟨rZ11,hrZ11,h⟩:=bind_s h
   refine ZF (ZA cZ9 (ZA hyZ10a hyZ10b)) ?_
   refine ZS (ZA cZ9 (ZA hyZ10a hyZ10b)) (w_c _ _ _ hrZ11) ?_
   refine ZG ?_
   obtain ⟨cZ12,h⟩ | ⟨cZ12,h⟩:=cond_s h
   · cases h
     exact ZL (ZA cZ9 (ZA hyZ10a (ZA hyZ10b cZ12))) V135.eq_1
   · obtain ⟨yZ13,hyZ13,h⟩:=bind_s h
     obtain ⟨hyZ13a,hyZ13b⟩:=geti_s hyZ13
     obtain ⟨rZ14,hrZ14,h⟩:=bind_s h
     refine ZF (ZA cZ9 (ZA hyZ10a (ZA hyZ10b (ZA cZ12 (ZA hyZ13a hyZ13b))))) ?_
     refine ZS (ZA cZ9 (ZA hyZ10a (ZA hyZ10b (ZA cZ12 (ZA hyZ13a hyZ13b))))) (w_ff _ _ hrZ14) ?_
     refine ZG ?_
     obtain ⟨oZ17,hoZ17,h⟩:=bind_s h
     try refine ZF (ZA cZ9 (ZA hyZ10a (ZA hyZ10b (ZA cZ12 (ZA hyZ13a hyZ13b))))) ?_
     refine join_rule0 (sh:=(fun v=>⟨[(2,.pt 2 0 0),(6,.sl 6 0 sZ8.2.2.length),(7,.i rZ14),(30,.lst .o 1 (rZ0.Fibers.map AV.i)),(31,.i (rZ0.Fibers.length:Int)),(32,.i sZ8.2.1),(56,.b v)],[(2,.var (.agg [.lst .o 1 (nZ0.Nodes.map AV.z),.lst .o 4 (nZ0.Fibers.map (e_TFiber .o))])),(6,.arr 1 (sZ8.2.2.map AV.i))]⟩)) (s:=oZ17) ?_ ?_
     · replace h:=hoZ17
       obtain ⟨cZ15,h⟩ | ⟨cZ15,h⟩:=cond_s h
       · cases h
         exact ZL (ZA cZ9 (ZA hyZ10a (ZA hyZ10b (ZA cZ12 (ZA hyZ13a (ZA hyZ13b cZ15)))))) trivial
       · obtain ⟨rZ16,hrZ16,h⟩:=bind_s h
         refine ZF (ZA cZ9 (ZA hyZ10a (ZA hyZ10b (ZA cZ12 (ZA hyZ13a (ZA hyZ13b cZ15)))))) ?_
         refine ZS (ZA cZ9 (ZA hyZ10a (ZA hyZ10b (ZA cZ12 (ZA hyZ13a (ZA hyZ13b cZ15)))))) (w_cf _ _ hrZ16) ?_
         refine ZG ?_
         cases h
         exact ZL (ZA cZ9 (ZA hyZ10a (ZA hyZ10b (ZA cZ12 (ZA hyZ13a (ZA hyZ13b cZ15)))))) trivial
     · simp only [ZC,A135R2]
       obtain ⟨cZ18,h⟩ | ⟨cZ18,h⟩:=cond_s h
       · cases h
         exact ZL (ZA cZ9 (ZA hyZ10a (ZA hyZ10b (ZA cZ12 (ZA hyZ13a (ZA hyZ13b cZ18)))))) V135.eq_1
       · obtain ⟨lZ19,hlZ19,h⟩:=bnd_s h
         have eZ20:Row.arr 1 [(.i rZ14:AV)]=Row.arr 1 (lZ19.map AV.i):=by rw [← hlZ19]; rfl
         have jjZ21:lZ19.length=1:=by rw [← hlZ19]; rfl
         obtain ⟨uZ22,huZ22,h⟩:=bind_s h
         have huZ22g:=grd_s huZ22
         obtain ⟨lZ23,hlZ23,h⟩:=bnd_s h
         have eZ24:sZ8.2.2.map AV.i++lZ19.map AV.i=lZ23.map AV.i:=by rw [← hlZ23,List.map_append]
         have eZ25:sZ8.2.2.length+1=lZ23.length:=by simp [← hlZ19,← hlZ23] <;> omega
         rw [eZ25] at huZ22g
         cases h
         exact ZL (ZA cZ9 (ZA hyZ10a (ZA hyZ10b (ZA cZ12 (ZA hyZ13a (ZA hyZ13b (ZA cZ18 (ZA eZ20 (ZA jjZ21 (ZA huZ22g (ZA eZ24 eZ25))))))))))) (ZA S_av.eq_1 (ZA SX_av.eq_1 (ZA hlZ19.symm (ZA hlZ23.symm jjZ21))))
 · cases h
   exact ZL cZ9 (ZA S_av.eq_1 SX_av.eq_1)
theorem w_cg (nZ0:TNetwork) (rZ0:TRoute) {r:List Int×Bool} (h:M_cg nZ0 rZ0=some r):Ok Tryz.prog 135 [.agg [.lst .o 1 (nZ0.Nodes.map AV.z),.lst .o 4 (nZ0.Fibers.map (e_TFiber .o))],.agg [.i rZ0.Start,.lst .o 1 (rZ0.Fibers.map AV.i)]] ((fun r=>.tup [.lst .u 1 (r.1.map AV.i),.b r.2]) r):=by
 refine ok_of_body hmix m135 rfl ?_
 unfold M_cg at h
 simp only [ZC,A135,V135,body_eq]
 obtain ⟨oZ3,hoZ3,h⟩:=bind_s h
 try refine ZF trivial ?_
 refine join_rule0 (sh:=(fun v=>⟨[(2,.pt 2 0 0),(3,.pt 3 0 0),(23,.b v)],[(2,.var (.agg [.lst .o 1 (nZ0.Nodes.map AV.z),.lst .o 4 (nZ0.Fibers.map (e_TFiber .o))])),(3,.var (.agg [.i rZ0.Start,.lst .o 1 (rZ0.Fibers.map AV.i)]))]⟩)) (s:=oZ3) ?_ ?_
 · replace h:=hoZ3
   obtain ⟨rZ1,hrZ1,h⟩:=bind_s h
   refine ZF trivial ?_
   refine ZS trivial (w_c _ _ _ hrZ1) ?_
   refine ZG ?_
   obtain ⟨cZ2,h⟩ | ⟨cZ2,h⟩:=cond_s h
   · cases h
     exact ZL cZ2 trivial
   · cases h
     exact ZL cZ2 trivial
 · simp only [ZC,A135R1]
   obtain ⟨cZ4,h⟩ | ⟨cZ4,h⟩:=cond_s h
   · cases h
     exact ZL cZ4 V135.eq_1
   · obtain ⟨lZ5,hlZ5,h⟩:=bnd_s h
     have eZ6:Row.arr 1 [(.i rZ0.Start:AV)]=Row.arr 1 (lZ5.map AV.i):=by rw [← hlZ5]; rfl
     have jjZ7:lZ5.length=1:=by rw [← hlZ5]; rfl
     obtain ⟨oZ26,hoZ26,h⟩:=bind_s h
     try refine ZF (ZA cZ4 (ZA eZ6 jjZ7)) ?_
     refine join_rule (o:=oZ26) (blk_rule sideR (loop_rule (w_av nZ0 rZ0) hoZ26 ?_)) (fun vZ27 hv=>?_) (fun xZ28 hv e τ hne hq=>?_)
     · exact ZK (ZA S_av.eq_1 (ZA SX_av.eq_1 (ZA hlZ5.symm jjZ7)))
     · subst hv
       simp only [] at h
       simp only [ZC,SX_av,A135R4]
       cases h
       exact ZL (ZA cZ4 (ZA eZ6 jjZ7)) (ZA V135.eq_1 jjZ7)
     · subst hv
       simp only [] at h
       obtain ⟨rfl,qZ29⟩:=hq
       cases h
       exact qZ29
theorem w_cb (bZ0:TBlock) {r:Bool} (h:M_cb bZ0=some r):Ok Tryz.prog 183 [.agg [.i bZ0.First,.i bZ0.Count]] ((fun r=>.b r) r):=by
 refine ok_of_body hmix m183 rfl ?_
 unfold M_cb at h
 simp only [ZC,A183,V183,body_eq]
 obtain ⟨cZ1,h⟩ | ⟨cZ1,h⟩:=cond_s h
 · obtain ⟨rZ2,hrZ2,h⟩:=bind_s h
   refine ZF cZ1 ?_
   refine ZS cZ1 (w_c _ _ _ hrZ2) ?_
   refine ZG ?_
   obtain ⟨cZ3,h⟩ | ⟨cZ3,h⟩:=cond_s h
   · cases h
     exact ZL (ZA cZ1 cZ3) V183.eq_1
   · cases h
     exact ZL (ZA cZ1 cZ3) V183.eq_1
 · cases h
   exact ZL cZ1 V183.eq_1
def S_n (nZ0:TNetwork) (sZ1:Int×List (List Int)) (v:Int×List Int):St:=⟨[(1,.pt 1 0 0),(3,.sl 3 0 sZ1.2.length),(4,.i sZ1.1),(5,.sl 5 0 v.2.length),(17,.lst .o 4 (nZ0.Fibers.map (e_TFiber .o))),(18,.i (nZ0.Fibers.length:Int)),(19,.i v.1)],[(1,.var (.agg [.lst .o 1 (nZ0.Nodes.map AV.z),.lst .o 4 (nZ0.Fibers.map (e_TFiber .o))])),(3,.arr 1 (sZ1.2.map (e_Li .u))),(5,.arr 1 (v.2.map AV.i))]⟩
def SX_n (nZ0:TNetwork) (sZ1:Int×List (List Int)) (v:List Int):St:=⟨[(1,.pt 1 0 0),(3,.sl 3 0 sZ1.2.length),(4,.i sZ1.1),(5,.sl 5 0 v.length)],[(1,.var (.agg [.lst .o 1 (nZ0.Nodes.map AV.z),.lst .o 4 (nZ0.Fibers.map (e_TFiber .o))])),(3,.arr 1 (sZ1.2.map (e_Li .u))),(5,.arr 1 (v.map AV.i))]⟩
theorem w_n (nZ0:TNetwork) (sZ1:Int×List (List Int)) (sZ3:Int×List Int) (o:(Int×List Int) ⊕ (List Int)) (h:M_n nZ0 sZ1 sZ3=some o):AWP (OkS Tryz.prog) A255L1 (qL [1,3,4,5,17,18,19] [1,3,5] (S_n nZ0 sZ1) (qX 2 [1,3,4,5] [1,3,5] (SX_n nZ0 sZ1)) o) (S_n nZ0 sZ1 sZ3):=by
 unfold M_n at h
 simp only [ZC,S_n,A255L1]
 obtain ⟨cZ4,h⟩ | ⟨cZ4,h⟩:=cond_s h
 · obtain ⟨yZ5,hyZ5,h⟩:=bind_s h
   obtain ⟨hyZ5a,hyZ5b⟩:=geti_s hyZ5
   obtain ⟨cZ6,h⟩ | ⟨cZ6,h⟩:=cond_s h
   · obtain ⟨lZ7,hlZ7,h⟩:=bnd_s h
     have eZ8:Row.arr 1 [(.i sZ3.1:AV)]=Row.arr 1 (lZ7.map AV.i):=by rw [← hlZ7]; rfl
     have jjZ9:lZ7.length=1:=by rw [← hlZ7]; rfl
     obtain ⟨uZ10,huZ10,h⟩:=bind_s h
     have huZ10g:=grd_s huZ10
     obtain ⟨lZ11,hlZ11,h⟩:=bnd_s h
     have eZ12:sZ3.2.map AV.i++lZ7.map AV.i=lZ11.map AV.i:=by rw [← hlZ11,List.map_append]
     have eZ13:sZ3.2.length+1=lZ11.length:=by simp [← hlZ7,← hlZ11] <;> omega
     rw [eZ13] at huZ10g
     cases h
     exact ZL (ZA cZ4 (ZA hyZ5a (ZA hyZ5b (ZA cZ6 (ZA eZ8 (ZA jjZ9 (ZA huZ10g (ZA eZ12 eZ13)))))))) (ZA S_n.eq_1 (ZA SX_n.eq_1 (ZA hlZ7.symm (ZA hlZ11.symm jjZ9))))
   · cases h
     exact ZL (ZA cZ4 (ZA hyZ5a (ZA hyZ5b cZ6))) (ZA S_n.eq_1 SX_n.eq_1)
 · cases h
   exact ZL cZ4 (ZA S_n.eq_1 SX_n.eq_1)
def S_o (nZ0:TNetwork) (v:Int×List (List Int)):St:=⟨[(1,.pt 1 0 0),(3,.sl 3 0 v.2.length),(4,.i v.1)],[(1,.var (.agg [.lst .o 1 (nZ0.Nodes.map AV.z),.lst .o 4 (nZ0.Fibers.map (e_TFiber .o))])),(3,.arr 1 (v.2.map (e_Li .u)))]⟩
def SX_o (nZ0:TNetwork) (v:List (List Int)):St:=⟨[(1,.pt 1 0 0),(3,.sl 3 0 v.length)],[(1,.var (.agg [.lst .o 1 (nZ0.Nodes.map AV.z),.lst .o 4 (nZ0.Fibers.map (e_TFiber .o))])),(3,.arr 1 (v.map (e_Li .u)))]⟩
theorem w_o (nZ0:TNetwork) (sZ1:Int×List (List Int)) (o:(Int×List (List Int)) ⊕ (List (List Int))) (h:M_o nZ0 sZ1=some o):AWP (OkS Tryz.prog) A255L3 (qL [1,3,4] [1,3] (S_o nZ0) (qX 0 [1,3] [1,3] (SX_o nZ0)) o) (S_o nZ0 sZ1):=by
 unfold M_o at h
 simp only [ZC,S_o,A255L3]
 obtain ⟨cZ2,h⟩ | ⟨cZ2,h⟩:=cond_s h
 · obtain ⟨oZ14,hoZ14,h⟩:=bind_s h
   try refine ZF cZ2 ?_
   refine join_rule0 (blk_rule0 (loop_rule (w_n nZ0 sZ1) hoZ14 ?_)) ?_
   · exact ZK (ZA S_n.eq_1 SX_n.eq_1)
   · simp only [ZC,SX_n,A255R2]
     obtain ⟨cZ15,h⟩ | ⟨cZ15,h⟩:=cond_s h
     · obtain ⟨lZ16,hlZ16,h⟩:=bnd_s h
       have eZ17:Row.arr 1 [(.lst .u 1 (oZ14.map AV.i):AV)]=Row.arr 1 (lZ16.map (e_Li .u)):=by rw [← hlZ16]; rfl
       have jjZ18:lZ16.length=1:=by rw [← hlZ16]; rfl
       obtain ⟨uZ19,huZ19,h⟩:=bind_s h
       have huZ19g:=grd_s huZ19
       obtain ⟨lZ20,hlZ20,h⟩:=bnd_s h
       have eZ21:sZ1.2.map (e_Li .u)++lZ16.map (e_Li .u)=lZ20.map (e_Li .u):=by rw [← hlZ20,List.map_append]
       have eZ22:sZ1.2.length+1=lZ20.length:=by simp [← hlZ16,← hlZ20] <;> omega
       rw [eZ22] at huZ19g
       cases h
       exact ZL (ZA cZ2 (ZA cZ15 (ZA eZ17 (ZA jjZ18 (ZA huZ19g (ZA eZ21 eZ22)))))) (ZA S_o.eq_1 (ZA SX_o.eq_1 (ZA hlZ16.symm (ZA hlZ20.symm jjZ18))))
     · cases h
       exact ZL (ZA cZ2 cZ15) (ZA S_o.eq_1 SX_o.eq_1)
 · cases h
   exact ZL cZ2 (ZA S_o.eq_1 SX_o.eq_1)
def S_p (nZ0:TNetwork) (v:Int×List (List Int)):St:=⟨[(3,.sl 3 0 v.2.length),(41,.lst .o 4 (nZ0.Fibers.map (e_TFiber .o))),(42,.i (nZ0.Fibers.length:Int)),(43,.i v.1)],[(3,.arr 1 (v.2.map (e_Li .u)))]⟩
def SX_p (v:List (List Int)):St:=⟨[(3,.sl 3 0 v.length)],[(3,.arr 1 (v.map (e_Li .u)))]⟩
theorem w_p (nZ0:TNetwork) (sZ24:Int×List (List Int)) (o:(Int×List (List Int)) ⊕ (List (List Int))) (h:M_p nZ0 sZ24=some o):AWP (OkS Tryz.prog) A255L5 (qL [3,41,42,43] [3] (S_p nZ0) (qX 4 [3] [3] (SX_p)) o) (S_p nZ0 sZ24):=by
 unfold M_p at h
 simp only [ZC,S_p,A255L5]
 obtain ⟨cZ25,h⟩ | ⟨cZ25,h⟩:=cond_s h
 · obtain ⟨yZ26,hyZ26,h⟩:=bind_s h
   obtain ⟨hyZ26a,hyZ26b⟩:=geti_s hyZ26
   obtain ⟨cZ27,h⟩ | ⟨cZ27,h⟩:=cond_s h
   · obtain ⟨lZ28,hlZ28,h⟩:=bnd_s h
     have eZ29:Row.arr 1 [(.i sZ24.1:AV)]=Row.arr 1 (lZ28.map AV.i):=by rw [← hlZ28]; rfl
     have jjZ30:lZ28.length=1:=by rw [← hlZ28]; rfl
     have nZ31:sub (lZ28.map AV.i) 0 1=lZ28.map AV.i:=sub_n _ (by simp [← hlZ28])
     obtain ⟨lZ32,hlZ32,h⟩:=bnd_s h
     have eZ33:Row.arr 1 [(.lst .u 1 (lZ28.map AV.i):AV)]=Row.arr 1 (lZ32.map (e_Li .u)):=by rw [← hlZ32]; rfl
     have jjZ34:lZ32.length=1:=by rw [← hlZ32]; rfl
     obtain ⟨uZ35,huZ35,h⟩:=bind_s h
     have huZ35g:=grd_s huZ35
     obtain ⟨lZ36,hlZ36,h⟩:=bnd_s h
     have eZ37:sZ24.2.map (e_Li .u)++lZ32.map (e_Li .u)=lZ36.map (e_Li .u):=by rw [← hlZ36,List.map_append]
     have eZ38:sZ24.2.length+1=lZ36.length:=by simp [← hlZ28,← hlZ32,← hlZ36] <;> omega
     rw [eZ38] at huZ35g
     cases h
     exact ZL (ZA cZ25 (ZA hyZ26a (ZA hyZ26b (ZA cZ27 (ZA eZ29 (ZA jjZ30 (ZA nZ31 (ZA eZ33 (ZA jjZ34 (ZA huZ35g (ZA eZ37 eZ38))))))))))) (ZA S_p.eq_1 (ZA SX_p.eq_1 (ZA hlZ28.symm (ZA hlZ32.symm (ZA hlZ36.symm (ZA jjZ30 jjZ34))))))
   · cases h
     exact ZL (ZA cZ25 (ZA hyZ26a (ZA hyZ26b cZ27))) (ZA S_p.eq_1 SX_p.eq_1)
 · cases h
   exact ZL cZ25 (ZA S_p.eq_1 SX_p.eq_1)
theorem w_fg (nZ0:TNetwork) {r:List (List Int)} (h:M_fg nZ0=some r):Ok Tryz.prog 255 [.agg [.lst .o 1 (nZ0.Nodes.map AV.z),.lst .o 4 (nZ0.Fibers.map (e_TFiber .o))]] ((fun r=>.lst .u 1 (r.map (e_Li .u))) r):=by
 refine ok_of_body hmix m255 rfl ?_
 unfold M_fg at h
 simp only [ZC,A255,V255,body_eq]
 obtain ⟨oZ23,hoZ23,h⟩:=bind_s h
 try refine ZF trivial ?_
 refine join_rule0 (blk_rule0 (loop_rule (w_o nZ0) hoZ23 ?_)) ?_
 · exact ZK (ZA S_o.eq_1 SX_o.eq_1)
 · simp only [ZC,SX_o,A255R4]
   obtain ⟨oZ39,hoZ39,h⟩:=bind_s h
   try refine ZF trivial ?_
   refine join_rule0 (blk_rule0 (loop_rule (w_p nZ0) hoZ39 ?_)) ?_
   · exact ZK (ZA S_p.eq_1 SX_p.eq_1)
   · simp only [ZC,SX_p,A255R6]
     cases h
     exact ZL trivial V255.eq_1
theorem w_ed (listZ0:List Int) (p1Z0:Int) {r:Bool} (h:M_ed listZ0 p1Z0=some r):Ok Tryz.prog 256 [.lst .o 1 (listZ0.map AV.i),.bp .o (.i p1Z0) 0] ((fun r=>.b r) r):=by
 refine ok_of_body hmix m256 rfl ?_
 unfold M_ed at h
 simp only [ZC,A256,V256,body_eq]
 obtain ⟨rZ1,hrZ1,h⟩:=bind_s h
 refine ZF trivial ?_
 refine ZS trivial (w_cf _ _ hrZ1) ?_
 refine ZG ?_
 cases h
 exact ZL trivial V256.eq_1
def S_aa (sZ0:List (List Int)) (F_fZ0:Nat) (C_fZ0:List AV) (v:Int):St:=⟨[(0,.lst .o 1 (sZ0.map (e_Li .o))),(1,.fn F_fZ0 C_fZ0),(7,.i (sZ0.length:Int)),(8,.i v)],[]⟩
def SX_aa (v:Unit):St:=⟨[],[]⟩
theorem w_aa (sZ0:List (List Int)) (fZ0:(List Int)→Option Bool) (F_fZ0:Nat) (C_fZ0:List AV) (hC_fZ0:Fixed C_fZ0) (hf_fZ0:∀ (x0:List Int) (r:Bool),fZ0 x0=some r→Ok Tryz.prog F_fZ0 ((.lst .o 1 (x0.map AV.i))::C_fZ0) (.b r)) (sZ1:Int) (o:Int ⊕ (Unit ⊕ Int)) (h:M_aa sZ0 fZ0 sZ1=some o):AWP (OkS Tryz.prog) A254L1 (qL [0,1,7,8] [] (S_aa sZ0 F_fZ0 C_fZ0) (qS (qX 0 [] [] (SX_aa)) (qR V254 (fun r=>.i r))) o) (S_aa sZ0 F_fZ0 C_fZ0 sZ1):=by
 unfold M_aa at h
 simp only [ZC,S_aa,A254L1]
 obtain ⟨cZ2,h⟩ | ⟨cZ2,h⟩:=cond_s h
 · obtain ⟨yZ3,hyZ3,h⟩:=bind_s h
   obtain ⟨hyZ3a,hyZ3b⟩:=geti_s hyZ3
   obtain ⟨rZ4,hrZ4,h⟩:=bind_s h
   refine ZF (ZA cZ2 (ZA hyZ3a hyZ3b)) ?_
   refine ZS (ZA cZ2 (ZA hyZ3a (ZA hyZ3b hC_fZ0.1))) (hf_fZ0 _ _ hrZ4) ?_
   refine ZG ?_
   obtain ⟨cZ5,h⟩ | ⟨cZ5,h⟩:=cond_s h
   · cases h
     exact ZL (ZA cZ2 (ZA hyZ3a (ZA hyZ3b cZ5))) (ZA V254.eq_1 (ZA hC_fZ0.2 ((fixed_ren hC_fZ0))))
   · cases h
     exact ZL (ZA cZ2 (ZA hyZ3a (ZA hyZ3b cZ5))) (ZA S_aa.eq_1 (ZA SX_aa.eq_1 (ZA hC_fZ0.2 ((fixed_ren hC_fZ0)))))
 · cases h
   exact ZL cZ2 (ZA S_aa.eq_1 (ZA SX_aa.eq_1 (ZA hC_fZ0.2 ((fixed_ren hC_fZ0)))))
theorem w_eb (sZ0:List (List Int)) (fZ0:(List Int)→Option Bool) {r:Int} (h:M_eb sZ0 fZ0=some r) (F_fZ0:Nat) (C_fZ0:List AV) (hC_fZ0:Fixed C_fZ0) (hf_fZ0:∀ (x0:List Int) (r:Bool),fZ0 x0=some r→Ok Tryz.prog F_fZ0 ((.lst .o 1 (x0.map AV.i))::C_fZ0) (.b r)):Ok Tryz.prog 254 [.lst .o 1 (sZ0.map (e_Li .o)),.fn F_fZ0 C_fZ0] ((fun r=>.i r) r):=by
 refine ok_of_body hmix m254 rfl ?_
 unfold M_eb at h
 simp only [ZC,A254,V254,body_eq]
 obtain ⟨oZ6,hoZ6,h⟩:=bind_s h
 try refine ZF trivial ?_
 refine join_rule (o:=oZ6) (blk_rule sideR (loop_rule (w_aa sZ0 fZ0 F_fZ0 C_fZ0 hC_fZ0 hf_fZ0) hoZ6 ?_)) (fun vZ7 hv=>?_) (fun xZ8 hv e τ hne hq=>?_)
 · exact ZK (ZA S_aa.eq_1 (ZA SX_aa.eq_1 (ZA hC_fZ0.2 ((fixed_ren hC_fZ0)))))
 · subst hv
   simp only [] at h
   simp only [ZC,SX_aa,A254R2]
   cases h
   exact ZL trivial (ZA V254.eq_1 (ZA hC_fZ0.2 ((fixed_ren hC_fZ0))))
 · subst hv
   simp only [] at h
   obtain ⟨rfl,qZ9⟩:=hq
   cases h
   exact qZ9
theorem w_ec (nZ0:TNetwork) (fiberZ0:Int) {r:Int} (h:M_ec nZ0 fiberZ0=some r):Ok Tryz.prog 247 [.agg [.lst .o 1 (nZ0.Nodes.map AV.z),.lst .o 4 (nZ0.Fibers.map (e_TFiber .o))],.i fiberZ0] ((fun r=>.i r) r):=by
 refine ok_of_body hmix m247 rfl ?_
 unfold M_ec at h
 simp only [ZC,A247,V247,body_eq]
 obtain ⟨rZ1,hrZ1,h⟩:=bind_s h
 refine ZF trivial ?_
 refine ZU trivial (w_fg _ hrZ1) ?_
 refine ZG ?_
 obtain ⟨rZ2,hrZ2,h⟩:=bind_s h
 refine ZF trivial ?_
 refine ZS trivial (w_eb _ _ hrZ2 256 [.bp .o (.i fiberZ0) 0] ⟨fun ρ k=>by simp only [VS1,VS2,VS3,VS4,VS5,VS6,VT1,VT2,finM_ret,finM_nrm,decide_true,decide_false,List.nodup_nil,List.nodup_cons,oks_p,oks_m,oks_h,ne_eq,not_false_eq_true,Int.reduceEq,Int.reduceNe,true_and,false_and,Nat.reduceSub,Nat.reduceMul,↓reduceIte,reduceCtorEq,Nat.reduceEqDiff,Nat.reduceAdd,Nat.reduceLeDiff,Int.reduceLE],by simp [mentsL,AV.ments]⟩ (fun _ _ h=>w_ed _ _ h)) ?_
 refine ZG ?_
 cases h
 exact ZL trivial V247.eq_1
def S_ab (nZ0:TNetwork) (fibersZ0:List Int) (v:Int×List Int):St:=⟨[(2,.pt 2 0 0),(5,.sl 5 0 v.2.length),(9,.lst .o 1 (fibersZ0.map AV.i)),(10,.i (fibersZ0.length:Int)),(11,.i v.1)],[(2,.var (.agg [.lst .o 1 (nZ0.Nodes.map AV.z),.lst .o 4 (nZ0.Fibers.map (e_TFiber .o))])),(5,.arr 1 (v.2.map AV.i))]⟩
def SX_ab (v:List Int):St:=⟨[(5,.sl 5 0 v.length)],[(5,.arr 1 (v.map AV.i))]⟩
theorem w_ab (nZ0:TNetwork) (fibersZ0:List Int) (sZ1:Int×List Int) (o:(Int×List Int) ⊕ (List Int)) (h:M_ab nZ0 fibersZ0 sZ1=some o):AWP (OkS Tryz.prog) A226L1 (qL [2,5,9,10,11] [2,5] (S_ab nZ0 fibersZ0) (qX 0 [5] [5] (SX_ab)) o) (S_ab nZ0 fibersZ0 sZ1):=by
 unfold M_ab at h
 simp only [ZC,S_ab,A226L1]
 obtain ⟨cZ2,h⟩ | ⟨cZ2,h⟩:=cond_s h
 · obtain ⟨yZ3,hyZ3,h⟩:=bind_s h
   obtain ⟨hyZ3a,hyZ3b⟩:=geti_s hyZ3
   obtain ⟨rZ4,hrZ4,h⟩:=bind_s h
   refine ZF (ZA cZ2 (ZA hyZ3a hyZ3b)) ?_
   refine ZS (ZA cZ2 (ZA hyZ3a hyZ3b)) (w_ec _ _ hrZ4) ?_
   refine ZG ?_
   obtain ⟨lZ5,hlZ5,h⟩:=bnd_s h
   have eZ6:Row.arr 1 [(.i rZ4:AV)]=Row.arr 1 (lZ5.map AV.i):=by rw [← hlZ5]; rfl
   have jjZ7:lZ5.length=1:=by rw [← hlZ5]; rfl
   obtain ⟨uZ8,huZ8,h⟩:=bind_s h
   have huZ8g:=grd_s huZ8
   obtain ⟨lZ9,hlZ9,h⟩:=bnd_s h
   have eZ10:sZ1.2.map AV.i++lZ5.map AV.i=lZ9.map AV.i:=by rw [← hlZ9,List.map_append]
   have eZ11:sZ1.2.length+1=lZ9.length:=by simp [← hlZ5,← hlZ9] <;> omega
   rw [eZ11] at huZ8g
   cases h
   exact ZL (ZA cZ2 (ZA hyZ3a (ZA hyZ3b (ZA eZ6 (ZA jjZ7 (ZA huZ8g (ZA eZ10 eZ11))))))) (ZA S_ab.eq_1 (ZA SX_ab.eq_1 (ZA hlZ5.symm (ZA hlZ9.symm jjZ7))))
 · cases h
   exact ZL cZ2 (ZA S_ab.eq_1 SX_ab.eq_1)
theorem w_ct (nZ0:TNetwork) (fibersZ0:List Int) {r:List Int} (h:M_ct nZ0 fibersZ0=some r):Ok Tryz.prog 226 [.agg [.lst .o 1 (nZ0.Nodes.map AV.z),.lst .o 4 (nZ0.Fibers.map (e_TFiber .o))],.lst .o 1 (fibersZ0.map AV.i)] ((fun r=>.lst .u 1 (r.map AV.i)) r):=by
 refine ok_of_body hmix m226 rfl ?_
 unfold M_ct at h
 simp only [ZC,A226,V226,body_eq]
 obtain ⟨oZ12,hoZ12,h⟩:=bind_s h
 try refine ZF trivial ?_
 refine join_rule0 (blk_rule0 (loop_rule (w_ab nZ0 fibersZ0) hoZ12 ?_)) ?_
 · exact ZK (ZA S_ab.eq_1 SX_ab.eq_1)
 · simp only [ZC,SX_ab,A226R2]
   cases h
   exact ZL trivial V226.eq_1
theorem w_gi (xZ0:Int) {r:Int} (h:M_gi xZ0=some r):Ok Tryz.prog 211 [.sc (.int .u64 xZ0)] ((fun r=>.i r) r):=by
 refine ok_of_body hmix m211 rfl ?_
 unfold M_gi at h
 simp only [ZC,A211,V211,body_eq]
 obtain ⟨oZ2,hoZ2,h⟩:=bind_s h
 try refine ZF trivial ?_
 refine join_rule0 (sh:=(fun v=>⟨[(0,.sc (.int .u64 v.1)),(2,.i v.2)],[]⟩)) (s:=oZ2) ?_ ?_
 · replace h:=hoZ2
   obtain ⟨cZ1,h⟩ | ⟨cZ1,h⟩:=cond_s h
   · cases h
     exact ZL cZ1 trivial
   · cases h
     exact ZL cZ1 trivial
 · simp only [ZC,A211R1]
   obtain ⟨oZ4,hoZ4,h⟩:=bind_s h
   try refine ZF trivial ?_
   refine join_rule0 (sh:=(fun v=>⟨[(0,.sc (.int .u64 v.1)),(2,.i v.2)],[]⟩)) (s:=oZ4) ?_ ?_
   · replace h:=hoZ4
     obtain ⟨cZ3,h⟩ | ⟨cZ3,h⟩:=cond_s h
     · cases h
       exact ZL cZ3 trivial
     · cases h
       exact ZL cZ3 trivial
   · simp only [ZC,A211R2]
     obtain ⟨oZ6,hoZ6,h⟩:=bind_s h
     try refine ZF trivial ?_
     refine join_rule0 (sh:=(fun v=>⟨[(0,.sc (.int .u64 v.1)),(2,.i v.2)],[]⟩)) (s:=oZ6) ?_ ?_
     · replace h:=hoZ6
       obtain ⟨cZ5,h⟩ | ⟨cZ5,h⟩:=cond_s h
       · cases h
         exact ZL cZ5 trivial
       · cases h
         exact ZL cZ5 trivial
     · simp only [ZC,A211R3]
       obtain ⟨yZ7,hyZ7,h⟩:=bind_s h
       obtain ⟨hyZ7a,hyZ7b⟩:=getz_s hyZ7
       cases h
       exact ZL (ZA hyZ7a hyZ7b) V211.eq_1
theorem w_eh (xZ0:Int) {r:Int} (h:M_eh xZ0=some r):Ok Tryz.prog 172 [.sc (.int .u64 xZ0)] ((fun r=>.i r) r):=by
 refine ok_of_body hmix m172 rfl ?_
 unfold M_eh at h
 simp only [ZC,A172,V172,body_eq]
 obtain ⟨rZ1,hrZ1,h⟩:=bind_s h
 refine ZF trivial ?_
 refine ZS trivial (w_gi _ hrZ1) ?_
 refine ZG ?_
 cases h
 exact ZL trivial V172.eq_1
theorem w_ef (xZ0:Int) (yZ0:Int) {r:Bool} (h:M_ef xZ0 yZ0=some r):Ok Tryz.prog 207 [.i xZ0,.i yZ0] ((fun r=>.b r) r):=by
 refine ok_of_body hmix m207 rfl ?_
 unfold M_ef at h
 simp only [ZC,A207,V207,body_eq]
 obtain ⟨rZ1,hrZ1,h⟩:=bind_s h
 refine ZF trivial ?_
 refine ZS trivial (w_bt _ hrZ1) ?_
 refine ZG ?_
 obtain ⟨cZ2,h⟩ | ⟨cZ2,h⟩:=cond_s h
 · obtain ⟨rZ3,hrZ3,h⟩:=bind_s h
   refine ZF cZ2 ?_
   refine ZS cZ2 (w_bt _ hrZ3) ?_
   refine ZG ?_
   obtain ⟨cZ4,h⟩ | ⟨cZ4,h⟩:=cond_s h
   · cases h
     exact ZL (ZA cZ2 cZ4) V207.eq_1
   · cases h
     exact ZL (ZA cZ2 cZ4) V207.eq_1
 · cases h
   exact ZL cZ2 V207.eq_1
def S_e (aaZ0:Int) (abZ0:Int) (sZ1:Int×List Int) (v:Int×List Int):St:=⟨[(0,.sl 1000000000 0 v.2.length),(1,.i aaZ0),(2,.i abZ0),(6,.i sZ1.1),(7,.i v.1)],[(1000000000,.arr 1 (v.2.map AV.i))]⟩
def SX_e (aaZ0:Int) (abZ0:Int) (sZ1:Int×List Int) (v:List Int):St:=⟨[(0,.sl 1000000000 0 v.length),(1,.i aaZ0),(2,.i abZ0),(6,.i sZ1.1)],[(1000000000,.arr 1 (v.map AV.i))]⟩
theorem w_e (aaZ0:Int) (abZ0:Int) (sZ1:Int×List Int) (sZ3:Int×List Int) (o:(Int×List Int) ⊕ (List Int)) (h:M_e aaZ0 sZ3=some o):AWP (OkS Tryz.prog) A201M1L2 (qL [0,1,2,6,7] [1000000000] (S_e aaZ0 abZ0 sZ1) (qX 2 [0,1,2,6] [1000000000] (SX_e aaZ0 abZ0 sZ1)) o) (S_e aaZ0 abZ0 sZ1 sZ3):=by
 unfold M_e at h
 simp only [ZC,S_e,A201M1L2]
 obtain ⟨oZ10,hoZ10,h⟩:=bind_s h
 try refine ZF trivial ?_
 refine join_rule0 (sh:=(fun v=>⟨[(0,.sl 1000000000 0 sZ3.2.length),(1,.i aaZ0),(2,.i abZ0),(6,.i sZ1.1),(7,.i sZ3.1),(30,.b v)],[(1000000000,.arr 1 (sZ3.2.map AV.i))]⟩)) (s:=oZ10) ?_ ?_
 · replace h:=hoZ10
   obtain ⟨cZ4,h⟩ | ⟨cZ4,h⟩:=cond_s h
   · obtain ⟨kZ5,hkZ5,h⟩:=bind_s h
     obtain ⟨hkZ5a,hkZ5b⟩:=grd_s hkZ5
     obtain ⟨yZ6,hyZ6,h⟩:=bind_s h
     obtain ⟨kZ7,hkZ7,h⟩:=bind_s h
     obtain ⟨hkZ7a,hkZ7b⟩:=grd_s hkZ7
     obtain ⟨yZ8,hyZ8,h⟩:=bind_s h
     obtain ⟨rZ9,hrZ9,h⟩:=bind_s h
     refine ZF (ZA cZ4 (ZA hkZ5a (ZA hkZ5b (ZA hyZ6 (ZA hkZ7a (ZA hkZ7b hyZ8)))))) ?_
     refine ZS (ZA cZ4 (ZA hkZ5a (ZA hkZ5b (ZA hyZ6 (ZA hkZ7a (ZA hkZ7b hyZ8)))))) (w_ef _ _ hrZ9) ?_
     refine ZG ?_
     cases h
     exact ZL (ZA cZ4 (ZA hkZ5a (ZA hkZ5b (ZA hyZ6 (ZA hkZ7a (ZA hkZ7b hyZ8)))))) trivial
   · cases h
     exact ZL cZ4 trivial
 · simp only [ZC,A201M1R1]
   obtain ⟨cZ11,h⟩ | ⟨cZ11,h⟩:=cond_s h
   · obtain ⟨kZ12,hkZ12,h⟩:=bind_s h
     obtain ⟨hkZ12a,hkZ12b⟩:=grd_s hkZ12
     obtain ⟨yZ13,hyZ13,h⟩:=bind_s h
     obtain ⟨kZ14,hkZ14,h⟩:=bind_s h
     obtain ⟨hkZ14a,hkZ14b⟩:=grd_s hkZ14
     obtain ⟨yZ15,hyZ15,h⟩:=bind_s h
     obtain ⟨lZ16,hlZ16,h⟩:=bnd_s h
     have eZ17:(sZ3.2.map AV.i).set (Int.toNat sZ3.1) (.i yZ13)=lZ16.map AV.i:=by rw [← hlZ16,List.map_set]
     obtain ⟨yZ18,hyZ18,h⟩:=bind_s h
     obtain ⟨lZ19,hlZ19,h⟩:=bnd_s h
     have eZ20:(lZ16.map AV.i).set (Int.toNat (IntKind.wrap .i64 (sZ3.1 - 1))) (.i yZ15)=lZ19.map AV.i:=by rw [← hlZ19,List.map_set]
     cases h
     exact ZL (ZA cZ11 (ZA hkZ12a (ZA hkZ12b (ZA hyZ13 (ZA hkZ14a (ZA hkZ14b (ZA hyZ15 (ZA eZ17 (ZA hyZ18 eZ20))))))))) (ZA S_e.eq_1 (ZA SX_e.eq_1 (ZA hlZ16.symm hlZ19.symm)))
   · cases h
     exact ZL cZ11 (ZA S_e.eq_1 SX_e.eq_1)
def S_t (aaZ0:Int) (abZ0:Int) (v:Int×List Int):St:=⟨[(0,.sl 1000000000 0 v.2.length),(1,.i aaZ0),(2,.i abZ0),(6,.i v.1)],[(1000000000,.arr 1 (v.2.map AV.i))]⟩
def SX_t (v:List Int):St:=⟨[],[(1000000000,.arr 1 (v.map AV.i))]⟩
theorem w_t (aaZ0:Int) (abZ0:Int) (sZ1:Int×List Int) (o:(Int×List Int) ⊕ (List Int)) (h:M_t aaZ0 abZ0 sZ1=some o):AWP (OkS Tryz.prog) A201M1L4 (qL [0,1,2,6] [1000000000] (S_t aaZ0 abZ0) (qX 0 [] [1000000000] (SX_t)) o) (S_t aaZ0 abZ0 sZ1):=by
 unfold M_t at h
 simp only [ZC,S_t,A201M1L4]
 obtain ⟨cZ2,h⟩ | ⟨cZ2,h⟩:=cond_s h
 · obtain ⟨oZ23,hoZ23,h⟩:=bind_s h
   try refine ZF cZ2 ?_
   refine join_rule0 (sh:=(fun v=>⟨[(0,.sl 1000000000 0 v.length),(1,.i aaZ0),(2,.i abZ0),(6,.i sZ1.1)],[(1000000000,.arr 1 (v.map AV.i))]⟩)) (s:=oZ23) ?_ ?_
   · replace h:=hoZ23
     obtain ⟨oZ21,hoZ21,h⟩:=bind_s h
     try refine ZF cZ2 ?_
     first | refine tail_rule0 (blk_rule0 (loop_rule (w_e aaZ0 abZ0 sZ1) hoZ21 ?_)) (fun τ qZ22=>?_) | refine tail_blk0 (loop_rule (w_e aaZ0 abZ0 sZ1) hoZ21 ?_) (fun τ qZ22=>?_)
     · exact ZK (ZA S_e.eq_1 SX_e.eq_1)
     · cases h
       try refine ZF trivial ?_
       refine ⟨rfl,Shp.sub qZ22 (by decide) (by decide) ?_⟩
       exact ZK SX_e.eq_1
   · simp only [ZC,A201M1R3]
     cases h
     exact ZL cZ2 (ZA S_t.eq_1 SX_t.eq_1)
 · cases h
   exact ZL cZ2 (ZA S_t.eq_1 SX_t.eq_1)
theorem w_eg (aaZ0:Int) (abZ0:Int) (acZ0:List Int) {r:List Int} (h:M_eg aaZ0 abZ0 acZ0=some r):OkM Tryz.prog 201 [.sl 1000000000 0 acZ0.length,.i aaZ0,.i abZ0] [(1000000000,.arr 1 (acZ0.map AV.i))] ((fun (r:List Int)=>.tup []) r) ((fun (r:List Int)=>[(1000000000,.arr 1 (r.map AV.i))]) r):=by
 refine okM_of_body (lr:=[1000000000]) hmix m201M1 rfl rfl ?_
 unfold M_eg at h
 simp only [ZC,A201M1,V201M1]
 obtain ⟨oZ24,hoZ24,h⟩:=bind_s h
 try refine ZF trivial ?_
 first | refine tail_rule0 (blk_rule0 (loop_rule (w_t aaZ0 abZ0) hoZ24 ?_)) (fun τ qZ25=>?_) | refine tail_blk0 (loop_rule (w_t aaZ0 abZ0) hoZ24 ?_) (fun τ qZ25=>?_)
 · exact ZK (ZA S_t.eq_1 SX_t.eq_1)
 · cases h
   refine finM_shp qZ25 (by decide) ?_ rfl
   exact ZK (ZA V201M1.eq_1 SX_t.eq_1)
def S_bp (aaZ0:Int) (abZ0:Int) (acZ0:Int) (adZ0:List Int) (v:Unit):St:=⟨[(0,.sl 1000000000 0 adZ0.length),(1,.i aaZ0),(2,.i abZ0),(3,.i acZ0),(8,.b true),(9,.b true)],[(1000000000,.arr 1 (adZ0.map AV.i))]⟩
def SX_bp (v:Empty):St:=⟨[],[]⟩
theorem w_bp (aaZ0:Int) (abZ0:Int) (acZ0:Int) (adZ0:List Int) (sZ1:Unit) (o:Unit ⊕ (Empty ⊕ (List Int))) (h:M_bp aaZ0 abZ0 acZ0 adZ0 sZ1=some o):AWP (OkS Tryz.prog) A171M1L1 (qL [0,1,2,3,8,9] [1000000000] (S_bp aaZ0 abZ0 acZ0 adZ0) (qS (qX 0 [] [] (SX_bp)) (qM V171M1 [1000000000] (fun (r:List Int)=>.tup []) (fun (r:List Int)=>[(1000000000,.arr 1 (r.map AV.i))]))) o) (S_bp aaZ0 abZ0 acZ0 adZ0 sZ1):=by
 unfold M_bp at h
 simp only [ZC,S_bp,A171M1L1]
 obtain ⟨cZ2,h⟩ | ⟨cZ2,h⟩:=cond_s h
 · obtain ⟨rZ3,hrZ3,h⟩:=bind_s h
   refine ZF cZ2 ?_
   refine ZW cZ2 (w_eg _ _ _ hrZ3) (h2:=by first | exact nm_ok [1000000000] rfl (by decide +kernel) | exact nm_ok2 [1000000000] [] rfl (by decide +kernel) ZQ | exact ZQ) (hk:=?_)
   refine ZG ?_
   cases h
   exact ZL cZ2 V171M1.eq_1
 · obtain ⟨cZ4,h⟩ | ⟨cZ4,h⟩:=cond_s h
   · cases h
   · cases h
theorem w_fy (aaZ0:Int) (abZ0:Int) (acZ0:Int) (adZ0:List Int) {r:List Int} (h:M_fy aaZ0 abZ0 acZ0 adZ0=some r):OkM Tryz.prog 171 [.sl 1000000000 0 adZ0.length,.i aaZ0,.i abZ0,.i acZ0] [(1000000000,.arr 1 (adZ0.map AV.i))] ((fun (r:List Int)=>.tup []) r) ((fun (r:List Int)=>[(1000000000,.arr 1 (r.map AV.i))]) r):=by
 refine okM_of_body (lr:=[1000000000]) hmix m171M1 rfl rfl ?_
 unfold M_fy at h
 simp only [ZC,A171M1,V171M1]
 obtain ⟨oZ5,hoZ5,h⟩:=bind_s h
 try refine ZF trivial ?_
 first | refine tail_rule (o:=oZ5) (blk_rule sideM (loop_rule (w_bp aaZ0 abZ0 acZ0 adZ0) hoZ5 ?_)) (fun vZ6 hv τ qZ8=>?_) (fun xZ7 hv e τ hne hq=>?_) | refine tail_blk (o:=oZ5) sideM (loop_rule (w_bp aaZ0 abZ0 acZ0 adZ0) hoZ5 ?_) (fun vZ6 hv τ qZ8=>?_) (fun xZ7 hv e τ hne hq=>?_)
 · exact ZK (ZA S_bp.eq_1 SX_bp.eq_1)
 · exact vZ6.elim
 · subst hv
   simp only [] at h
   obtain ⟨rfl,qZ9⟩:=hq
   cases h
   exact qZ9
theorem w_ei (aaZ0:List Int) {r:List Int} (h:M_ei aaZ0=some r):OkM Tryz.prog 111 [.sl 1000000000 0 aaZ0.length] [(1000000000,.arr 1 (aaZ0.map AV.i))] ((fun (r:List Int)=>.tup []) r) ((fun (r:List Int)=>[(1000000000,.arr 1 (r.map AV.i))]) r):=by
 refine okM_of_body (lr:=[1000000000]) hmix m111M1 rfl rfl ?_
 unfold M_ei at h
 simp only [ZC,A111M1,V111M1]
 obtain ⟨rZ1,hrZ1,h⟩:=bind_s h
 refine ZF trivial ?_
 refine ZS trivial (w_eh _ hrZ1) ?_
 refine ZG ?_
 obtain ⟨rZ2,hrZ2,h⟩:=bind_s h
 refine ZF trivial ?_
 refine ZW trivial (w_fy _ _ _ _ hrZ2) (h2:=by first | exact nm_ok [1000000000] rfl (by decide +kernel) | exact nm_ok2 [1000000000] [] rfl (by decide +kernel) ZQ | exact ZQ) (hk:=?_)
 refine ZG ?_
 cases h
 exact ZL trivial V111M1.eq_1
def S_f (aaZ0:Nat) (abZ0:Nat) (sZ2:Int) (v:Int×Int×List Int):St:=⟨[(0,.sl 1000000000 aaZ0 abZ0),(3,.i v.1),(4,.sl 1000000000 (aaZ0+(Int.toNat sZ2)) (abZ0 - (Int.toNat sZ2))),(5,.i v.2.1)],[(1000000000,.arr 1 (v.2.2.map AV.i))]⟩
def SX_f (aaZ0:Nat) (abZ0:Nat) (v:Int×List Int):St:=⟨[(0,.sl 1000000000 aaZ0 abZ0),(3,.i v.1)],[(1000000000,.arr 1 (v.2.map AV.i))]⟩
theorem w_f (aaZ0:Nat) (abZ0:Nat) (sZ2:Int) (sZ10:Int×Int×List Int) (o:(Int×Int×List Int) ⊕ (Int×List Int)) (h:M_f aaZ0 abZ0 sZ2 sZ10=some o):AWP (OkS Tryz.prog) A112M1L1 (qL [0,3,4,5] [1000000000] (S_f aaZ0 abZ0 sZ2) (qX 2 [0,3] [1000000000] (SX_f aaZ0 abZ0)) o) (S_f aaZ0 abZ0 sZ2 sZ10):=by
 unfold M_f at h
 simp only [ZC,S_f,A112M1L1]
 obtain ⟨cZ11,h⟩ | ⟨cZ11,h⟩:=cond_s h
 · obtain ⟨kZ12,hkZ12,h⟩:=bind_s h
   obtain ⟨hkZ12a,hkZ12b⟩:=grd_s hkZ12
   obtain ⟨yZ13,hyZ13,h⟩:=bind_s h
   obtain ⟨kZ14,hkZ14,h⟩:=bind_s h
   obtain ⟨hkZ14a,hkZ14b⟩:=grd_s hkZ14
   obtain ⟨yZ15,hyZ15,h⟩:=bind_s h
   obtain ⟨cZ16,h⟩ | ⟨cZ16,h⟩:=cond_s h
   · obtain ⟨kZ17,hkZ17,h⟩:=bind_s h
     obtain ⟨hkZ17a,hkZ17b⟩:=grd_s hkZ17
     obtain ⟨yZ18,hyZ18,h⟩:=bind_s h
     obtain ⟨lZ19,hlZ19,h⟩:=bnd_s h
     have eZ20:(sZ10.2.2.map AV.i).set (aaZ0+(Int.toNat sZ10.1)) (.i yZ13)=lZ19.map AV.i:=by rw [← hlZ19,List.map_set]
     cases h
     exact ZL (ZA cZ11 (ZA hkZ12a (ZA hkZ12b (ZA hyZ13 (ZA hkZ14a (ZA hkZ14b (ZA hyZ15 (ZA cZ16 (ZA hkZ17a (ZA hkZ17b (ZA hyZ18 eZ20))))))))))) (ZA S_f.eq_1 (ZA SX_f.eq_1 hlZ19.symm))
   · cases h
     exact ZL (ZA cZ11 (ZA hkZ12a (ZA hkZ12b (ZA hyZ13 (ZA hkZ14a (ZA hkZ14b (ZA hyZ15 cZ16))))))) (ZA S_f.eq_1 SX_f.eq_1)
 · cases h
   exact ZL cZ11 (ZA S_f.eq_1 SX_f.eq_1)
def S_aw (aaZ0:Nat) (abZ0:Nat) (acZ0:List Int) (v:Int):St:=⟨[(0,.sl 1000000000 aaZ0 abZ0),(3,.i v)],[(1000000000,.arr 1 (acZ0.map AV.i))]⟩
def SX_aw (aaZ0:Nat) (abZ0:Nat) (acZ0:List Int) (v:Unit):St:=⟨[(0,.sl 1000000000 aaZ0 abZ0)],[(1000000000,.arr 1 (acZ0.map AV.i))]⟩
theorem w_aw (aaZ0:Nat) (abZ0:Nat) (acZ0:List Int) (sZ2:Int) (o:Int ⊕ (Unit ⊕ (Nat×Nat×List Int))) (h:M_aw aaZ0 abZ0 acZ0 sZ2=some o):AWP (OkS Tryz.prog) A112M1L3 (qL [0,3] [1000000000] (S_aw aaZ0 abZ0 acZ0) (qS (qX 0 [0] [1000000000] (SX_aw aaZ0 abZ0 acZ0)) (qM V112M1 [1000000000] (fun (r:Nat×Nat×List Int)=>.sl 1000000000 r.1 r.2.1) (fun (r:Nat×Nat×List Int)=>[(1000000000,.arr 1 (r.2.2.map AV.i))]))) o) (S_aw aaZ0 abZ0 acZ0 sZ2):=by
 unfold M_aw at h
 simp only [ZC,S_aw,A112M1L3]
 obtain ⟨cZ3,h⟩ | ⟨cZ3,h⟩:=cond_s h
 · obtain ⟨kZ4,hkZ4,h⟩:=bind_s h
   obtain ⟨hkZ4a,hkZ4b⟩:=grd_s hkZ4
   obtain ⟨yZ5,hyZ5,h⟩:=bind_s h
   obtain ⟨kZ6,hkZ6,h⟩:=bind_s h
   obtain ⟨hkZ6a,hkZ6b⟩:=grd_s hkZ6
   obtain ⟨yZ7,hyZ7,h⟩:=bind_s h
   obtain ⟨cZ8,h⟩ | ⟨cZ8,h⟩:=cond_s h
   · obtain ⟨uZ9,huZ9,h⟩:=bind_s h
     obtain ⟨huZ9a,huZ9b,huZ9c,huZ9d⟩:=grd_s huZ9
     obtain ⟨oZ21,hoZ21,h⟩:=bind_s h
     try refine ZF (ZA cZ3 (ZA hkZ4a (ZA hkZ4b (ZA hyZ5 (ZA hkZ6a (ZA hkZ6b (ZA hyZ7 (ZA cZ8 (ZA huZ9a (ZA huZ9b (ZA huZ9c huZ9d))))))))))) ?_
     refine join_rule0 (blk_rule0 (loop_rule (w_f aaZ0 abZ0 sZ2) hoZ21 ?_)) ?_
     · exact ZK (ZA S_f.eq_1 SX_f.eq_1)
     · simp only [ZC,SX_f,A112M1R2]
       obtain ⟨uZ22,huZ22,h⟩:=bind_s h
       obtain ⟨huZ22a,huZ22b,huZ22c,huZ22d⟩:=grd_s huZ22
       obtain ⟨lZ23,hlZ23,h⟩:=bnd_s h
       have eZ24:over (oZ21.2.map AV.i) (aaZ0+(Int.toNat oZ21.1)) (List.replicate (abZ0 - (Int.toNat oZ21.1)) (.i 0:AV))=lZ23.map AV.i:=by rw [← hlZ23,← over_map] <;> simp [List.map_take]
       try simp only [Int.toNat_natCast] at eZ24
       have eZ25:lZ23.length=oZ21.2.length:=by rw [← hlZ23]; exact over_length _ _ _
       obtain ⟨uZ26,huZ26,h⟩:=bind_s h
       obtain ⟨huZ26a,huZ26b,huZ26c,huZ26d⟩:=grd_s huZ26
       cases h
       exact ZL (ZA cZ3 (ZA hkZ4a (ZA hkZ4b (ZA hyZ5 (ZA hkZ6a (ZA hkZ6b (ZA hyZ7 (ZA cZ8 (ZA huZ9a (ZA huZ9b (ZA huZ9c (ZA huZ9d (ZA huZ22a (ZA huZ22b (ZA huZ22c (ZA huZ22d (ZA eZ24 (ZA huZ26a (ZA huZ26b (ZA huZ26c huZ26d)))))))))))))))))))) (ZA V112M1.eq_1 eZ25)
   · cases h
     exact ZL (ZA cZ3 (ZA hkZ4a (ZA hkZ4b (ZA hyZ5 (ZA hkZ6a (ZA hkZ6b (ZA hyZ7 cZ8))))))) (ZA S_aw.eq_1 SX_aw.eq_1)
 · cases h
   exact ZL cZ3 (ZA S_aw.eq_1 SX_aw.eq_1)
theorem w_fh (aaZ0:Nat) (abZ0:Nat) (acZ0:List Int) {r:Nat×Nat×List Int} (h:M_fh aaZ0 abZ0 acZ0=some r):OkM Tryz.prog 112 [.sl 1000000000 aaZ0 abZ0] [(1000000000,.arr 1 (acZ0.map AV.i))] ((fun (r:Nat×Nat×List Int)=>.sl 1000000000 r.1 r.2.1) r) ((fun (r:Nat×Nat×List Int)=>[(1000000000,.arr 1 (r.2.2.map AV.i))]) r):=by
 refine okM_of_body (lr:=[1000000000]) hmix m112M1 rfl rfl ?_
 unfold M_fh at h
 simp only [ZC,A112M1,V112M1]
 obtain ⟨cZ1,h⟩ | ⟨cZ1,h⟩:=cond_s h
 · cases h
   exact ZL cZ1 V112M1.eq_1
 · obtain ⟨oZ27,hoZ27,h⟩:=bind_s h
   try refine ZF cZ1 ?_
   refine join_rule (o:=oZ27) (blk_rule sideM (loop_rule (w_aw aaZ0 abZ0 acZ0) hoZ27 ?_)) (fun vZ28 hv=>?_) (fun xZ29 hv e τ hne hq=>?_)
   · exact ZK (ZA S_aw.eq_1 SX_aw.eq_1)
   · subst hv
     simp only [] at h
     simp only [ZC,SX_aw,A112M1R4]
     cases h
     exact ZL cZ1 V112M1.eq_1
   · subst hv
     simp only [] at h
     obtain ⟨rfl,qZ30⟩:=hq
     cases h
     exact qZ30
def S_g (aZ0:List Int) (bZ0:List Int) (v:Int×List Int):St:=⟨[(1,.lst .o 1 (bZ0.map AV.i)),(5,.sl 5 0 v.2.length),(9,.lst .o 1 (aZ0.map AV.i)),(10,.i (aZ0.length:Int)),(11,.i v.1)],[(5,.arr 1 (v.2.map AV.i))]⟩
def SX_g (v:List Int):St:=⟨[(5,.sl 5 0 v.length)],[(5,.arr 1 (v.map AV.i))]⟩
theorem w_g (aZ0:List Int) (bZ0:List Int) (sZ1:Int×List Int) (o:(Int×List Int) ⊕ (List Int)) (h:M_g aZ0 bZ0 sZ1=some o):AWP (OkS Tryz.prog) A68L1 (qL [1,5,9,10,11] [5] (S_g aZ0 bZ0) (qX 0 [5] [5] (SX_g)) o) (S_g aZ0 bZ0 sZ1):=by
 unfold M_g at h
 simp only [ZC,S_g,A68L1]
 obtain ⟨cZ2,h⟩ | ⟨cZ2,h⟩:=cond_s h
 · obtain ⟨yZ3,hyZ3,h⟩:=bind_s h
   obtain ⟨hyZ3a,hyZ3b⟩:=geti_s hyZ3
   obtain ⟨rZ4,hrZ4,h⟩:=bind_s h
   refine ZF (ZA cZ2 (ZA hyZ3a hyZ3b)) ?_
   refine ZS (ZA cZ2 (ZA hyZ3a hyZ3b)) (w_cf _ _ hrZ4) ?_
   refine ZG ?_
   obtain ⟨cZ5,h⟩ | ⟨cZ5,h⟩:=cond_s h
   · obtain ⟨lZ6,hlZ6,h⟩:=bnd_s h
     have eZ7:Row.arr 1 [(.i yZ3:AV)]=Row.arr 1 (lZ6.map AV.i):=by rw [← hlZ6]; rfl
     have jjZ8:lZ6.length=1:=by rw [← hlZ6]; rfl
     obtain ⟨uZ9,huZ9,h⟩:=bind_s h
     have huZ9g:=grd_s huZ9
     obtain ⟨lZ10,hlZ10,h⟩:=bnd_s h
     have eZ11:sZ1.2.map AV.i++lZ6.map AV.i=lZ10.map AV.i:=by rw [← hlZ10,List.map_append]
     have eZ12:sZ1.2.length+1=lZ10.length:=by simp [← hlZ6,← hlZ10] <;> omega
     rw [eZ12] at huZ9g
     cases h
     exact ZL (ZA cZ2 (ZA hyZ3a (ZA hyZ3b (ZA cZ5 (ZA eZ7 (ZA jjZ8 (ZA huZ9g (ZA eZ11 eZ12)))))))) (ZA S_g.eq_1 (ZA SX_g.eq_1 (ZA hlZ6.symm (ZA hlZ10.symm jjZ8))))
   · cases h
     exact ZL (ZA cZ2 (ZA hyZ3a (ZA hyZ3b cZ5))) (ZA S_g.eq_1 SX_g.eq_1)
 · cases h
   exact ZL cZ2 (ZA S_g.eq_1 SX_g.eq_1)
theorem w_dd (aZ0:List Int) (bZ0:List Int) {r:List Int} (h:M_dd aZ0 bZ0=some r):Ok Tryz.prog 68 [.lst .o 1 (aZ0.map AV.i),.lst .o 1 (bZ0.map AV.i)] ((fun r=>.lst .u 1 (r.map AV.i)) r):=by
 refine ok_of_body hmix m68 rfl ?_
 unfold M_dd at h
 simp only [ZC,A68,V68,body_eq]
 obtain ⟨oZ13,hoZ13,h⟩:=bind_s h
 try refine ZF trivial ?_
 refine join_rule0 (blk_rule0 (loop_rule (w_g aZ0 bZ0) hoZ13 ?_)) ?_
 · exact ZK (ZA S_g.eq_1 SX_g.eq_1)
 · simp only [ZC,SX_g,A68R2]
   obtain ⟨rZ14,hrZ14,h⟩:=bind_s h
   refine ZF trivial ?_
   refine ZW trivial (w_ei _ hrZ14) (h2:=by first | exact nm_ok [1000000000] rfl (by decide +kernel) | exact nm_ok2 [1000000000] [] rfl (by decide +kernel) ZQ | exact ZQ) (hk:=?_)
   refine ZG ?_
   obtain ⟨rZ15,hrZ15,h⟩:=bind_s h
   refine ZF trivial ?_
   refine ZW trivial (w_fh _ _ _ hrZ15) (h2:=by first | exact nm_ok [1000000000] rfl (by decide +kernel) | exact nm_ok2 [1000000000] [] rfl (by decide +kernel) ZQ | exact ZQ) (hk:=?_)
   refine ZG ?_
   obtain ⟨lZ16,hlZ16,h⟩:=bnd_s h
   have eZ17:sub (rZ15.2.2.map AV.i) rZ15.1 rZ15.2.1=lZ16.map AV.i:=by rw [sub_mapT,hlZ16]
   cases h
   exact ZL eZ17 V68.eq_1
theorem w_cu (nZ0:TNetwork) (aZ0:List Int) (bZ0:List Int) {r:Bool} (h:M_cu nZ0 aZ0 bZ0=some r):Ok Tryz.prog 197 [.agg [.lst .o 1 (nZ0.Nodes.map AV.z),.lst .o 4 (nZ0.Fibers.map (e_TFiber .o))],.lst .o 1 (aZ0.map AV.i),.lst .o 1 (bZ0.map AV.i)] ((fun r=>.b r) r):=by
 refine ok_of_body hmix m197 rfl ?_
 unfold M_cu at h
 simp only [ZC,A197,V197,body_eq]
 obtain ⟨rZ1,hrZ1,h⟩:=bind_s h
 refine ZF trivial ?_
 refine ZU trivial (w_ct _ _ hrZ1) ?_
 refine ZG ?_
 obtain ⟨rZ2,hrZ2,h⟩:=bind_s h
 refine ZF trivial ?_
 refine ZU trivial (w_ct _ _ hrZ2) ?_
 refine ZG ?_
 obtain ⟨rZ3,hrZ3,h⟩:=bind_s h
 refine ZF trivial ?_
 refine ZU trivial (w_dd _ _ hrZ3) ?_
 refine ZG ?_
 cases h
 exact ZL trivial V197.eq_1
theorem w_fi (nZ0:TNetwork) (sZ0:TService) {r:Bool} (h:M_fi nZ0 sZ0=some r):Ok Tryz.prog 153 [.agg [.lst .o 1 (nZ0.Nodes.map AV.z),.lst .o 4 (nZ0.Fibers.map (e_TFiber .o))],.agg [.i sZ0.Id,.i sZ0.Class,.i sZ0.Work.Start,.lst .o 1 (sZ0.Work.Fibers.map AV.i),.i sZ0.WorkBlock.First,.i sZ0.WorkBlock.Count,.i sZ0.Spare.Start,.lst .o 1 (sZ0.Spare.Fibers.map AV.i),.i sZ0.SpareBlock.First,.i sZ0.SpareBlock.Count]] ((fun r=>.b r) r):=by
 refine ok_of_body hmix m153 rfl ?_
 unfold M_fi at h
 simp only [ZC,A153,V153,body_eq]
 obtain ⟨rZ1,hrZ1,h⟩:=bind_s h
 refine ZF trivial ?_
 refine ZU trivial (w_cg _ _ hrZ1) ?_
 refine ZG ?_
 obtain ⟨oZ8,hoZ8,h⟩:=bind_s h
 try refine ZF trivial ?_
 refine join_rule0 (sh:=(fun v=>⟨[(2,.pt 2 0 0),(3,.pt 3 0 0),(5,.sl 5 0 rZ1.1.length),(35,.b v)],[(2,.var (.agg [.lst .o 1 (nZ0.Nodes.map AV.z),.lst .o 4 (nZ0.Fibers.map (e_TFiber .o))])),(3,.var (.agg [.i sZ0.Id,.i sZ0.Class,.i sZ0.Work.Start,.lst .o 1 (sZ0.Work.Fibers.map AV.i),.i sZ0.WorkBlock.First,.i sZ0.WorkBlock.Count,.i sZ0.Spare.Start,.lst .o 1 (sZ0.Spare.Fibers.map AV.i),.i sZ0.SpareBlock.First,.i sZ0.SpareBlock.Count])),(5,.arr 1 (rZ1.1.map AV.i))]⟩)) (s:=oZ8) ?_ ?_
 · replace h:=hoZ8
   obtain ⟨rZ2,hrZ2,h⟩:=bind_s h
   refine ZF trivial ?_
   refine ZS trivial (w_c _ _ _ hrZ2) ?_
   refine ZG ?_
   obtain ⟨cZ3,h⟩ | ⟨cZ3,h⟩:=cond_s h
   · cases h
     exact ZL cZ3 trivial
   · obtain ⟨rZ4,hrZ4,h⟩:=bind_s h
     refine ZF cZ3 ?_
     refine ZS cZ3 (w_c _ _ _ hrZ4) ?_
     refine ZG ?_
     obtain ⟨cZ5,h⟩ | ⟨cZ5,h⟩:=cond_s h
     · cases h
       exact ZL (ZA cZ3 cZ5) trivial
     · obtain ⟨cZ6,h⟩ | ⟨cZ6,h⟩:=cond_s h
       · cases h
         exact ZL (ZA cZ3 (ZA cZ5 cZ6)) trivial
       · obtain ⟨rZ7,hrZ7,h⟩:=bind_s h
         refine ZF (ZA cZ3 (ZA cZ5 cZ6)) ?_
         refine ZS (ZA cZ3 (ZA cZ5 cZ6)) (w_cb _ hrZ7) ?_
         refine ZG ?_
         cases h
         exact ZL (ZA cZ3 (ZA cZ5 cZ6)) trivial
 · simp only [ZC,A153R1]
   obtain ⟨cZ9,h⟩ | ⟨cZ9,h⟩:=cond_s h
   · cases h
     exact ZL cZ9 V153.eq_1
   · obtain ⟨cZ10,h⟩ | ⟨cZ10,h⟩:=cond_s h
     · obtain ⟨oZ13,hoZ13,h⟩:=bind_s h
       try refine ZF (ZA cZ9 cZ10) ?_
       refine join_rule0 (sh:=(fun v=>⟨[(4,.b v)],[]⟩)) (s:=oZ13) ?_ ?_
       · replace h:=hoZ13
         obtain ⟨cZ11,h⟩ | ⟨cZ11,h⟩:=cond_s h
         · obtain ⟨cZ12,h⟩ | ⟨cZ12,h⟩:=cond_s h
           · cases h
             exact ZL (ZA cZ9 (ZA cZ10 (ZA cZ11 cZ12))) trivial
           · cases h
             exact ZL (ZA cZ9 (ZA cZ10 (ZA cZ11 cZ12))) trivial
         · cases h
           exact ZL (ZA cZ9 (ZA cZ10 cZ11)) trivial
       · simp only [ZC,A153R2]
         cases h
         exact ZL (ZA cZ9 cZ10) V153.eq_1
     · obtain ⟨rZ14,hrZ14,h⟩:=bind_s h
       refine ZF (ZA cZ9 cZ10) ?_
       refine ZU (ZA cZ9 cZ10) (w_cg _ _ hrZ14) ?_
       refine ZG ?_
       obtain ⟨cZ15,h⟩ | ⟨cZ15,h⟩:=cond_s h
       · obtain ⟨rZ16,hrZ16,h⟩:=bind_s h
         refine ZF (ZA cZ9 (ZA cZ10 cZ15)) ?_
         refine ZS (ZA cZ9 (ZA cZ10 cZ15)) (w_cb _ hrZ16) ?_
         refine ZG ?_
         obtain ⟨cZ17,h⟩ | ⟨cZ17,h⟩:=cond_s h
         · obtain ⟨kZ18,hkZ18,h⟩:=bind_s h
           obtain ⟨hkZ18a,hkZ18b⟩:=grd_s hkZ18
           obtain ⟨yZ19,hyZ19,h⟩:=bind_s h
           obtain ⟨kZ20,hkZ20,h⟩:=bind_s h
           obtain ⟨hkZ20a,hkZ20b⟩:=grd_s hkZ20
           obtain ⟨yZ21,hyZ21,h⟩:=bind_s h
           obtain ⟨cZ22,h⟩ | ⟨cZ22,h⟩:=cond_s h
           · obtain ⟨kZ23,hkZ23,h⟩:=bind_s h
             obtain ⟨hkZ23a,hkZ23b⟩:=grd_s hkZ23
             obtain ⟨yZ24,hyZ24,h⟩:=bind_s h
             obtain ⟨kZ25,hkZ25,h⟩:=bind_s h
             obtain ⟨hkZ25a,hkZ25b⟩:=grd_s hkZ25
             obtain ⟨yZ26,hyZ26,h⟩:=bind_s h
             obtain ⟨cZ27,h⟩ | ⟨cZ27,h⟩:=cond_s h
             · obtain ⟨rZ28,hrZ28,h⟩:=bind_s h
               refine ZF (ZA cZ9 (ZA cZ10 (ZA cZ15 (ZA cZ17 (ZA hkZ18a (ZA hkZ18b (ZA hyZ19 (ZA hkZ20a (ZA hkZ20b (ZA hyZ21 (ZA cZ22 (ZA hkZ23a (ZA hkZ23b (ZA hyZ24 (ZA hkZ25a (ZA hkZ25b (ZA hyZ26 cZ27))))))))))))))))) ?_
               refine ZS (ZA cZ9 (ZA cZ10 (ZA cZ15 (ZA cZ17 (ZA hkZ18a (ZA hkZ18b (ZA hyZ19 (ZA hkZ20a (ZA hkZ20b (ZA hyZ21 (ZA cZ22 (ZA hkZ23a (ZA hkZ23b (ZA hyZ24 (ZA hkZ25a (ZA hkZ25b (ZA hyZ26 cZ27))))))))))))))))) (w_cu _ _ _ hrZ28) ?_
               refine ZG ?_
               cases h
               exact ZL (ZA cZ9 (ZA cZ10 (ZA cZ15 (ZA cZ17 (ZA hkZ18a (ZA hkZ18b (ZA hyZ19 (ZA hkZ20a (ZA hkZ20b (ZA hyZ21 (ZA cZ22 (ZA hkZ23a (ZA hkZ23b (ZA hyZ24 (ZA hkZ25a (ZA hkZ25b (ZA hyZ26 cZ27))))))))))))))))) V153.eq_1
             · cases h
               exact ZL (ZA cZ9 (ZA cZ10 (ZA cZ15 (ZA cZ17 (ZA hkZ18a (ZA hkZ18b (ZA hyZ19 (ZA hkZ20a (ZA hkZ20b (ZA hyZ21 (ZA cZ22 (ZA hkZ23a (ZA hkZ23b (ZA hyZ24 (ZA hkZ25a (ZA hkZ25b (ZA hyZ26 cZ27))))))))))))))))) V153.eq_1
           · cases h
             exact ZL (ZA cZ9 (ZA cZ10 (ZA cZ15 (ZA cZ17 (ZA hkZ18a (ZA hkZ18b (ZA hyZ19 (ZA hkZ20a (ZA hkZ20b (ZA hyZ21 cZ22)))))))))) V153.eq_1
         · cases h
           exact ZL (ZA cZ9 (ZA cZ10 (ZA cZ15 cZ17))) V153.eq_1
       · cases h
         exact ZL (ZA cZ9 (ZA cZ10 cZ15)) V153.eq_1
theorem w_cr (bZ0:TBlock) {r:Int} (h:M_cr bZ0=some r):Ok Tryz.prog 184 [.agg [.i bZ0.First,.i bZ0.Count]] ((fun r=>.i r) r):=by
 refine ok_of_body hmix m184 rfl ?_
 unfold M_cr at h
 simp only [ZC,A184,V184,body_eq]
 obtain ⟨uZ1,huZ1,h⟩:=bind_s h
 have huZ1g:=grd_s huZ1
 obtain ⟨uZ2,huZ2,h⟩:=bind_s h
 have huZ2g:=grd_s huZ2
 cases h
 exact ZL (ZA huZ1g huZ2g) V184.eq_1
theorem w_cm (aZ0:TLight) (bZ0:TLight) {r:Bool} (h:M_cm aZ0 bZ0=some r):Ok Tryz.prog 131 [.agg [.i aZ0.Id,.i aZ0.Route.Start,.lst .o 1 (aZ0.Route.Fibers.map AV.i),.i aZ0.Block.First,.i aZ0.Block.Count],.agg [.i bZ0.Id,.i bZ0.Route.Start,.lst .o 1 (bZ0.Route.Fibers.map AV.i),.i bZ0.Block.First,.i bZ0.Block.Count]] ((fun r=>.b r) r):=by
 refine ok_of_body hmix m131 rfl ?_
 unfold M_cm at h
 simp only [ZC,A131,V131,body_eq]
 obtain ⟨rZ1,hrZ1,h⟩:=bind_s h
 refine ZF trivial ?_
 refine ZS trivial (w_cr _ hrZ1) ?_
 refine ZG ?_
 obtain ⟨rZ2,hrZ2,h⟩:=bind_s h
 refine ZF trivial ?_
 refine ZS trivial (w_cr _ hrZ2) ?_
 refine ZG ?_
 obtain ⟨cZ3,h⟩ | ⟨cZ3,h⟩:=cond_s h
 · obtain ⟨rZ4,hrZ4,h⟩:=bind_s h
   refine ZF cZ3 ?_
   refine ZU cZ3 (w_dd _ _ hrZ4) ?_
   refine ZG ?_
   cases h
   exact ZL cZ3 V131.eq_1
 · cases h
   exact ZL cZ3 V131.eq_1
theorem w_br (aZ0:TRoute) (xZ0:TBlock) (bZ0:TRoute) (yZ0:TBlock) {r:Bool} (h:M_br aZ0 xZ0 bZ0 yZ0=some r):Ok Tryz.prog 198 [.agg [.i aZ0.Start,.lst .o 1 (aZ0.Fibers.map AV.i)],.agg [.i xZ0.First,.i xZ0.Count],.agg [.i bZ0.Start,.lst .o 1 (bZ0.Fibers.map AV.i)],.agg [.i yZ0.First,.i yZ0.Count]] ((fun r=>.b r) r):=by
 refine ok_of_body hmix m198 rfl ?_
 unfold M_br at h
 simp only [ZC,A198,V198,body_eq]
 obtain ⟨rZ1,hrZ1,h⟩:=bind_s h
 refine ZF trivial ?_
 refine ZS trivial (w_cm _ _ hrZ1) ?_
 refine ZG ?_
 cases h
 exact ZL trivial V198.eq_1
theorem w_fj (nZ0:TNetwork) (aZ0:TService) (bZ0:TService) {r:Bool} (h:M_fj nZ0 aZ0 bZ0=some r):Ok Tryz.prog 155 [.agg [.lst .o 1 (nZ0.Nodes.map AV.z),.lst .o 4 (nZ0.Fibers.map (e_TFiber .o))],.agg [.i aZ0.Id,.i aZ0.Class,.i aZ0.Work.Start,.lst .o 1 (aZ0.Work.Fibers.map AV.i),.i aZ0.WorkBlock.First,.i aZ0.WorkBlock.Count,.i aZ0.Spare.Start,.lst .o 1 (aZ0.Spare.Fibers.map AV.i),.i aZ0.SpareBlock.First,.i aZ0.SpareBlock.Count],.agg [.i bZ0.Id,.i bZ0.Class,.i bZ0.Work.Start,.lst .o 1 (bZ0.Work.Fibers.map AV.i),.i bZ0.WorkBlock.First,.i bZ0.WorkBlock.Count,.i bZ0.Spare.Start,.lst .o 1 (bZ0.Spare.Fibers.map AV.i),.i bZ0.SpareBlock.First,.i bZ0.SpareBlock.Count]] ((fun r=>.b r) r):=by
 refine ok_of_body hmix m155 rfl ?_
 unfold M_fj at h
 simp only [ZC,A155,V155,body_eq]
 obtain ⟨oZ6,hoZ6,h⟩:=bind_s h
 try refine ZF trivial ?_
 refine join_rule0 (sh:=(fun v=>⟨[(3,.pt 3 0 0),(4,.pt 4 0 0),(5,.pt 5 0 0),(38,.b v)],[(3,.var (.agg [.lst .o 1 (nZ0.Nodes.map AV.z),.lst .o 4 (nZ0.Fibers.map (e_TFiber .o))])),(4,.var (.agg [.i aZ0.Id,.i aZ0.Class,.i aZ0.Work.Start,.lst .o 1 (aZ0.Work.Fibers.map AV.i),.i aZ0.WorkBlock.First,.i aZ0.WorkBlock.Count,.i aZ0.Spare.Start,.lst .o 1 (aZ0.Spare.Fibers.map AV.i),.i aZ0.SpareBlock.First,.i aZ0.SpareBlock.Count])),(5,.var (.agg [.i bZ0.Id,.i bZ0.Class,.i bZ0.Work.Start,.lst .o 1 (bZ0.Work.Fibers.map AV.i),.i bZ0.WorkBlock.First,.i bZ0.WorkBlock.Count,.i bZ0.Spare.Start,.lst .o 1 (bZ0.Spare.Fibers.map AV.i),.i bZ0.SpareBlock.First,.i bZ0.SpareBlock.Count]))]⟩)) (s:=oZ6) ?_ ?_
 · replace h:=hoZ6
   obtain ⟨rZ1,hrZ1,h⟩:=bind_s h
   refine ZF trivial ?_
   refine ZS trivial (w_br _ _ _ _ hrZ1) ?_
   refine ZG ?_
   obtain ⟨cZ2,h⟩ | ⟨cZ2,h⟩:=cond_s h
   · cases h
     exact ZL cZ2 trivial
   · obtain ⟨rZ3,hrZ3,h⟩:=bind_s h
     refine ZF cZ2 ?_
     refine ZS cZ2 (w_br _ _ _ _ hrZ3) ?_
     refine ZG ?_
     obtain ⟨cZ4,h⟩ | ⟨cZ4,h⟩:=cond_s h
     · cases h
       exact ZL (ZA cZ2 cZ4) trivial
     · obtain ⟨rZ5,hrZ5,h⟩:=bind_s h
       refine ZF (ZA cZ2 cZ4) ?_
       refine ZS (ZA cZ2 cZ4) (w_br _ _ _ _ hrZ5) ?_
       refine ZG ?_
       cases h
       exact ZL (ZA cZ2 cZ4) trivial
 · simp only [ZC,A155R1]
   obtain ⟨cZ7,h⟩ | ⟨cZ7,h⟩:=cond_s h
   · cases h
     exact ZL cZ7 V155.eq_1
   · obtain ⟨oZ11,hoZ11,h⟩:=bind_s h
     try refine ZF cZ7 ?_
     refine join_rule0 (sh:=(fun v=>⟨[(4,.pt 4 0 0),(5,.pt 5 0 0),(7,.b v)],[(4,.var (.agg [.i aZ0.Id,.i aZ0.Class,.i aZ0.Work.Start,.lst .o 1 (aZ0.Work.Fibers.map AV.i),.i aZ0.WorkBlock.First,.i aZ0.WorkBlock.Count,.i aZ0.Spare.Start,.lst .o 1 (aZ0.Spare.Fibers.map AV.i),.i aZ0.SpareBlock.First,.i aZ0.SpareBlock.Count])),(5,.var (.agg [.i bZ0.Id,.i bZ0.Class,.i bZ0.Work.Start,.lst .o 1 (bZ0.Work.Fibers.map AV.i),.i bZ0.WorkBlock.First,.i bZ0.WorkBlock.Count,.i bZ0.Spare.Start,.lst .o 1 (bZ0.Spare.Fibers.map AV.i),.i bZ0.SpareBlock.First,.i bZ0.SpareBlock.Count]))]⟩)) (s:=oZ11) ?_ ?_
     · replace h:=hoZ11
       obtain ⟨cZ8,h⟩ | ⟨cZ8,h⟩:=cond_s h
       · obtain ⟨cZ9,h⟩ | ⟨cZ9,h⟩:=cond_s h
         · obtain ⟨rZ10,hrZ10,h⟩:=bind_s h
           refine ZF (ZA cZ7 (ZA cZ8 cZ9)) ?_
           refine ZS (ZA cZ7 (ZA cZ8 cZ9)) (w_cu _ _ _ hrZ10) ?_
           refine ZG ?_
           cases h
           exact ZL (ZA cZ7 (ZA cZ8 cZ9)) trivial
         · cases h
           exact ZL (ZA cZ7 (ZA cZ8 cZ9)) trivial
       · cases h
         exact ZL (ZA cZ7 cZ8) trivial
     · simp only [ZC,A155R2]
       obtain ⟨cZ12,h⟩ | ⟨cZ12,h⟩:=cond_s h
       · cases h
         exact ZL (ZA cZ7 cZ12) V155.eq_1
       · obtain ⟨rZ13,hrZ13,h⟩:=bind_s h
         refine ZF (ZA cZ7 cZ12) ?_
         refine ZS (ZA cZ7 cZ12) (w_br _ _ _ _ hrZ13) ?_
         refine ZG ?_
         cases h
         exact ZL (ZA cZ7 cZ12) V155.eq_1
theorem w_de (ownZ0:TService) (p1Z0:TNetwork) (p2Z0:TService) {r:Bool} (h:M_de ownZ0 p1Z0 p2Z0=some r):Ok Tryz.prog 154 [.agg [.i ownZ0.Id,.i ownZ0.Class,.i ownZ0.Work.Start,.lst .o 1 (ownZ0.Work.Fibers.map AV.i),.i ownZ0.WorkBlock.First,.i ownZ0.WorkBlock.Count,.i ownZ0.Spare.Start,.lst .o 1 (ownZ0.Spare.Fibers.map AV.i),.i ownZ0.SpareBlock.First,.i ownZ0.SpareBlock.Count],.bp .o (.agg [.lst .o 1 (p1Z0.Nodes.map AV.z),.lst .o 4 (p1Z0.Fibers.map (e_TFiber .o))]) 0,.bp .o (.agg [.i p2Z0.Id,.i p2Z0.Class,.i p2Z0.Work.Start,.lst .o 1 (p2Z0.Work.Fibers.map AV.i),.i p2Z0.WorkBlock.First,.i p2Z0.WorkBlock.Count,.i p2Z0.Spare.Start,.lst .o 1 (p2Z0.Spare.Fibers.map AV.i),.i p2Z0.SpareBlock.First,.i p2Z0.SpareBlock.Count]) 0] ((fun r=>.b r) r):=by
 refine ok_of_body hmix m154 rfl ?_
 unfold M_de at h
 simp only [ZC,A154,V154,body_eq]
 obtain ⟨rZ1,hrZ1,h⟩:=bind_s h
 refine ZF trivial ?_
 refine ZS trivial (w_fj _ _ _ hrZ1) ?_
 refine ZG ?_
 cases h
 exact ZL trivial V154.eq_1
def S_ax (sZ0:List TService) (F_fZ0:Nat) (C_fZ0:List AV) (v:Int):St:=⟨[(0,.lst .o 10 (sZ0.map (e_TService .o))),(1,.fn F_fZ0 C_fZ0),(7,.i (sZ0.length:Int)),(8,.i v)],[]⟩
def SX_ax (v:Unit):St:=⟨[],[]⟩
theorem w_ax (sZ0:List TService) (fZ0:TService→Option Bool) (F_fZ0:Nat) (C_fZ0:List AV) (hC_fZ0:Fixed C_fZ0) (hf_fZ0:∀ (x0:TService) (r:Bool),fZ0 x0=some r→Ok Tryz.prog F_fZ0 ((.agg [.i x0.Id,.i x0.Class,.i x0.Work.Start,.lst .o 1 (x0.Work.Fibers.map AV.i),.i x0.WorkBlock.First,.i x0.WorkBlock.Count,.i x0.Spare.Start,.lst .o 1 (x0.Spare.Fibers.map AV.i),.i x0.SpareBlock.First,.i x0.SpareBlock.Count])::C_fZ0) (.b r)) (sZ1:Int) (o:Int ⊕ (Unit ⊕ Int)) (h:M_ax sZ0 fZ0 sZ1=some o):AWP (OkS Tryz.prog) A156L1 (qL [0,1,7,8] [] (S_ax sZ0 F_fZ0 C_fZ0) (qS (qX 0 [] [] (SX_ax)) (qR V156 (fun r=>.i r))) o) (S_ax sZ0 F_fZ0 C_fZ0 sZ1):=by
 unfold M_ax at h
 simp only [ZC,S_ax,A156L1]
 obtain ⟨cZ2,h⟩ | ⟨cZ2,h⟩:=cond_s h
 · obtain ⟨yZ3,hyZ3,h⟩:=bind_s h
   obtain ⟨hyZ3a,hyZ3b⟩:=geti_s hyZ3
   obtain ⟨rZ4,hrZ4,h⟩:=bind_s h
   refine ZF (ZA cZ2 (ZA hyZ3a hyZ3b)) ?_
   refine ZS (ZA cZ2 (ZA hyZ3a (ZA hyZ3b hC_fZ0.1))) (hf_fZ0 _ _ hrZ4) ?_
   refine ZG ?_
   obtain ⟨cZ5,h⟩ | ⟨cZ5,h⟩:=cond_s h
   · cases h
     exact ZL (ZA cZ2 (ZA hyZ3a (ZA hyZ3b cZ5))) (ZA V156.eq_1 (ZA hC_fZ0.2 ((fixed_ren hC_fZ0))))
   · cases h
     exact ZL (ZA cZ2 (ZA hyZ3a (ZA hyZ3b cZ5))) (ZA S_ax.eq_1 (ZA SX_ax.eq_1 (ZA hC_fZ0.2 ((fixed_ren hC_fZ0)))))
 · cases h
   exact ZL cZ2 (ZA S_ax.eq_1 (ZA SX_ax.eq_1 (ZA hC_fZ0.2 ((fixed_ren hC_fZ0)))))
theorem w_ge (sZ0:List TService) (fZ0:TService→Option Bool) {r:Int} (h:M_ge sZ0 fZ0=some r) (F_fZ0:Nat) (C_fZ0:List AV) (hC_fZ0:Fixed C_fZ0) (hf_fZ0:∀ (x0:TService) (r:Bool),fZ0 x0=some r→Ok Tryz.prog F_fZ0 ((.agg [.i x0.Id,.i x0.Class,.i x0.Work.Start,.lst .o 1 (x0.Work.Fibers.map AV.i),.i x0.WorkBlock.First,.i x0.WorkBlock.Count,.i x0.Spare.Start,.lst .o 1 (x0.Spare.Fibers.map AV.i),.i x0.SpareBlock.First,.i x0.SpareBlock.Count])::C_fZ0) (.b r)):Ok Tryz.prog 156 [.lst .o 10 (sZ0.map (e_TService .o)),.fn F_fZ0 C_fZ0] ((fun r=>.i r) r):=by
 refine ok_of_body hmix m156 rfl ?_
 unfold M_ge at h
 simp only [ZC,A156,V156,body_eq]
 obtain ⟨oZ6,hoZ6,h⟩:=bind_s h
 try refine ZF trivial ?_
 refine join_rule (o:=oZ6) (blk_rule sideR (loop_rule (w_ax sZ0 fZ0 F_fZ0 C_fZ0 hC_fZ0 hf_fZ0) hoZ6 ?_)) (fun vZ7 hv=>?_) (fun xZ8 hv e τ hne hq=>?_)
 · exact ZK (ZA S_ax.eq_1 (ZA SX_ax.eq_1 (ZA hC_fZ0.2 ((fixed_ren hC_fZ0)))))
 · subst hv
   simp only [] at h
   simp only [ZC,SX_ax,A156R2]
   cases h
   exact ZL trivial (ZA V156.eq_1 (ZA hC_fZ0.2 ((fixed_ren hC_fZ0))))
 · subst hv
   simp only [] at h
   obtain ⟨rfl,qZ9⟩:=hq
   cases h
   exact qZ9
theorem w_bz (sZ0:List TService) (fZ0:TService→Option Bool) {r:Bool} (h:M_bz sZ0 fZ0=some r) (F_fZ0:Nat) (C_fZ0:List AV) (hC_fZ0:Fixed C_fZ0) (hf_fZ0:∀ (x0:TService) (r:Bool),fZ0 x0=some r→Ok Tryz.prog F_fZ0 ((.agg [.i x0.Id,.i x0.Class,.i x0.Work.Start,.lst .o 1 (x0.Work.Fibers.map AV.i),.i x0.WorkBlock.First,.i x0.WorkBlock.Count,.i x0.Spare.Start,.lst .o 1 (x0.Spare.Fibers.map AV.i),.i x0.SpareBlock.First,.i x0.SpareBlock.Count])::C_fZ0) (.b r)):Ok Tryz.prog 95 [.lst .o 10 (sZ0.map (e_TService .o)),.fn F_fZ0 C_fZ0] ((fun r=>.b r) r):=by
 refine ok_of_body hmix m95 rfl ?_
 unfold M_bz at h
 simp only [ZC,A95,V95,body_eq]
 obtain ⟨rZ1,hrZ1,h⟩:=bind_s h
 refine ZF trivial ?_
 refine ZS hC_fZ0.1 (w_ge _ _ hrZ1 F_fZ0 C_fZ0 hC_fZ0 hf_fZ0) ?_
 refine ZG ?_
 cases h
 exact ZL trivial (ZA V95.eq_1 (ZA hC_fZ0.2 ((fixed_ren hC_fZ0))))
def S_q (nZ0:TNetwork) (listZ0:List TService) (v:Int):St:=⟨[(1,.lst .o 10 (listZ0.map (e_TService .o))),(2,.pt 2 0 0),(15,.lst .o 10 (listZ0.map (e_TService .o))),(16,.i (listZ0.length:Int)),(17,.i v)],[(2,.var (.agg [.lst .o 1 (nZ0.Nodes.map AV.z),.lst .o 4 (nZ0.Fibers.map (e_TFiber .o))]))]⟩
def SX_q (v:Unit):St:=⟨[],[]⟩
theorem w_q (nZ0:TNetwork) (listZ0:List TService) (sZ5:Int) (o:Int ⊕ (Unit ⊕ Bool)) (h:M_q nZ0 listZ0 sZ5=some o):AWP (OkS Tryz.prog) A94L2 (qL [1,2,15,16,17] [2] (S_q nZ0 listZ0) (qS (qX 0 [] [] (SX_q)) (qR V94 (fun r=>.b r))) o) (S_q nZ0 listZ0 sZ5):=by
 unfold M_q at h
 simp only [ZC,S_q,A94L2]
 obtain ⟨cZ6,h⟩ | ⟨cZ6,h⟩:=cond_s h
 · obtain ⟨yZ7,hyZ7,h⟩:=bind_s h
   obtain ⟨hyZ7a,hyZ7b⟩:=geti_s hyZ7
   obtain ⟨rZ8,hrZ8,h⟩:=bind_s h
   refine ZF (ZA cZ6 (ZA hyZ7a hyZ7b)) ?_
   refine ZS (ZA cZ6 (ZA hyZ7a hyZ7b)) (w_fi _ _ hrZ8) ?_
   refine ZG ?_
   obtain ⟨cZ9,h⟩ | ⟨cZ9,h⟩:=cond_s h
   · cases h
     exact ZL (ZA cZ6 (ZA hyZ7a (ZA hyZ7b cZ9))) V94.eq_1
   · obtain ⟨cZ10,h⟩ | ⟨cZ10,h⟩:=cond_s h
     · obtain ⟨yZ11,hyZ11,h⟩:=bind_s h
       obtain ⟨hyZ11a,hyZ11b⟩:=geti_s hyZ11
       obtain ⟨cZ12,h⟩ | ⟨cZ12,h⟩:=cond_s h
       · cases h
         exact ZL (ZA cZ6 (ZA hyZ7a (ZA hyZ7b (ZA cZ9 (ZA cZ10 (ZA hyZ11a (ZA hyZ11b cZ12))))))) V94.eq_1
       · obtain ⟨lZ13,hlZ13,h⟩:=bind_s h
         obtain ⟨hlZ13a,hlZ13b,hlZ13c,hlZ13d,hlZ13e⟩:=slT_s (e_TService .o) hlZ13
         obtain ⟨rZ14,hrZ14,h⟩:=bind_s h
         refine ZF (ZA cZ6 (ZA hyZ7a (ZA hyZ7b (ZA cZ9 (ZA cZ10 (ZA hyZ11a (ZA hyZ11b (ZA cZ12 (ZA hlZ13a (ZA hlZ13b (ZA hlZ13c (ZA hlZ13d hlZ13e)))))))))))) ?_
         refine ZS (ZA cZ6 (ZA hyZ7a (ZA hyZ7b (ZA cZ9 (ZA cZ10 (ZA hyZ11a (ZA hyZ11b (ZA cZ12 (ZA hlZ13a (ZA hlZ13b (ZA hlZ13c (ZA hlZ13d hlZ13e)))))))))))) (w_bz _ _ hrZ14 154 [.bp .o (.agg [.lst .o 1 (nZ0.Nodes.map AV.z),.lst .o 4 (nZ0.Fibers.map (e_TFiber .o))]) 0,.bp .o (.agg [.i yZ7.Id,.i yZ7.Class,.i yZ7.Work.Start,.lst .o 1 (yZ7.Work.Fibers.map AV.i),.i yZ7.WorkBlock.First,.i yZ7.WorkBlock.Count,.i yZ7.Spare.Start,.lst .o 1 (yZ7.Spare.Fibers.map AV.i),.i yZ7.SpareBlock.First,.i yZ7.SpareBlock.Count]) 0] ⟨fun ρ k=>by simp only [VS1,VS2,VS3,VS4,VS5,VS6,VT1,VT2,finM_ret,finM_nrm,decide_true,decide_false,List.nodup_nil,List.nodup_cons,oks_p,oks_m,oks_h,ne_eq,not_false_eq_true,Int.reduceEq,Int.reduceNe,true_and,false_and,Nat.reduceSub,Nat.reduceMul,↓reduceIte,reduceCtorEq,Nat.reduceEqDiff,Nat.reduceAdd,Nat.reduceLeDiff,Int.reduceLE],by simp [mentsL,AV.ments]⟩ (fun _ _ h=>w_de _ _ _ h)) ?_
         refine ZG ?_
         obtain ⟨cZ15,h⟩ | ⟨cZ15,h⟩:=cond_s h
         · cases h
           exact ZL (ZA cZ6 (ZA hyZ7a (ZA hyZ7b (ZA cZ9 (ZA cZ10 (ZA hyZ11a (ZA hyZ11b (ZA cZ12 (ZA hlZ13a (ZA hlZ13b (ZA hlZ13c (ZA hlZ13d (ZA hlZ13e cZ15))))))))))))) V94.eq_1
         · cases h
           exact ZL (ZA cZ6 (ZA hyZ7a (ZA hyZ7b (ZA cZ9 (ZA cZ10 (ZA hyZ11a (ZA hyZ11b (ZA cZ12 (ZA hlZ13a (ZA hlZ13b (ZA hlZ13c (ZA hlZ13d (ZA hlZ13e cZ15))))))))))))) (ZA S_q.eq_1 SX_q.eq_1)
     · obtain ⟨lZ16,hlZ16,h⟩:=bind_s h
       obtain ⟨hlZ16a,hlZ16b,hlZ16c,hlZ16d,hlZ16e⟩:=slT_s (e_TService .o) hlZ16
       obtain ⟨rZ17,hrZ17,h⟩:=bind_s h
       refine ZF (ZA cZ6 (ZA hyZ7a (ZA hyZ7b (ZA cZ9 (ZA cZ10 (ZA hlZ16a (ZA hlZ16b (ZA hlZ16c (ZA hlZ16d hlZ16e))))))))) ?_
       refine ZS (ZA cZ6 (ZA hyZ7a (ZA hyZ7b (ZA cZ9 (ZA cZ10 (ZA hlZ16a (ZA hlZ16b (ZA hlZ16c (ZA hlZ16d hlZ16e))))))))) (w_bz _ _ hrZ17 154 [.bp .o (.agg [.lst .o 1 (nZ0.Nodes.map AV.z),.lst .o 4 (nZ0.Fibers.map (e_TFiber .o))]) 0,.bp .o (.agg [.i yZ7.Id,.i yZ7.Class,.i yZ7.Work.Start,.lst .o 1 (yZ7.Work.Fibers.map AV.i),.i yZ7.WorkBlock.First,.i yZ7.WorkBlock.Count,.i yZ7.Spare.Start,.lst .o 1 (yZ7.Spare.Fibers.map AV.i),.i yZ7.SpareBlock.First,.i yZ7.SpareBlock.Count]) 0] ⟨fun ρ k=>by simp only [VS1,VS2,VS3,VS4,VS5,VS6,VT1,VT2,finM_ret,finM_nrm,decide_true,decide_false,List.nodup_nil,List.nodup_cons,oks_p,oks_m,oks_h,ne_eq,not_false_eq_true,Int.reduceEq,Int.reduceNe,true_and,false_and,Nat.reduceSub,Nat.reduceMul,↓reduceIte,reduceCtorEq,Nat.reduceEqDiff,Nat.reduceAdd,Nat.reduceLeDiff,Int.reduceLE],by simp [mentsL,AV.ments]⟩ (fun _ _ h=>w_de _ _ _ h)) ?_
       refine ZG ?_
       obtain ⟨cZ18,h⟩ | ⟨cZ18,h⟩:=cond_s h
       · cases h
         exact ZL (ZA cZ6 (ZA hyZ7a (ZA hyZ7b (ZA cZ9 (ZA cZ10 (ZA hlZ16a (ZA hlZ16b (ZA hlZ16c (ZA hlZ16d (ZA hlZ16e cZ18)))))))))) V94.eq_1
       · cases h
         exact ZL (ZA cZ6 (ZA hyZ7a (ZA hyZ7b (ZA cZ9 (ZA cZ10 (ZA hlZ16a (ZA hlZ16b (ZA hlZ16c (ZA hlZ16d (ZA hlZ16e cZ18)))))))))) (ZA S_q.eq_1 SX_q.eq_1)
 · cases h
   exact ZL cZ6 (ZA S_q.eq_1 SX_q.eq_1)
theorem w_fk (nZ0:TNetwork) (listZ0:List TService) {r:Bool} (h:M_fk nZ0 listZ0=some r):Ok Tryz.prog 94 [.agg [.lst .o 1 (nZ0.Nodes.map AV.z),.lst .o 4 (nZ0.Fibers.map (e_TFiber .o))],.lst .o 10 (listZ0.map (e_TService .o))] ((fun r=>.b r) r):=by
 refine ok_of_body hmix m94 rfl ?_
 unfold M_fk at h
 simp only [ZC,A94,V94,body_eq]
 obtain ⟨oZ3,hoZ3,h⟩:=bind_s h
 try refine ZF trivial ?_
 refine join_rule0 (sh:=(fun v=>⟨[(1,.lst .o 10 (listZ0.map (e_TService .o))),(2,.pt 2 0 0),(14,.b v)],[(2,.var (.agg [.lst .o 1 (nZ0.Nodes.map AV.z),.lst .o 4 (nZ0.Fibers.map (e_TFiber .o))]))]⟩)) (s:=oZ3) ?_ ?_
 · replace h:=hoZ3
   obtain ⟨rZ1,hrZ1,h⟩:=bind_s h
   refine ZF trivial ?_
   refine ZS trivial (w_cx _ hrZ1) ?_
   refine ZG ?_
   obtain ⟨cZ2,h⟩ | ⟨cZ2,h⟩:=cond_s h
   · cases h
     exact ZL cZ2 trivial
   · cases h
     exact ZL cZ2 trivial
 · simp only [ZC,A94R1]
   obtain ⟨cZ4,h⟩ | ⟨cZ4,h⟩:=cond_s h
   · cases h
     exact ZL cZ4 V94.eq_1
   · obtain ⟨oZ19,hoZ19,h⟩:=bind_s h
     try refine ZF cZ4 ?_
     refine join_rule (o:=oZ19) (blk_rule sideR (loop_rule (w_q nZ0 listZ0) hoZ19 ?_)) (fun vZ20 hv=>?_) (fun xZ21 hv e τ hne hq=>?_)
     · exact ZK (ZA S_q.eq_1 SX_q.eq_1)
     · subst hv
       simp only [] at h
       simp only [ZC,SX_q,A94R3]
       cases h
       exact ZL cZ4 V94.eq_1
     · subst hv
       simp only [] at h
       obtain ⟨rfl,qZ22⟩:=hq
       cases h
       exact qZ22
theorem w_gf (sZ0:TService) {r:Bool} (h:M_gf sZ0=some r):Ok Tryz.prog 96 [.agg [.i sZ0.Id,.i sZ0.Class,.i sZ0.Work.Start,.lst .o 1 (sZ0.Work.Fibers.map AV.i),.i sZ0.WorkBlock.First,.i sZ0.WorkBlock.Count,.i sZ0.Spare.Start,.lst .o 1 (sZ0.Spare.Fibers.map AV.i),.i sZ0.SpareBlock.First,.i sZ0.SpareBlock.Count]] ((fun r=>.b r) r):=by
 refine ok_of_body hmix m96 rfl ?_
 unfold M_gf at h
 simp only [ZC,A96,V96,body_eq]
 cases h
 exact ZL trivial V96.eq_1
theorem w_fu (nZ0:TNetwork) {r:TNetwork} (h:M_fu nZ0=some r):Ok Tryz.prog 157 [.agg [.lst .o 1 (nZ0.Nodes.map AV.z),.lst .o 4 (nZ0.Fibers.map (e_TFiber .o))]] ((fun r=>.agg [.lst .u 1 (r.Nodes.map AV.z),.lst .u 4 (r.Fibers.map (e_TFiber .u))]) r):=by
 refine ok_of_body hmix m157 rfl ?_
 unfold M_fu at h
 simp only [ZC,A157,V157,body_eq]
 obtain ⟨uZ1,huZ1,h⟩:=bind_s h
 have huZ1g:=grd_s huZ1
 obtain ⟨uZ2,huZ2,h⟩:=bind_s h
 have huZ2g:=grd_s huZ2
 cases h
 exact ZL (ZA huZ1g huZ2g) V157.eq_1
theorem w_fv (rZ0:TRoute) {r:TRoute} (h:M_fv rZ0=some r):Ok Tryz.prog 108 [.agg [.i rZ0.Start,.lst .o 1 (rZ0.Fibers.map AV.i)]] ((fun r=>.agg [.i r.Start,.lst .u 1 (r.Fibers.map AV.i)]) r):=by
 refine ok_of_body hmix m108 rfl ?_
 unfold M_fv at h
 simp only [ZC,A108,V108,body_eq]
 obtain ⟨uZ1,huZ1,h⟩:=bind_s h
 have huZ1g:=grd_s huZ1
 cases h
 exact ZL huZ1g V108.eq_1
def S_x (pZ0:TPlan) (rZ1:TNetwork) (v:Int×List TLight):St:=⟨[(2,.pt 2 0 0),(3,.pt 3 0 0),(11,.lst .o 5 (pZ0.Lights.map (e_TLight .o))),(12,.i (pZ0.Lights.length:Int)),(13,.i v.1)],[(2,.var (.agg [.lst .u 1 [],.lst .u 4 [],.lst .u 5 []])),(3,.var (.agg [.sl 500000192 0 rZ1.Nodes.length,.sl 500000193 0 rZ1.Fibers.length,.sl 500000194 0 v.2.length])),(500000192,.arr 1 (rZ1.Nodes.map AV.z)),(500000193,.arr 4 (rZ1.Fibers.map (e_TFiber .u))),(500000194,.arr 5 (v.2.map (e_TLight .u)))]⟩
def SX_x (rZ1:TNetwork) (v:List TLight):St:=⟨[(2,.pt 2 0 0),(3,.pt 3 0 0)],[(2,.var (.agg [.lst .u 1 [],.lst .u 4 [],.lst .u 5 []])),(3,.var (.agg [.sl 500000192 0 rZ1.Nodes.length,.sl 500000193 0 rZ1.Fibers.length,.sl 500000194 0 v.length])),(500000192,.arr 1 (rZ1.Nodes.map AV.z)),(500000193,.arr 4 (rZ1.Fibers.map (e_TFiber .u))),(500000194,.arr 5 (v.map (e_TLight .u)))]⟩
theorem w_x (pZ0:TPlan) (rZ1:TNetwork) (sZ2:Int×List TLight) (o:(Int×List TLight) ⊕ (List TLight)) (h:M_x pZ0 sZ2=some o):AWP (OkS Tryz.prog) A98L1 (qL [2,3,11,12,13] [2,3,500000192,500000193,500000194] (S_x pZ0 rZ1) (qX 0 [2,3] [2,3,500000192,500000193,500000194] (SX_x rZ1)) o) (S_x pZ0 rZ1 sZ2):=by
 unfold M_x at h
 simp only [ZC,S_x,A98L1]
 obtain ⟨cZ3,h⟩ | ⟨cZ3,h⟩:=cond_s h
 · obtain ⟨yZ4,hyZ4,h⟩:=bind_s h
   obtain ⟨hyZ4a,hyZ4b⟩:=geti_s hyZ4
   obtain ⟨rZ5,hrZ5,h⟩:=bind_s h
   refine ZF (ZA cZ3 (ZA hyZ4a hyZ4b)) ?_
   refine ZU (ZA cZ3 (ZA hyZ4a hyZ4b)) (w_fv _ hrZ5) ?_
   refine ZG ?_
   obtain ⟨lZ6,hlZ6,h⟩:=bnd_s h
   have eZ7:Row.arr 5 [(.agg [.i yZ4.Id,.i rZ5.Start,.lst .u 1 (rZ5.Fibers.map AV.i),.i yZ4.Block.First,.i yZ4.Block.Count]:AV)]=Row.arr 5 (lZ6.map (e_TLight .u)):=by rw [← hlZ6]; rfl
   have jjZ8:lZ6.length=1:=by rw [← hlZ6]; rfl
   obtain ⟨uZ9,huZ9,h⟩:=bind_s h
   have huZ9g:=grd_s huZ9
   obtain ⟨lZ10,hlZ10,h⟩:=bnd_s h
   have eZ11:sZ2.2.map (e_TLight .u)++lZ6.map (e_TLight .u)=lZ10.map (e_TLight .u):=by rw [← hlZ10,List.map_append]
   have eZ12:sZ2.2.length+1=lZ10.length:=by simp [← hlZ6,← hlZ10] <;> omega
   rw [eZ12] at huZ9g
   cases h
   exact ZL (ZA cZ3 (ZA hyZ4a (ZA hyZ4b (ZA eZ7 (ZA jjZ8 (ZA huZ9g (ZA eZ11 eZ12))))))) (ZA S_x.eq_1 (ZA SX_x.eq_1 (ZA hlZ6.symm (ZA hlZ10.symm jjZ8))))
 · cases h
   exact ZL cZ3 (ZA S_x.eq_1 SX_x.eq_1)
theorem w_dj (pZ0:TPlan) {r:TPlan} (h:M_dj pZ0=some r):Ok Tryz.prog 98 [.agg [.lst .o 1 (pZ0.Network.Nodes.map AV.z),.lst .o 4 (pZ0.Network.Fibers.map (e_TFiber .o)),.lst .o 5 (pZ0.Lights.map (e_TLight .o))]] ((fun r=>.agg [.lst .u 1 (r.Network.Nodes.map AV.z),.lst .u 4 (r.Network.Fibers.map (e_TFiber .u)),.lst .u 5 (r.Lights.map (e_TLight .u))]) r):=by
 refine ok_of_body hmix m98 rfl ?_
 unfold M_dj at h
 simp only [ZC,A98,V98,body_eq]
 obtain ⟨rZ1,hrZ1,h⟩:=bind_s h
 refine ZF trivial ?_
 refine ZU trivial (w_fu _ hrZ1) ?_
 refine ZG ?_
 obtain ⟨oZ13,hoZ13,h⟩:=bind_s h
 try refine ZF trivial ?_
 refine join_rule0 (blk_rule0 (loop_rule (w_x pZ0 rZ1) hoZ13 ?_)) ?_
 · exact ZK (ZA S_x.eq_1 SX_x.eq_1)
 · simp only [ZC,SX_x,A98R2]
   cases h
   exact ZL trivial V98.eq_1
theorem w_fl (nZ0:TNetwork) (xZ0:TLight) {r:Bool} (h:M_fl nZ0 xZ0=some r):Ok Tryz.prog 129 [.agg [.lst .o 1 (nZ0.Nodes.map AV.z),.lst .o 4 (nZ0.Fibers.map (e_TFiber .o))],.agg [.i xZ0.Id,.i xZ0.Route.Start,.lst .o 1 (xZ0.Route.Fibers.map AV.i),.i xZ0.Block.First,.i xZ0.Block.Count]] ((fun r=>.b r) r):=by
 refine ok_of_body hmix m129 rfl ?_
 unfold M_fl at h
 simp only [ZC,A129,V129,body_eq]
 obtain ⟨rZ1,hrZ1,h⟩:=bind_s h
 refine ZF trivial ?_
 refine ZU trivial (w_cg _ _ hrZ1) ?_
 refine ZG ?_
 obtain ⟨cZ2,h⟩ | ⟨cZ2,h⟩:=cond_s h
 · obtain ⟨rZ3,hrZ3,h⟩:=bind_s h
   refine ZF cZ2 ?_
   refine ZS cZ2 (w_c _ _ _ hrZ3) ?_
   refine ZG ?_
   obtain ⟨cZ4,h⟩ | ⟨cZ4,h⟩:=cond_s h
   · obtain ⟨rZ5,hrZ5,h⟩:=bind_s h
     refine ZF (ZA cZ2 cZ4) ?_
     refine ZS (ZA cZ2 cZ4) (w_cb _ hrZ5) ?_
     refine ZG ?_
     cases h
     exact ZL (ZA cZ2 cZ4) V129.eq_1
   · cases h
     exact ZL (ZA cZ2 cZ4) V129.eq_1
 · cases h
   exact ZL cZ2 V129.eq_1
theorem w_df (ownZ0:TLight) (p1Z0:TLight) {r:Bool} (h:M_df ownZ0 p1Z0=some r):Ok Tryz.prog 130 [.agg [.i ownZ0.Id,.i ownZ0.Route.Start,.lst .o 1 (ownZ0.Route.Fibers.map AV.i),.i ownZ0.Block.First,.i ownZ0.Block.Count],.bp .o (.agg [.i p1Z0.Id,.i p1Z0.Route.Start,.lst .o 1 (p1Z0.Route.Fibers.map AV.i),.i p1Z0.Block.First,.i p1Z0.Block.Count]) 0] ((fun r=>.b r) r):=by
 refine ok_of_body hmix m130 rfl ?_
 unfold M_df at h
 simp only [ZC,A130,V130,body_eq]
 obtain ⟨rZ1,hrZ1,h⟩:=bind_s h
 refine ZF trivial ?_
 refine ZS trivial (w_cm _ _ hrZ1) ?_
 refine ZG ?_
 cases h
 exact ZL trivial V130.eq_1
def S_ay (sZ0:List TLight) (F_fZ0:Nat) (C_fZ0:List AV) (v:Int):St:=⟨[(0,.lst .o 5 (sZ0.map (e_TLight .o))),(1,.fn F_fZ0 C_fZ0),(7,.i (sZ0.length:Int)),(8,.i v)],[]⟩
def SX_ay (v:Unit):St:=⟨[],[]⟩
theorem w_ay (sZ0:List TLight) (fZ0:TLight→Option Bool) (F_fZ0:Nat) (C_fZ0:List AV) (hC_fZ0:Fixed C_fZ0) (hf_fZ0:∀ (x0:TLight) (r:Bool),fZ0 x0=some r→Ok Tryz.prog F_fZ0 ((.agg [.i x0.Id,.i x0.Route.Start,.lst .o 1 (x0.Route.Fibers.map AV.i),.i x0.Block.First,.i x0.Block.Count])::C_fZ0) (.b r)) (sZ1:Int) (o:Int ⊕ (Unit ⊕ Int)) (h:M_ay sZ0 fZ0 sZ1=some o):AWP (OkS Tryz.prog) A133L1 (qL [0,1,7,8] [] (S_ay sZ0 F_fZ0 C_fZ0) (qS (qX 0 [] [] (SX_ay)) (qR V133 (fun r=>.i r))) o) (S_ay sZ0 F_fZ0 C_fZ0 sZ1):=by
 unfold M_ay at h
 simp only [ZC,S_ay,A133L1]
 obtain ⟨cZ2,h⟩ | ⟨cZ2,h⟩:=cond_s h
 · obtain ⟨yZ3,hyZ3,h⟩:=bind_s h
   obtain ⟨hyZ3a,hyZ3b⟩:=geti_s hyZ3
   obtain ⟨rZ4,hrZ4,h⟩:=bind_s h
   refine ZF (ZA cZ2 (ZA hyZ3a hyZ3b)) ?_
   refine ZS (ZA cZ2 (ZA hyZ3a (ZA hyZ3b hC_fZ0.1))) (hf_fZ0 _ _ hrZ4) ?_
   refine ZG ?_
   obtain ⟨cZ5,h⟩ | ⟨cZ5,h⟩:=cond_s h
   · cases h
     exact ZL (ZA cZ2 (ZA hyZ3a (ZA hyZ3b cZ5))) (ZA V133.eq_1 (ZA hC_fZ0.2 ((fixed_ren hC_fZ0))))
   · cases h
     exact ZL (ZA cZ2 (ZA hyZ3a (ZA hyZ3b cZ5))) (ZA S_ay.eq_1 (ZA SX_ay.eq_1 (ZA hC_fZ0.2 ((fixed_ren hC_fZ0)))))
 · cases h
   exact ZL cZ2 (ZA S_ay.eq_1 (ZA SX_ay.eq_1 (ZA hC_fZ0.2 ((fixed_ren hC_fZ0)))))
theorem w_gg (sZ0:List TLight) (fZ0:TLight→Option Bool) {r:Int} (h:M_gg sZ0 fZ0=some r) (F_fZ0:Nat) (C_fZ0:List AV) (hC_fZ0:Fixed C_fZ0) (hf_fZ0:∀ (x0:TLight) (r:Bool),fZ0 x0=some r→Ok Tryz.prog F_fZ0 ((.agg [.i x0.Id,.i x0.Route.Start,.lst .o 1 (x0.Route.Fibers.map AV.i),.i x0.Block.First,.i x0.Block.Count])::C_fZ0) (.b r)):Ok Tryz.prog 133 [.lst .o 5 (sZ0.map (e_TLight .o)),.fn F_fZ0 C_fZ0] ((fun r=>.i r) r):=by
 refine ok_of_body hmix m133 rfl ?_
 unfold M_gg at h
 simp only [ZC,A133,V133,body_eq]
 obtain ⟨oZ6,hoZ6,h⟩:=bind_s h
 try refine ZF trivial ?_
 refine join_rule (o:=oZ6) (blk_rule sideR (loop_rule (w_ay sZ0 fZ0 F_fZ0 C_fZ0 hC_fZ0 hf_fZ0) hoZ6 ?_)) (fun vZ7 hv=>?_) (fun xZ8 hv e τ hne hq=>?_)
 · exact ZK (ZA S_ay.eq_1 (ZA SX_ay.eq_1 (ZA hC_fZ0.2 ((fixed_ren hC_fZ0)))))
 · subst hv
   simp only [] at h
   simp only [ZC,SX_ay,A133R2]
   cases h
   exact ZL trivial (ZA V133.eq_1 (ZA hC_fZ0.2 ((fixed_ren hC_fZ0))))
 · subst hv
   simp only [] at h
   obtain ⟨rfl,qZ9⟩:=hq
   cases h
   exact qZ9
theorem w_co (sZ0:List TLight) (fZ0:TLight→Option Bool) {r:Bool} (h:M_co sZ0 fZ0=some r) (F_fZ0:Nat) (C_fZ0:List AV) (hC_fZ0:Fixed C_fZ0) (hf_fZ0:∀ (x0:TLight) (r:Bool),fZ0 x0=some r→Ok Tryz.prog F_fZ0 ((.agg [.i x0.Id,.i x0.Route.Start,.lst .o 1 (x0.Route.Fibers.map AV.i),.i x0.Block.First,.i x0.Block.Count])::C_fZ0) (.b r)):Ok Tryz.prog 65 [.lst .o 5 (sZ0.map (e_TLight .o)),.fn F_fZ0 C_fZ0] ((fun r=>.b r) r):=by
 refine ok_of_body hmix m65 rfl ?_
 unfold M_co at h
 simp only [ZC,A65,V65,body_eq]
 obtain ⟨rZ1,hrZ1,h⟩:=bind_s h
 refine ZF trivial ?_
 refine ZS hC_fZ0.1 (w_gg _ _ hrZ1 F_fZ0 C_fZ0 hC_fZ0 hf_fZ0) ?_
 refine ZG ?_
 cases h
 exact ZL trivial (ZA V65.eq_1 (ZA hC_fZ0.2 ((fixed_ren hC_fZ0))))
def S_r (pZ0:TPlan) (v:Int):St:=⟨[(1,.pt 1 0 0),(16,.lst .o 5 (pZ0.Lights.map (e_TLight .o))),(17,.i (pZ0.Lights.length:Int)),(18,.i v)],[(1,.var (.agg [.lst .o 1 (pZ0.Network.Nodes.map AV.z),.lst .o 4 (pZ0.Network.Fibers.map (e_TFiber .o)),.lst .o 5 (pZ0.Lights.map (e_TLight .o))]))]⟩
def SX_r (v:Unit):St:=⟨[],[]⟩
theorem w_r (pZ0:TPlan) (sZ5:Int) (o:Int ⊕ (Unit ⊕ Bool)) (h:M_r pZ0 sZ5=some o):AWP (OkS Tryz.prog) A63L2 (qL [1,16,17,18] [1] (S_r pZ0) (qS (qX 0 [] [] (SX_r)) (qR V63 (fun r=>.b r))) o) (S_r pZ0 sZ5):=by
 unfold M_r at h
 simp only [ZC,S_r,A63L2]
 obtain ⟨cZ6,h⟩ | ⟨cZ6,h⟩:=cond_s h
 · obtain ⟨yZ7,hyZ7,h⟩:=bind_s h
   obtain ⟨hyZ7a,hyZ7b⟩:=geti_s hyZ7
   obtain ⟨rZ8,hrZ8,h⟩:=bind_s h
   refine ZF (ZA cZ6 (ZA hyZ7a hyZ7b)) ?_
   refine ZS (ZA cZ6 (ZA hyZ7a hyZ7b)) (w_fl _ _ hrZ8) ?_
   refine ZG ?_
   obtain ⟨cZ9,h⟩ | ⟨cZ9,h⟩:=cond_s h
   · cases h
     exact ZL (ZA cZ6 (ZA hyZ7a (ZA hyZ7b cZ9))) V63.eq_1
   · obtain ⟨cZ10,h⟩ | ⟨cZ10,h⟩:=cond_s h
     · obtain ⟨yZ11,hyZ11,h⟩:=bind_s h
       obtain ⟨hyZ11a,hyZ11b⟩:=geti_s hyZ11
       obtain ⟨cZ12,h⟩ | ⟨cZ12,h⟩:=cond_s h
       · cases h
         exact ZL (ZA cZ6 (ZA hyZ7a (ZA hyZ7b (ZA cZ9 (ZA cZ10 (ZA hyZ11a (ZA hyZ11b cZ12))))))) V63.eq_1
       · obtain ⟨lZ13,hlZ13,h⟩:=bind_s h
         obtain ⟨hlZ13a,hlZ13b,hlZ13c,hlZ13d,hlZ13e⟩:=slT_s (e_TLight .o) hlZ13
         obtain ⟨rZ14,hrZ14,h⟩:=bind_s h
         refine ZF (ZA cZ6 (ZA hyZ7a (ZA hyZ7b (ZA cZ9 (ZA cZ10 (ZA hyZ11a (ZA hyZ11b (ZA cZ12 (ZA hlZ13a (ZA hlZ13b (ZA hlZ13c (ZA hlZ13d hlZ13e)))))))))))) ?_
         refine ZS (ZA cZ6 (ZA hyZ7a (ZA hyZ7b (ZA cZ9 (ZA cZ10 (ZA hyZ11a (ZA hyZ11b (ZA cZ12 (ZA hlZ13a (ZA hlZ13b (ZA hlZ13c (ZA hlZ13d hlZ13e)))))))))))) (w_co _ _ hrZ14 130 [.bp .o (.agg [.i yZ7.Id,.i yZ7.Route.Start,.lst .o 1 (yZ7.Route.Fibers.map AV.i),.i yZ7.Block.First,.i yZ7.Block.Count]) 0] ⟨fun ρ k=>by simp only [VS1,VS2,VS3,VS4,VS5,VS6,VT1,VT2,finM_ret,finM_nrm,decide_true,decide_false,List.nodup_nil,List.nodup_cons,oks_p,oks_m,oks_h,ne_eq,not_false_eq_true,Int.reduceEq,Int.reduceNe,true_and,false_and,Nat.reduceSub,Nat.reduceMul,↓reduceIte,reduceCtorEq,Nat.reduceEqDiff,Nat.reduceAdd,Nat.reduceLeDiff,Int.reduceLE],by simp [mentsL,AV.ments]⟩ (fun _ _ h=>w_df _ _ h)) ?_
         refine ZG ?_
         obtain ⟨cZ15,h⟩ | ⟨cZ15,h⟩:=cond_s h
         · cases h
           exact ZL (ZA cZ6 (ZA hyZ7a (ZA hyZ7b (ZA cZ9 (ZA cZ10 (ZA hyZ11a (ZA hyZ11b (ZA cZ12 (ZA hlZ13a (ZA hlZ13b (ZA hlZ13c (ZA hlZ13d (ZA hlZ13e cZ15))))))))))))) V63.eq_1
         · cases h
           exact ZL (ZA cZ6 (ZA hyZ7a (ZA hyZ7b (ZA cZ9 (ZA cZ10 (ZA hyZ11a (ZA hyZ11b (ZA cZ12 (ZA hlZ13a (ZA hlZ13b (ZA hlZ13c (ZA hlZ13d (ZA hlZ13e cZ15))))))))))))) (ZA S_r.eq_1 SX_r.eq_1)
     · obtain ⟨lZ16,hlZ16,h⟩:=bind_s h
       obtain ⟨hlZ16a,hlZ16b,hlZ16c,hlZ16d,hlZ16e⟩:=slT_s (e_TLight .o) hlZ16
       obtain ⟨rZ17,hrZ17,h⟩:=bind_s h
       refine ZF (ZA cZ6 (ZA hyZ7a (ZA hyZ7b (ZA cZ9 (ZA cZ10 (ZA hlZ16a (ZA hlZ16b (ZA hlZ16c (ZA hlZ16d hlZ16e))))))))) ?_
       refine ZS (ZA cZ6 (ZA hyZ7a (ZA hyZ7b (ZA cZ9 (ZA cZ10 (ZA hlZ16a (ZA hlZ16b (ZA hlZ16c (ZA hlZ16d hlZ16e))))))))) (w_co _ _ hrZ17 130 [.bp .o (.agg [.i yZ7.Id,.i yZ7.Route.Start,.lst .o 1 (yZ7.Route.Fibers.map AV.i),.i yZ7.Block.First,.i yZ7.Block.Count]) 0] ⟨fun ρ k=>by simp only [VS1,VS2,VS3,VS4,VS5,VS6,VT1,VT2,finM_ret,finM_nrm,decide_true,decide_false,List.nodup_nil,List.nodup_cons,oks_p,oks_m,oks_h,ne_eq,not_false_eq_true,Int.reduceEq,Int.reduceNe,true_and,false_and,Nat.reduceSub,Nat.reduceMul,↓reduceIte,reduceCtorEq,Nat.reduceEqDiff,Nat.reduceAdd,Nat.reduceLeDiff,Int.reduceLE],by simp [mentsL,AV.ments]⟩ (fun _ _ h=>w_df _ _ h)) ?_
       refine ZG ?_
       obtain ⟨cZ18,h⟩ | ⟨cZ18,h⟩:=cond_s h
       · cases h
         exact ZL (ZA cZ6 (ZA hyZ7a (ZA hyZ7b (ZA cZ9 (ZA cZ10 (ZA hlZ16a (ZA hlZ16b (ZA hlZ16c (ZA hlZ16d (ZA hlZ16e cZ18)))))))))) V63.eq_1
       · cases h
         exact ZL (ZA cZ6 (ZA hyZ7a (ZA hyZ7b (ZA cZ9 (ZA cZ10 (ZA hlZ16a (ZA hlZ16b (ZA hlZ16c (ZA hlZ16d (ZA hlZ16e cZ18)))))))))) (ZA S_r.eq_1 SX_r.eq_1)
 · cases h
   exact ZL cZ6 (ZA S_r.eq_1 SX_r.eq_1)
theorem w_dp (pZ0:TPlan) {r:Bool} (h:M_dp pZ0=some r):Ok Tryz.prog 63 [.agg [.lst .o 1 (pZ0.Network.Nodes.map AV.z),.lst .o 4 (pZ0.Network.Fibers.map (e_TFiber .o)),.lst .o 5 (pZ0.Lights.map (e_TLight .o))]] ((fun r=>.b r) r):=by
 refine ok_of_body hmix m63 rfl ?_
 unfold M_dp at h
 simp only [ZC,A63,V63,body_eq]
 obtain ⟨oZ3,hoZ3,h⟩:=bind_s h
 try refine ZF trivial ?_
 refine join_rule0 (sh:=(fun v=>⟨[(1,.pt 1 0 0),(14,.b v)],[(1,.var (.agg [.lst .o 1 (pZ0.Network.Nodes.map AV.z),.lst .o 4 (pZ0.Network.Fibers.map (e_TFiber .o)),.lst .o 5 (pZ0.Lights.map (e_TLight .o))]))]⟩)) (s:=oZ3) ?_ ?_
 · replace h:=hoZ3
   obtain ⟨rZ1,hrZ1,h⟩:=bind_s h
   refine ZF trivial ?_
   refine ZS trivial (w_cx _ hrZ1) ?_
   refine ZG ?_
   obtain ⟨cZ2,h⟩ | ⟨cZ2,h⟩:=cond_s h
   · cases h
     exact ZL cZ2 trivial
   · cases h
     exact ZL cZ2 trivial
 · simp only [ZC,A63R1]
   obtain ⟨cZ4,h⟩ | ⟨cZ4,h⟩:=cond_s h
   · cases h
     exact ZL cZ4 V63.eq_1
   · obtain ⟨oZ19,hoZ19,h⟩:=bind_s h
     try refine ZF cZ4 ?_
     refine join_rule (o:=oZ19) (blk_rule sideR (loop_rule (w_r pZ0) hoZ19 ?_)) (fun vZ20 hv=>?_) (fun xZ21 hv e τ hne hq=>?_)
     · exact ZK (ZA S_r.eq_1 SX_r.eq_1)
     · subst hv
       simp only [] at h
       simp only [ZC,SX_r,A63R3]
       cases h
       exact ZL cZ4 V63.eq_1
     · subst hv
       simp only [] at h
       obtain ⟨rfl,qZ22⟩:=hq
       cases h
       exact qZ22
theorem w_gh (aaZ0:List ByteArray) (abZ0:List TFiber) (acZ0:List TLight) {r:Bool×List ByteArray×List TFiber×List TLight} (h:M_gh aaZ0 abZ0 acZ0=some r):OkM Tryz.prog 97 [.agg [.sl 1000000000 0 aaZ0.length,.sl 1000000001 0 abZ0.length,.sl 1000000002 0 acZ0.length]] [(1000000000,.arr 1 (aaZ0.map AV.z)),(1000000001,.arr 4 (abZ0.map (e_TFiber .u))),(1000000002,.arr 5 (acZ0.map (e_TLight .u)))] ((fun (r:Bool×List ByteArray×List TFiber×List TLight)=>.tup [.agg [.sl 500000128 0 r.2.1.length,.sl 500000129 0 r.2.2.1.length,.sl 500000130 0 r.2.2.2.length],.b r.1]) r) ((fun (r:Bool×List ByteArray×List TFiber×List TLight)=>[(500000128,.arr 1 (r.2.1.map AV.z)),(500000129,.arr 4 (r.2.2.1.map (e_TFiber .u))),(500000130,.arr 5 (r.2.2.2.map (e_TLight .u)))]) r):=by
 refine okM_of_body (lr:=[500000128,500000129,500000130]) hmix m97M1 rfl rfl ?_
 unfold M_gh at h
 simp only [ZC,A97M1,V97M1]
 obtain ⟨rZ1,hrZ1,h⟩:=bind_s h
 refine ZF trivial ?_
 refine ZS trivial (w_dp _ hrZ1) ?_
 refine ZG ?_
 obtain ⟨cZ2,h⟩ | ⟨cZ2,h⟩:=cond_s h
 · cases h
   exact ZL cZ2 V97M1.eq_1
 · cases h
   exact ZL cZ2 V97M1.eq_1
def S_w (nZ0:TNetwork) (listZ0:List TService) (v:Int×List TLight):St:=⟨[(1,.lst .o 10 (listZ0.map (e_TService .o))),(4,.pt 4 0 0),(6,.pt 6 0 0),(22,.lst .o 10 (listZ0.map (e_TService .o))),(23,.i (listZ0.length:Int)),(24,.i v.1)],[(4,.var (.agg [.lst .u 1 [],.lst .u 4 [],.lst .u 5 []])),(6,.var (.agg [.lst .o 1 (nZ0.Nodes.map AV.z),.lst .o 4 (nZ0.Fibers.map (e_TFiber .o)),.sl 500000386 0 v.2.length])),(500000386,.arr 5 (v.2.map (e_TLight .o)))]⟩
def SX_w (nZ0:TNetwork) (listZ0:List TService) (v:List TLight):St:=⟨[(1,.lst .o 10 (listZ0.map (e_TService .o))),(4,.pt 4 0 0),(6,.pt 6 0 0)],[(4,.var (.agg [.lst .u 1 [],.lst .u 4 [],.lst .u 5 []])),(6,.var (.agg [.lst .o 1 (nZ0.Nodes.map AV.z),.lst .o 4 (nZ0.Fibers.map (e_TFiber .o)),.sl 500000386 0 v.length])),(500000386,.arr 5 (v.map (e_TLight .o)))]⟩
theorem w_w (nZ0:TNetwork) (listZ0:List TService) (sZ6:Int×List TLight) (o:(Int×List TLight) ⊕ (List TLight)) (h:M_w listZ0 sZ6=some o):AWP (OkS Tryz.prog) A39L2 (qL [1,4,6,22,23,24] [4,6,500000386] (S_w nZ0 listZ0) (qX 0 [1,4,6] [4,6,500000386] (SX_w nZ0 listZ0)) o) (S_w nZ0 listZ0 sZ6):=by
 unfold M_w at h
 simp only [ZC,S_w,A39L2]
 obtain ⟨cZ7,h⟩ | ⟨cZ7,h⟩:=cond_s h
 · obtain ⟨yZ8,hyZ8,h⟩:=bind_s h
   obtain ⟨hyZ8a,hyZ8b⟩:=geti_s hyZ8
   obtain ⟨lZ9,hlZ9,h⟩:=bnd_s h
   have eZ10:Row.arr 5 [(.agg [.i yZ8.Id,.i yZ8.Work.Start,.lst .o 1 (yZ8.Work.Fibers.map AV.i),.i yZ8.WorkBlock.First,.i yZ8.WorkBlock.Count]:AV)]=Row.arr 5 (lZ9.map (e_TLight .o)):=by rw [← hlZ9]; rfl
   have jjZ11:lZ9.length=1:=by rw [← hlZ9]; rfl
   obtain ⟨uZ12,huZ12,h⟩:=bind_s h
   have huZ12g:=grd_s huZ12
   obtain ⟨lZ13,hlZ13,h⟩:=bnd_s h
   have eZ14:sZ6.2.map (e_TLight .o)++lZ9.map (e_TLight .o)=lZ13.map (e_TLight .o):=by rw [← hlZ13,List.map_append]
   have eZ15:sZ6.2.length+1=lZ13.length:=by simp [← hlZ9,← hlZ13] <;> omega
   rw [eZ15] at huZ12g
   cases h
   exact ZL (ZA cZ7 (ZA hyZ8a (ZA hyZ8b (ZA eZ10 (ZA jjZ11 (ZA huZ12g (ZA eZ14 eZ15))))))) (ZA S_w.eq_1 (ZA SX_w.eq_1 (ZA hlZ9.symm (ZA hlZ13.symm jjZ11))))
 · cases h
   exact ZL cZ7 (ZA S_w.eq_1 SX_w.eq_1)
def S_h (nZ0:TNetwork) (listZ0:List TService) (v:Int×List TLight):St:=⟨[(4,.pt 4 0 0),(6,.pt 6 0 0),(41,.lst .o 10 (listZ0.map (e_TService .o))),(42,.i (listZ0.length:Int)),(43,.i v.1)],[(4,.var (.agg [.lst .u 1 [],.lst .u 4 [],.lst .u 5 []])),(6,.var (.agg [.lst .o 1 (nZ0.Nodes.map AV.z),.lst .o 4 (nZ0.Fibers.map (e_TFiber .o)),.sl 500000386 0 v.2.length])),(500000386,.arr 5 (v.2.map (e_TLight .o)))]⟩
def SX_h (nZ0:TNetwork) (v:List TLight):St:=⟨[(4,.pt 4 0 0),(6,.pt 6 0 0)],[(4,.var (.agg [.lst .u 1 [],.lst .u 4 [],.lst .u 5 []])),(6,.var (.agg [.lst .o 1 (nZ0.Nodes.map AV.z),.lst .o 4 (nZ0.Fibers.map (e_TFiber .o)),.sl 500000386 0 v.length])),(500000386,.arr 5 (v.map (e_TLight .o)))]⟩
theorem w_h (nZ0:TNetwork) (listZ0:List TService) (sZ17:Int×List TLight) (o:(Int×List TLight) ⊕ (List TLight)) (h:M_h listZ0 sZ17=some o):AWP (OkS Tryz.prog) A39L4 (qL [4,6,41,42,43] [4,6,500000386] (S_h nZ0 listZ0) (qX 2 [4,6] [4,6,500000386] (SX_h nZ0)) o) (S_h nZ0 listZ0 sZ17):=by
 unfold M_h at h
 simp only [ZC,S_h,A39L4]
 obtain ⟨cZ18,h⟩ | ⟨cZ18,h⟩:=cond_s h
 · obtain ⟨yZ19,hyZ19,h⟩:=bind_s h
   obtain ⟨hyZ19a,hyZ19b⟩:=geti_s hyZ19
   obtain ⟨cZ20,h⟩ | ⟨cZ20,h⟩:=cond_s h
   · obtain ⟨lZ21,hlZ21,h⟩:=bnd_s h
     have eZ22:Row.arr 5 [(.agg [.i (IntKind.wrap .i64 (yZ19.Id+500)),.i yZ19.Spare.Start,.lst .o 1 (yZ19.Spare.Fibers.map AV.i),.i yZ19.SpareBlock.First,.i yZ19.SpareBlock.Count]:AV)]=Row.arr 5 (lZ21.map (e_TLight .o)):=by rw [← hlZ21]; rfl
     have jjZ23:lZ21.length=1:=by rw [← hlZ21]; rfl
     obtain ⟨uZ24,huZ24,h⟩:=bind_s h
     have huZ24g:=grd_s huZ24
     obtain ⟨lZ25,hlZ25,h⟩:=bnd_s h
     have eZ26:sZ17.2.map (e_TLight .o)++lZ21.map (e_TLight .o)=lZ25.map (e_TLight .o):=by rw [← hlZ25,List.map_append]
     have eZ27:sZ17.2.length+1=lZ25.length:=by simp [← hlZ21,← hlZ25] <;> omega
     rw [eZ27] at huZ24g
     cases h
     exact ZL (ZA cZ18 (ZA hyZ19a (ZA hyZ19b (ZA cZ20 (ZA eZ22 (ZA jjZ23 (ZA huZ24g (ZA eZ26 eZ27)))))))) (ZA S_h.eq_1 (ZA SX_h.eq_1 (ZA hlZ21.symm (ZA hlZ25.symm jjZ23))))
   · cases h
     exact ZL (ZA cZ18 (ZA hyZ19a (ZA hyZ19b cZ20))) (ZA S_h.eq_1 SX_h.eq_1)
 · cases h
   exact ZL cZ18 (ZA S_h.eq_1 SX_h.eq_1)
theorem w_dg (nZ0:TNetwork) (listZ0:List TService) {r:TPlan×Bool} (h:M_dg nZ0 listZ0=some r):Ok Tryz.prog 39 [.agg [.lst .o 1 (nZ0.Nodes.map AV.z),.lst .o 4 (nZ0.Fibers.map (e_TFiber .o))],.lst .o 10 (listZ0.map (e_TService .o))] ((fun r=>.tup [.agg [.lst .u 1 (r.1.Network.Nodes.map AV.z),.lst .u 4 (r.1.Network.Fibers.map (e_TFiber .u)),.lst .u 5 (r.1.Lights.map (e_TLight .u))],.b r.2]) r):=by
 refine ok_of_body hmix m39 rfl ?_
 unfold M_dg at h
 simp only [ZC,A39,V39,body_eq]
 obtain ⟨oZ4,hoZ4,h⟩:=bind_s h
 try refine ZF trivial ?_
 refine join_rule0 (sh:=(fun v=>⟨[(1,.lst .o 10 (listZ0.map (e_TService .o))),(2,.pt 2 0 0),(4,.pt 4 0 0),(18,.b v)],[(2,.var (.agg [.lst .o 1 (nZ0.Nodes.map AV.z),.lst .o 4 (nZ0.Fibers.map (e_TFiber .o))])),(4,.var (.agg [.lst .u 1 [],.lst .u 4 [],.lst .u 5 []]))]⟩)) (s:=oZ4) ?_ ?_
 · replace h:=hoZ4
   obtain ⟨rZ1,hrZ1,h⟩:=bind_s h
   refine ZF trivial ?_
   refine ZS trivial (w_fk _ _ hrZ1) ?_
   refine ZG ?_
   obtain ⟨cZ2,h⟩ | ⟨cZ2,h⟩:=cond_s h
   · cases h
     exact ZL cZ2 trivial
   · obtain ⟨rZ3,hrZ3,h⟩:=bind_s h
     refine ZF cZ2 ?_
     refine ZS cZ2 (w_bz _ _ hrZ3 96 [] ⟨fun ρ k=>by simp only [VS1,VS2,VS3,VS4,VS5,VS6,VT1,VT2,finM_ret,finM_nrm,decide_true,decide_false,List.nodup_nil,List.nodup_cons,oks_p,oks_m,oks_h,ne_eq,not_false_eq_true,Int.reduceEq,Int.reduceNe,true_and,false_and,Nat.reduceSub,Nat.reduceMul,↓reduceIte,reduceCtorEq,Nat.reduceEqDiff,Nat.reduceAdd,Nat.reduceLeDiff,Int.reduceLE],by simp [mentsL,AV.ments]⟩ (fun _ _ h=>w_gf _ h)) ?_
     refine ZG ?_
     cases h
     exact ZL cZ2 trivial
 · simp only [ZC,A39R1]
   obtain ⟨cZ5,h⟩ | ⟨cZ5,h⟩:=cond_s h
   · cases h
     exact ZL cZ5 V39.eq_1
   · obtain ⟨oZ16,hoZ16,h⟩:=bind_s h
     try refine ZF cZ5 ?_
     refine join_rule0 (blk_rule0 (loop_rule (w_w nZ0 listZ0) hoZ16 ?_)) ?_
     · exact ZK (ZA S_w.eq_1 SX_w.eq_1)
     · simp only [ZC,SX_w,A39R3]
       obtain ⟨oZ28,hoZ28,h⟩:=bind_s h
       try refine ZF cZ5 ?_
       refine join_rule0 (blk_rule0 (loop_rule (w_h nZ0 listZ0) hoZ28 ?_)) ?_
       · exact ZK (ZA S_h.eq_1 SX_h.eq_1)
       · simp only [ZC,SX_h,A39R5]
         obtain ⟨rZ29,hrZ29,h⟩:=bind_s h
         refine ZF cZ5 ?_
         refine ZU cZ5 (w_dj _ hrZ29) ?_
         refine ZG ?_
         obtain ⟨rZ30,hrZ30,h⟩:=bind_s h
         refine ZF cZ5 ?_
         refine ZW cZ5 (w_gh _ _ _ hrZ30) (h2:=by first | exact nm_ok [500000128,500000129,500000130] rfl (by decide +kernel) | exact nm_ok2 [500000128,500000129,500000130] [506700128,506700129,506700130] rfl (by decide +kernel) ZQ | exact ZQ) (hk:=?_)
         refine ZG ?_
         cases h
         exact ZL cZ5 V39.eq_1
def S_az (aZ0:List ByteArray) (bZ0:List ByteArray) (v:Int):St:=⟨[(0,.lst .o 1 (aZ0.map AV.z)),(1,.lst .o 1 (bZ0.map AV.z)),(5,.i v)],[]⟩
def SX_az (v:Unit):St:=⟨[],[]⟩
theorem w_az (aZ0:List ByteArray) (bZ0:List ByteArray) (sZ2:Int) (o:Int ⊕ (Unit ⊕ Bool)) (h:M_az aZ0 bZ0 sZ2=some o):AWP (OkS Tryz.prog) A99L1 (qL [0,1,5] [] (S_az aZ0 bZ0) (qS (qX 0 [] [] (SX_az)) (qR V99 (fun r=>.b r))) o) (S_az aZ0 bZ0 sZ2):=by
 unfold M_az at h
 simp only [ZC,S_az,A99L1]
 obtain ⟨cZ3,h⟩ | ⟨cZ3,h⟩:=cond_s h
 · obtain ⟨yZ4,hyZ4,h⟩:=bind_s h
   obtain ⟨hyZ4a,hyZ4b⟩:=geti_s hyZ4
   obtain ⟨yZ5,hyZ5,h⟩:=bind_s h
   obtain ⟨hyZ5a,hyZ5b⟩:=geti_s hyZ5
   obtain ⟨cZ6,h⟩ | ⟨cZ6,h⟩:=cond_s h
   · cases h
     exact ZL (ZA cZ3 (ZA hyZ4a (ZA hyZ4b (ZA hyZ5a (ZA hyZ5b cZ6))))) V99.eq_1
   · cases h
     exact ZL (ZA cZ3 (ZA hyZ4a (ZA hyZ4b (ZA hyZ5a (ZA hyZ5b cZ6))))) (ZA S_az.eq_1 SX_az.eq_1)
 · cases h
   exact ZL cZ3 (ZA S_az.eq_1 SX_az.eq_1)
theorem w_fm (aZ0:List ByteArray) (bZ0:List ByteArray) {r:Bool} (h:M_fm aZ0 bZ0=some r):Ok Tryz.prog 99 [.lst .o 1 (aZ0.map AV.z),.lst .o 1 (bZ0.map AV.z)] ((fun r=>.b r) r):=by
 refine ok_of_body hmix m99 rfl ?_
 unfold M_fm at h
 simp only [ZC,A99,V99,body_eq]
 obtain ⟨cZ1,h⟩ | ⟨cZ1,h⟩:=cond_s h
 · cases h
   exact ZL cZ1 V99.eq_1
 · obtain ⟨oZ7,hoZ7,h⟩:=bind_s h
   try refine ZF cZ1 ?_
   refine join_rule (o:=oZ7) (blk_rule sideR (loop_rule (w_az aZ0 bZ0) hoZ7 ?_)) (fun vZ8 hv=>?_) (fun xZ9 hv e τ hne hq=>?_)
   · exact ZK (ZA S_az.eq_1 SX_az.eq_1)
   · subst hv
     simp only [] at h
     simp only [ZC,SX_az,A99R2]
     cases h
     exact ZL cZ1 V99.eq_1
   · subst hv
     simp only [] at h
     obtain ⟨rfl,qZ10⟩:=hq
     cases h
     exact qZ10
theorem w_dq (aZ0:TFiber) (bZ0:TFiber) {r:Bool} (h:M_dq aZ0 bZ0=some r):Ok Tryz.prog 158 [.agg [.i aZ0.A,.i aZ0.B,.i aZ0.Length,.i aZ0.Risk],.agg [.i bZ0.A,.i bZ0.B,.i bZ0.Length,.i bZ0.Risk]] ((fun r=>.b r) r):=by
 refine ok_of_body hmix m158 rfl ?_
 unfold M_dq at h
 simp only [ZC,A158,V158,body_eq]
 obtain ⟨cZ1,h⟩ | ⟨cZ1,h⟩:=cond_s h
 · cases h
   exact ZL cZ1 V158.eq_1
 · obtain ⟨cZ2,h⟩ | ⟨cZ2,h⟩:=cond_s h
   · cases h
     exact ZL (ZA cZ1 cZ2) V158.eq_1
   · obtain ⟨cZ3,h⟩ | ⟨cZ3,h⟩:=cond_s h
     · cases h
       exact ZL (ZA cZ1 (ZA cZ2 cZ3)) V158.eq_1
     · obtain ⟨cZ4,h⟩ | ⟨cZ4,h⟩:=cond_s h
       · cases h
         exact ZL (ZA cZ1 (ZA cZ2 (ZA cZ3 cZ4))) V158.eq_1
       · cases h
         exact ZL (ZA cZ1 (ZA cZ2 (ZA cZ3 cZ4))) V158.eq_1
def S_ba (aZ0:List TFiber) (bZ0:List TFiber) (v:Int):St:=⟨[(0,.lst .o 4 (aZ0.map (e_TFiber .o))),(1,.lst .o 4 (bZ0.map (e_TFiber .o))),(5,.i v)],[]⟩
def SX_ba (v:Unit):St:=⟨[],[]⟩
theorem w_ba (aZ0:List TFiber) (bZ0:List TFiber) (sZ2:Int) (o:Int ⊕ (Unit ⊕ Bool)) (h:M_ba aZ0 bZ0 sZ2=some o):AWP (OkS Tryz.prog) A100L1 (qL [0,1,5] [] (S_ba aZ0 bZ0) (qS (qX 0 [] [] (SX_ba)) (qR V100 (fun r=>.b r))) o) (S_ba aZ0 bZ0 sZ2):=by
 unfold M_ba at h
 simp only [ZC,S_ba,A100L1]
 obtain ⟨cZ3,h⟩ | ⟨cZ3,h⟩:=cond_s h
 · obtain ⟨yZ4,hyZ4,h⟩:=bind_s h
   obtain ⟨hyZ4a,hyZ4b⟩:=geti_s hyZ4
   obtain ⟨yZ5,hyZ5,h⟩:=bind_s h
   obtain ⟨hyZ5a,hyZ5b⟩:=geti_s hyZ5
   obtain ⟨rZ6,hrZ6,h⟩:=bind_s h
   refine ZF (ZA cZ3 (ZA hyZ4a (ZA hyZ4b (ZA hyZ5a hyZ5b)))) ?_
   refine ZS (ZA cZ3 (ZA hyZ4a (ZA hyZ4b (ZA hyZ5a hyZ5b)))) (w_dq _ _ hrZ6) ?_
   refine ZG ?_
   obtain ⟨cZ7,h⟩ | ⟨cZ7,h⟩:=cond_s h
   · cases h
     exact ZL (ZA cZ3 (ZA hyZ4a (ZA hyZ4b (ZA hyZ5a (ZA hyZ5b cZ7))))) V100.eq_1
   · cases h
     exact ZL (ZA cZ3 (ZA hyZ4a (ZA hyZ4b (ZA hyZ5a (ZA hyZ5b cZ7))))) (ZA S_ba.eq_1 SX_ba.eq_1)
 · cases h
   exact ZL cZ3 (ZA S_ba.eq_1 SX_ba.eq_1)
theorem w_fn (aZ0:List TFiber) (bZ0:List TFiber) {r:Bool} (h:M_fn aZ0 bZ0=some r):Ok Tryz.prog 100 [.lst .o 4 (aZ0.map (e_TFiber .o)),.lst .o 4 (bZ0.map (e_TFiber .o))] ((fun r=>.b r) r):=by
 refine ok_of_body hmix m100 rfl ?_
 unfold M_fn at h
 simp only [ZC,A100,V100,body_eq]
 obtain ⟨cZ1,h⟩ | ⟨cZ1,h⟩:=cond_s h
 · cases h
   exact ZL cZ1 V100.eq_1
 · obtain ⟨oZ8,hoZ8,h⟩:=bind_s h
   try refine ZF cZ1 ?_
   refine join_rule (o:=oZ8) (blk_rule sideR (loop_rule (w_ba aZ0 bZ0) hoZ8 ?_)) (fun vZ9 hv=>?_) (fun xZ10 hv e τ hne hq=>?_)
   · exact ZK (ZA S_ba.eq_1 SX_ba.eq_1)
   · subst hv
     simp only [] at h
     simp only [ZC,SX_ba,A100R2]
     cases h
     exact ZL cZ1 V100.eq_1
   · subst hv
     simp only [] at h
     obtain ⟨rfl,qZ11⟩:=hq
     cases h
     exact qZ11
theorem w_dh (aZ0:TNetwork) (bZ0:TNetwork) {r:Bool} (h:M_dh aZ0 bZ0=some r):Ok Tryz.prog 40 [.agg [.lst .o 1 (aZ0.Nodes.map AV.z),.lst .o 4 (aZ0.Fibers.map (e_TFiber .o))],.agg [.lst .o 1 (bZ0.Nodes.map AV.z),.lst .o 4 (bZ0.Fibers.map (e_TFiber .o))]] ((fun r=>.b r) r):=by
 refine ok_of_body hmix m40 rfl ?_
 unfold M_dh at h
 simp only [ZC,A40,V40,body_eq]
 obtain ⟨rZ1,hrZ1,h⟩:=bind_s h
 refine ZF trivial ?_
 refine ZS trivial (w_fm _ _ hrZ1) ?_
 refine ZG ?_
 obtain ⟨cZ2,h⟩ | ⟨cZ2,h⟩:=cond_s h
 · cases h
   exact ZL cZ2 V40.eq_1
 · obtain ⟨rZ3,hrZ3,h⟩:=bind_s h
   refine ZF cZ2 ?_
   refine ZS cZ2 (w_fn _ _ hrZ3) ?_
   refine ZG ?_
   obtain ⟨cZ4,h⟩ | ⟨cZ4,h⟩:=cond_s h
   · cases h
     exact ZL (ZA cZ2 cZ4) V40.eq_1
   · cases h
     exact ZL (ZA cZ2 cZ4) V40.eq_1
def S_bb (aZ0:List Int) (bZ0:List Int) (v:Int):St:=⟨[(0,.lst .o 1 (aZ0.map AV.i)),(1,.lst .o 1 (bZ0.map AV.i)),(5,.i v)],[]⟩
def SX_bb (v:Unit):St:=⟨[],[]⟩
theorem w_bb (aZ0:List Int) (bZ0:List Int) (sZ2:Int) (o:Int ⊕ (Unit ⊕ Bool)) (h:M_bb aZ0 bZ0 sZ2=some o):AWP (OkS Tryz.prog) A20L1 (qL [0,1,5] [] (S_bb aZ0 bZ0) (qS (qX 0 [] [] (SX_bb)) (qR V20 (fun r=>.b r))) o) (S_bb aZ0 bZ0 sZ2):=by
 unfold M_bb at h
 simp only [ZC,S_bb,A20L1]
 obtain ⟨cZ3,h⟩ | ⟨cZ3,h⟩:=cond_s h
 · obtain ⟨yZ4,hyZ4,h⟩:=bind_s h
   obtain ⟨hyZ4a,hyZ4b⟩:=geti_s hyZ4
   obtain ⟨yZ5,hyZ5,h⟩:=bind_s h
   obtain ⟨hyZ5a,hyZ5b⟩:=geti_s hyZ5
   obtain ⟨cZ6,h⟩ | ⟨cZ6,h⟩:=cond_s h
   · cases h
     exact ZL (ZA cZ3 (ZA hyZ4a (ZA hyZ4b (ZA hyZ5a (ZA hyZ5b cZ6))))) V20.eq_1
   · cases h
     exact ZL (ZA cZ3 (ZA hyZ4a (ZA hyZ4b (ZA hyZ5a (ZA hyZ5b cZ6))))) (ZA S_bb.eq_1 SX_bb.eq_1)
 · cases h
   exact ZL cZ3 (ZA S_bb.eq_1 SX_bb.eq_1)
theorem w_fo (aZ0:List Int) (bZ0:List Int) {r:Bool} (h:M_fo aZ0 bZ0=some r):Ok Tryz.prog 20 [.lst .o 1 (aZ0.map AV.i),.lst .o 1 (bZ0.map AV.i)] ((fun r=>.b r) r):=by
 refine ok_of_body hmix m20 rfl ?_
 unfold M_fo at h
 simp only [ZC,A20,V20,body_eq]
 obtain ⟨cZ1,h⟩ | ⟨cZ1,h⟩:=cond_s h
 · cases h
   exact ZL cZ1 V20.eq_1
 · obtain ⟨oZ7,hoZ7,h⟩:=bind_s h
   try refine ZF cZ1 ?_
   refine join_rule (o:=oZ7) (blk_rule sideR (loop_rule (w_bb aZ0 bZ0) hoZ7 ?_)) (fun vZ8 hv=>?_) (fun xZ9 hv e τ hne hq=>?_)
   · exact ZK (ZA S_bb.eq_1 SX_bb.eq_1)
   · subst hv
     simp only [] at h
     simp only [ZC,SX_bb,A20R2]
     cases h
     exact ZL cZ1 V20.eq_1
   · subst hv
     simp only [] at h
     obtain ⟨rfl,qZ10⟩:=hq
     cases h
     exact qZ10
theorem w_ch (aZ0:TRoute) (bZ0:TRoute) {r:Bool} (h:M_ch aZ0 bZ0=some r):Ok Tryz.prog 159 [.agg [.i aZ0.Start,.lst .o 1 (aZ0.Fibers.map AV.i)],.agg [.i bZ0.Start,.lst .o 1 (bZ0.Fibers.map AV.i)]] ((fun r=>.b r) r):=by
 refine ok_of_body hmix m159 rfl ?_
 unfold M_ch at h
 simp only [ZC,A159,V159,body_eq]
 obtain ⟨cZ1,h⟩ | ⟨cZ1,h⟩:=cond_s h
 · cases h
   exact ZL cZ1 V159.eq_1
 · obtain ⟨rZ2,hrZ2,h⟩:=bind_s h
   refine ZF cZ1 ?_
   refine ZS cZ1 (w_fo _ _ hrZ2) ?_
   refine ZG ?_
   obtain ⟨cZ3,h⟩ | ⟨cZ3,h⟩:=cond_s h
   · cases h
     exact ZL (ZA cZ1 cZ3) V159.eq_1
   · cases h
     exact ZL (ZA cZ1 cZ3) V159.eq_1
theorem w_ci (aZ0:TBlock) (bZ0:TBlock) {r:Bool} (h:M_ci aZ0 bZ0=some r):Ok Tryz.prog 160 [.agg [.i aZ0.First,.i aZ0.Count],.agg [.i bZ0.First,.i bZ0.Count]] ((fun r=>.b r) r):=by
 refine ok_of_body hmix m160 rfl ?_
 unfold M_ci at h
 simp only [ZC,A160,V160,body_eq]
 obtain ⟨cZ1,h⟩ | ⟨cZ1,h⟩:=cond_s h
 · cases h
   exact ZL cZ1 V160.eq_1
 · obtain ⟨cZ2,h⟩ | ⟨cZ2,h⟩:=cond_s h
   · cases h
     exact ZL (ZA cZ1 cZ2) V160.eq_1
   · cases h
     exact ZL (ZA cZ1 cZ2) V160.eq_1
theorem w_dr (aZ0:TLight) (bZ0:TLight) {r:Bool} (h:M_dr aZ0 bZ0=some r):Ok Tryz.prog 136 [.agg [.i aZ0.Id,.i aZ0.Route.Start,.lst .o 1 (aZ0.Route.Fibers.map AV.i),.i aZ0.Block.First,.i aZ0.Block.Count],.agg [.i bZ0.Id,.i bZ0.Route.Start,.lst .o 1 (bZ0.Route.Fibers.map AV.i),.i bZ0.Block.First,.i bZ0.Block.Count]] ((fun r=>.b r) r):=by
 refine ok_of_body hmix m136 rfl ?_
 unfold M_dr at h
 simp only [ZC,A136,V136,body_eq]
 obtain ⟨cZ1,h⟩ | ⟨cZ1,h⟩:=cond_s h
 · cases h
   exact ZL cZ1 V136.eq_1
 · obtain ⟨rZ2,hrZ2,h⟩:=bind_s h
   refine ZF cZ1 ?_
   refine ZS cZ1 (w_ch _ _ hrZ2) ?_
   refine ZG ?_
   obtain ⟨cZ3,h⟩ | ⟨cZ3,h⟩:=cond_s h
   · cases h
     exact ZL (ZA cZ1 cZ3) V136.eq_1
   · obtain ⟨rZ4,hrZ4,h⟩:=bind_s h
     refine ZF (ZA cZ1 cZ3) ?_
     refine ZS (ZA cZ1 cZ3) (w_ci _ _ hrZ4) ?_
     refine ZG ?_
     obtain ⟨cZ5,h⟩ | ⟨cZ5,h⟩:=cond_s h
     · cases h
       exact ZL (ZA cZ1 (ZA cZ3 cZ5)) V136.eq_1
     · cases h
       exact ZL (ZA cZ1 (ZA cZ3 cZ5)) V136.eq_1
def S_bc (aZ0:List TLight) (bZ0:List TLight) (v:Int):St:=⟨[(0,.lst .o 5 (aZ0.map (e_TLight .o))),(1,.lst .o 5 (bZ0.map (e_TLight .o))),(5,.i v)],[]⟩
def SX_bc (v:Unit):St:=⟨[],[]⟩
theorem w_bc (aZ0:List TLight) (bZ0:List TLight) (sZ2:Int) (o:Int ⊕ (Unit ⊕ Bool)) (h:M_bc aZ0 bZ0 sZ2=some o):AWP (OkS Tryz.prog) A70L1 (qL [0,1,5] [] (S_bc aZ0 bZ0) (qS (qX 0 [] [] (SX_bc)) (qR V70 (fun r=>.b r))) o) (S_bc aZ0 bZ0 sZ2):=by
 unfold M_bc at h
 simp only [ZC,S_bc,A70L1]
 obtain ⟨cZ3,h⟩ | ⟨cZ3,h⟩:=cond_s h
 · obtain ⟨yZ4,hyZ4,h⟩:=bind_s h
   obtain ⟨hyZ4a,hyZ4b⟩:=geti_s hyZ4
   obtain ⟨yZ5,hyZ5,h⟩:=bind_s h
   obtain ⟨hyZ5a,hyZ5b⟩:=geti_s hyZ5
   obtain ⟨rZ6,hrZ6,h⟩:=bind_s h
   refine ZF (ZA cZ3 (ZA hyZ4a (ZA hyZ4b (ZA hyZ5a hyZ5b)))) ?_
   refine ZS (ZA cZ3 (ZA hyZ4a (ZA hyZ4b (ZA hyZ5a hyZ5b)))) (w_dr _ _ hrZ6) ?_
   refine ZG ?_
   obtain ⟨cZ7,h⟩ | ⟨cZ7,h⟩:=cond_s h
   · cases h
     exact ZL (ZA cZ3 (ZA hyZ4a (ZA hyZ4b (ZA hyZ5a (ZA hyZ5b cZ7))))) V70.eq_1
   · cases h
     exact ZL (ZA cZ3 (ZA hyZ4a (ZA hyZ4b (ZA hyZ5a (ZA hyZ5b cZ7))))) (ZA S_bc.eq_1 SX_bc.eq_1)
 · cases h
   exact ZL cZ3 (ZA S_bc.eq_1 SX_bc.eq_1)
theorem w_fp (aZ0:List TLight) (bZ0:List TLight) {r:Bool} (h:M_fp aZ0 bZ0=some r):Ok Tryz.prog 70 [.lst .o 5 (aZ0.map (e_TLight .o)),.lst .o 5 (bZ0.map (e_TLight .o))] ((fun r=>.b r) r):=by
 refine ok_of_body hmix m70 rfl ?_
 unfold M_fp at h
 simp only [ZC,A70,V70,body_eq]
 obtain ⟨cZ1,h⟩ | ⟨cZ1,h⟩:=cond_s h
 · cases h
   exact ZL cZ1 V70.eq_1
 · obtain ⟨oZ8,hoZ8,h⟩:=bind_s h
   try refine ZF cZ1 ?_
   refine join_rule (o:=oZ8) (blk_rule sideR (loop_rule (w_bc aZ0 bZ0) hoZ8 ?_)) (fun vZ9 hv=>?_) (fun xZ10 hv e τ hne hq=>?_)
   · exact ZK (ZA S_bc.eq_1 SX_bc.eq_1)
   · subst hv
     simp only [] at h
     simp only [ZC,SX_bc,A70R2]
     cases h
     exact ZL cZ1 V70.eq_1
   · subst hv
     simp only [] at h
     obtain ⟨rfl,qZ11⟩:=hq
     cases h
     exact qZ11
theorem w_cj (aZ0:TPlan) (bZ0:TPlan) {r:Bool} (h:M_cj aZ0 bZ0=some r):Ok Tryz.prog 28 [.agg [.lst .o 1 (aZ0.Network.Nodes.map AV.z),.lst .o 4 (aZ0.Network.Fibers.map (e_TFiber .o)),.lst .o 5 (aZ0.Lights.map (e_TLight .o))],.agg [.lst .o 1 (bZ0.Network.Nodes.map AV.z),.lst .o 4 (bZ0.Network.Fibers.map (e_TFiber .o)),.lst .o 5 (bZ0.Lights.map (e_TLight .o))]] ((fun r=>.b r) r):=by
 refine ok_of_body hmix m28 rfl ?_
 unfold M_cj at h
 simp only [ZC,A28,V28,body_eq]
 obtain ⟨rZ1,hrZ1,h⟩:=bind_s h
 refine ZF trivial ?_
 refine ZS trivial (w_dh _ _ hrZ1) ?_
 refine ZG ?_
 obtain ⟨cZ2,h⟩ | ⟨cZ2,h⟩:=cond_s h
 · cases h
   exact ZL cZ2 V28.eq_1
 · obtain ⟨rZ3,hrZ3,h⟩:=bind_s h
   refine ZF cZ2 ?_
   refine ZS cZ2 (w_fp _ _ hrZ3) ?_
   refine ZG ?_
   obtain ⟨cZ4,h⟩ | ⟨cZ4,h⟩:=cond_s h
   · cases h
     exact ZL (ZA cZ2 cZ4) V28.eq_1
   · cases h
     exact ZL (ZA cZ2 cZ4) V28.eq_1
theorem w_ds (aZ0:TService) (bZ0:TService) {r:Bool} (h:M_ds aZ0 bZ0=some r):Ok Tryz.prog 101 [.agg [.i aZ0.Id,.i aZ0.Class,.i aZ0.Work.Start,.lst .o 1 (aZ0.Work.Fibers.map AV.i),.i aZ0.WorkBlock.First,.i aZ0.WorkBlock.Count,.i aZ0.Spare.Start,.lst .o 1 (aZ0.Spare.Fibers.map AV.i),.i aZ0.SpareBlock.First,.i aZ0.SpareBlock.Count],.agg [.i bZ0.Id,.i bZ0.Class,.i bZ0.Work.Start,.lst .o 1 (bZ0.Work.Fibers.map AV.i),.i bZ0.WorkBlock.First,.i bZ0.WorkBlock.Count,.i bZ0.Spare.Start,.lst .o 1 (bZ0.Spare.Fibers.map AV.i),.i bZ0.SpareBlock.First,.i bZ0.SpareBlock.Count]] ((fun r=>.b r) r):=by
 refine ok_of_body hmix m101 rfl ?_
 unfold M_ds at h
 simp only [ZC,A101,V101,body_eq]
 obtain ⟨cZ1,h⟩ | ⟨cZ1,h⟩:=cond_s h
 · cases h
   exact ZL cZ1 V101.eq_1
 · obtain ⟨cZ2,h⟩ | ⟨cZ2,h⟩:=cond_s h
   · cases h
     exact ZL (ZA cZ1 cZ2) V101.eq_1
   · obtain ⟨rZ3,hrZ3,h⟩:=bind_s h
     refine ZF (ZA cZ1 cZ2) ?_
     refine ZS (ZA cZ1 cZ2) (w_ch _ _ hrZ3) ?_
     refine ZG ?_
     obtain ⟨cZ4,h⟩ | ⟨cZ4,h⟩:=cond_s h
     · cases h
       exact ZL (ZA cZ1 (ZA cZ2 cZ4)) V101.eq_1
     · obtain ⟨rZ5,hrZ5,h⟩:=bind_s h
       refine ZF (ZA cZ1 (ZA cZ2 cZ4)) ?_
       refine ZS (ZA cZ1 (ZA cZ2 cZ4)) (w_ci _ _ hrZ5) ?_
       refine ZG ?_
       obtain ⟨cZ6,h⟩ | ⟨cZ6,h⟩:=cond_s h
       · cases h
         exact ZL (ZA cZ1 (ZA cZ2 (ZA cZ4 cZ6))) V101.eq_1
       · obtain ⟨rZ7,hrZ7,h⟩:=bind_s h
         refine ZF (ZA cZ1 (ZA cZ2 (ZA cZ4 cZ6))) ?_
         refine ZS (ZA cZ1 (ZA cZ2 (ZA cZ4 cZ6))) (w_ch _ _ hrZ7) ?_
         refine ZG ?_
         obtain ⟨cZ8,h⟩ | ⟨cZ8,h⟩:=cond_s h
         · cases h
           exact ZL (ZA cZ1 (ZA cZ2 (ZA cZ4 (ZA cZ6 cZ8)))) V101.eq_1
         · obtain ⟨rZ9,hrZ9,h⟩:=bind_s h
           refine ZF (ZA cZ1 (ZA cZ2 (ZA cZ4 (ZA cZ6 cZ8)))) ?_
           refine ZS (ZA cZ1 (ZA cZ2 (ZA cZ4 (ZA cZ6 cZ8)))) (w_ci _ _ hrZ9) ?_
           refine ZG ?_
           obtain ⟨cZ10,h⟩ | ⟨cZ10,h⟩:=cond_s h
           · cases h
             exact ZL (ZA cZ1 (ZA cZ2 (ZA cZ4 (ZA cZ6 (ZA cZ8 cZ10))))) V101.eq_1
           · cases h
             exact ZL (ZA cZ1 (ZA cZ2 (ZA cZ4 (ZA cZ6 (ZA cZ8 cZ10))))) V101.eq_1
def S_bd (aZ0:List TService) (bZ0:List TService) (v:Int):St:=⟨[(0,.lst .o 10 (aZ0.map (e_TService .o))),(1,.lst .o 10 (bZ0.map (e_TService .o))),(5,.i v)],[]⟩
def SX_bd (v:Unit):St:=⟨[],[]⟩
theorem w_bd (aZ0:List TService) (bZ0:List TService) (sZ2:Int) (o:Int ⊕ (Unit ⊕ Bool)) (h:M_bd aZ0 bZ0 sZ2=some o):AWP (OkS Tryz.prog) A41L1 (qL [0,1,5] [] (S_bd aZ0 bZ0) (qS (qX 0 [] [] (SX_bd)) (qR V41 (fun r=>.b r))) o) (S_bd aZ0 bZ0 sZ2):=by
 unfold M_bd at h
 simp only [ZC,S_bd,A41L1]
 obtain ⟨cZ3,h⟩ | ⟨cZ3,h⟩:=cond_s h
 · obtain ⟨yZ4,hyZ4,h⟩:=bind_s h
   obtain ⟨hyZ4a,hyZ4b⟩:=geti_s hyZ4
   obtain ⟨yZ5,hyZ5,h⟩:=bind_s h
   obtain ⟨hyZ5a,hyZ5b⟩:=geti_s hyZ5
   obtain ⟨rZ6,hrZ6,h⟩:=bind_s h
   refine ZF (ZA cZ3 (ZA hyZ4a (ZA hyZ4b (ZA hyZ5a hyZ5b)))) ?_
   refine ZS (ZA cZ3 (ZA hyZ4a (ZA hyZ4b (ZA hyZ5a hyZ5b)))) (w_ds _ _ hrZ6) ?_
   refine ZG ?_
   obtain ⟨cZ7,h⟩ | ⟨cZ7,h⟩:=cond_s h
   · cases h
     exact ZL (ZA cZ3 (ZA hyZ4a (ZA hyZ4b (ZA hyZ5a (ZA hyZ5b cZ7))))) V41.eq_1
   · cases h
     exact ZL (ZA cZ3 (ZA hyZ4a (ZA hyZ4b (ZA hyZ5a (ZA hyZ5b cZ7))))) (ZA S_bd.eq_1 SX_bd.eq_1)
 · cases h
   exact ZL cZ3 (ZA S_bd.eq_1 SX_bd.eq_1)
theorem w_fq (aZ0:List TService) (bZ0:List TService) {r:Bool} (h:M_fq aZ0 bZ0=some r):Ok Tryz.prog 41 [.lst .o 10 (aZ0.map (e_TService .o)),.lst .o 10 (bZ0.map (e_TService .o))] ((fun r=>.b r) r):=by
 refine ok_of_body hmix m41 rfl ?_
 unfold M_fq at h
 simp only [ZC,A41,V41,body_eq]
 obtain ⟨cZ1,h⟩ | ⟨cZ1,h⟩:=cond_s h
 · cases h
   exact ZL cZ1 V41.eq_1
 · obtain ⟨oZ8,hoZ8,h⟩:=bind_s h
   try refine ZF cZ1 ?_
   refine join_rule (o:=oZ8) (blk_rule sideR (loop_rule (w_bd aZ0 bZ0) hoZ8 ?_)) (fun vZ9 hv=>?_) (fun xZ10 hv e τ hne hq=>?_)
   · exact ZK (ZA S_bd.eq_1 SX_bd.eq_1)
   · subst hv
     simp only [] at h
     simp only [ZC,SX_bd,A41R2]
     cases h
     exact ZL cZ1 V41.eq_1
   · subst hv
     simp only [] at h
     obtain ⟨rfl,qZ11⟩:=hq
     cases h
     exact qZ11
def S_be (v:Int×ByteArray):St:=⟨[(0,.i v.1),(3,.z v.2)],[]⟩
def SX_be (v:ByteArray):St:=⟨[(3,.z v)],[]⟩
theorem w_be (sZ2:Int×ByteArray) (o:(Int×ByteArray) ⊕ ByteArray) (h:M_be sZ2=some o):AWP (OkS Tryz.prog) A161L1 (qL [0,3] [] (S_be) (qX 0 [3] [] (SX_be)) o) (S_be sZ2):=by
 unfold M_be at h
 simp only [ZC,S_be,A161L1]
 obtain ⟨cZ3,h⟩ | ⟨cZ3,h⟩:=cond_s h
 · obtain ⟨uZ4,huZ4,h⟩:=bind_s h
   have huZ4g:=grd_s huZ4
   obtain ⟨lZ5,hlZ5,h⟩:=bnd_s h
   have eZ6:Row.arr 1 [(.sc (.int .u8 (IntKind.wrap .u8 (IntKind.wrap .i64 (48+(Int.tmod sZ2.1 10))))):AV)]=Row.arr 1 (lZ5.map AV.u8):=by rw [← hlZ5]; rfl
   have jjZ7:lZ5.length=1:=by rw [← hlZ5]; rfl
   have nZ8:sub (lZ5.map AV.u8) 0 1=lZ5.map AV.u8:=sub_n _ (by simp [← hlZ5])
   obtain ⟨uZ9,huZ9,h⟩:=bind_s h
   have huZ9g:=grd_s huZ9
   obtain ⟨uZ10,huZ10,h⟩:=bind_s h
   have huZ10g:=grd_s huZ10
   cases h
   exact ZL (ZA cZ3 (ZA huZ4g (ZA eZ6 (ZA jjZ7 (ZA nZ8 (ZA huZ9g huZ10g)))))) (ZA S_be.eq_1 (ZA SX_be.eq_1 (ZA hlZ5.symm jjZ7)))
 · cases h
   exact ZL cZ3 (ZA S_be.eq_1 SX_be.eq_1)
theorem w_ck (kZ0:Int) {r:ByteArray} (h:M_ck kZ0=some r):Ok Tryz.prog 161 [.i kZ0] ((fun r=>.z r) r):=by
 refine ok_of_body hmix m161 rfl ?_
 unfold M_ck at h
 simp only [ZC,A161,V161,body_eq]
 obtain ⟨cZ1,h⟩ | ⟨cZ1,h⟩:=cond_s h
 · cases h
   exact ZL cZ1 V161.eq_1
 · obtain ⟨oZ11,hoZ11,h⟩:=bind_s h
   try refine ZF cZ1 ?_
   refine join_rule0 (blk_rule0 (loop_rule (w_be) hoZ11 ?_)) ?_
   · exact ZK (ZA S_be.eq_1 SX_be.eq_1)
   · simp only [ZC,SX_be,A161R2]
     obtain ⟨uZ12,huZ12,h⟩:=bind_s h
     have huZ12g:=grd_s huZ12
     cases h
     exact ZL (ZA cZ1 huZ12g) V161.eq_1
def S_bf (v:Int×Int×List ByteArray):St:=⟨[(0,.sl 1000000000 0 v.2.2.length),(1,.i v.1),(5,.i v.2.1)],[(1000000000,.arr 1 (v.2.2.map AV.z))]⟩
def SX_bf (v:Int×List ByteArray):St:=⟨[(1,.i v.1)],[(1000000000,.arr 1 (v.2.map AV.z))]⟩
theorem w_bf (sZ1:Int×Int×List ByteArray) (o:(Int×Int×List ByteArray) ⊕ (Int×List ByteArray)) (h:M_bf sZ1=some o):AWP (OkS Tryz.prog) A102M1L1 (qL [0,1,5] [1000000000] (S_bf) (qX 0 [1] [1000000000] (SX_bf)) o) (S_bf sZ1):=by
 unfold M_bf at h
 simp only [ZC,S_bf,A102M1L1]
 obtain ⟨cZ2,h⟩ | ⟨cZ2,h⟩:=cond_s h
 · obtain ⟨rZ3,hrZ3,h⟩:=bind_s h
   refine ZF cZ2 ?_
   refine ZS cZ2 (w_ck _ hrZ3) ?_
   refine ZG ?_
   obtain ⟨kZ4,hkZ4,h⟩:=bind_s h
   obtain ⟨hkZ4a,hkZ4b⟩:=grd_s hkZ4
   obtain ⟨yZ5,hyZ5,h⟩:=bind_s h
   obtain ⟨lZ6,hlZ6,h⟩:=bnd_s h
   have eZ7:(sZ1.2.2.map AV.z).set (Int.toNat sZ1.2.1) (.z rZ3)=lZ6.map AV.z:=by rw [← hlZ6,List.map_set]
   cases h
   exact ZL (ZA cZ2 (ZA hkZ4a (ZA hkZ4b (ZA hyZ5 eZ7)))) (ZA S_bf.eq_1 (ZA SX_bf.eq_1 hlZ6.symm))
 · cases h
   exact ZL cZ2 (ZA S_bf.eq_1 SX_bf.eq_1)
theorem w_fr (aaZ0:Int) (abZ0:List ByteArray) {r:Int×List ByteArray} (h:M_fr aaZ0 abZ0=some r):OkM Tryz.prog 102 [.sl 1000000000 0 abZ0.length,.i aaZ0] [(1000000000,.arr 1 (abZ0.map AV.z))] ((fun (r:Int×List ByteArray)=>.i r.1) r) ((fun (r:Int×List ByteArray)=>[(1000000000,.arr 1 (r.2.map AV.z))]) r):=by
 refine okM_of_body (lr:=[1000000000]) hmix m102M1 rfl rfl ?_
 unfold M_fr at h
 simp only [ZC,A102M1,V102M1]
 obtain ⟨oZ8,hoZ8,h⟩:=bind_s h
 try refine ZF trivial ?_
 refine join_rule0 (blk_rule0 (loop_rule (w_bf) hoZ8 ?_)) ?_
 · exact ZK (ZA S_bf.eq_1 SX_bf.eq_1)
 · simp only [ZC,SX_bf,A102M1R2]
   cases h
   exact ZL trivial V102M1.eq_1
def S_bg (v:Int×Int×List TFiber):St:=⟨[(0,.sl 1000000000 0 v.2.2.length),(1,.i v.1),(5,.i v.2.1)],[(1000000000,.arr 4 (v.2.2.map (e_TFiber .u)))]⟩
def SX_bg (v:Int×List TFiber):St:=⟨[(1,.i v.1)],[(1000000000,.arr 4 (v.2.map (e_TFiber .u)))]⟩
theorem w_bg (sZ1:Int×Int×List TFiber) (o:(Int×Int×List TFiber) ⊕ (Int×List TFiber)) (h:M_bg sZ1=some o):AWP (OkS Tryz.prog) A103M1L1 (qL [0,1,5] [1000000000] (S_bg) (qX 0 [1] [1000000000] (SX_bg)) o) (S_bg sZ1):=by
 unfold M_bg at h
 simp only [ZC,S_bg,A103M1L1]
 obtain ⟨cZ2,h⟩ | ⟨cZ2,h⟩:=cond_s h
 · obtain ⟨kZ3,hkZ3,h⟩:=bind_s h
   obtain ⟨hkZ3a,hkZ3b⟩:=grd_s hkZ3
   obtain ⟨yZ4,hyZ4,h⟩:=bind_s h
   obtain ⟨lZ5,hlZ5,h⟩:=bnd_s h
   have eZ6:(sZ1.2.2.map (e_TFiber .u)).set (Int.toNat sZ1.2.1) (.agg [.i sZ1.1,.i yZ4.B,.i yZ4.Length,.i yZ4.Risk])=lZ5.map (e_TFiber .u):=by rw [← hlZ5,List.map_set]; rfl
   obtain ⟨yZ7,hyZ7,h⟩:=bind_s h
   obtain ⟨lZ8,hlZ8,h⟩:=bnd_s h
   have eZ9:(lZ5.map (e_TFiber .u)).set (Int.toNat sZ1.2.1) (.agg [.i yZ7.A,.i (IntKind.wrap .i64 (sZ1.1+1)),.i yZ7.Length,.i yZ7.Risk])=lZ8.map (e_TFiber .u):=by rw [← hlZ8,List.map_set]; rfl
   obtain ⟨yZ10,hyZ10,h⟩:=bind_s h
   obtain ⟨lZ11,hlZ11,h⟩:=bnd_s h
   have eZ12:(lZ8.map (e_TFiber .u)).set (Int.toNat sZ1.2.1) (.agg [.i yZ10.A,.i yZ10.B,.i (IntKind.wrap .i64 ((IntKind.wrap .i64 (sZ1.1+1))+1)),.i yZ10.Risk])=lZ11.map (e_TFiber .u):=by rw [← hlZ11,List.map_set]; rfl
   obtain ⟨yZ13,hyZ13,h⟩:=bind_s h
   obtain ⟨lZ14,hlZ14,h⟩:=bnd_s h
   have eZ15:(lZ11.map (e_TFiber .u)).set (Int.toNat sZ1.2.1) (.agg [.i yZ13.A,.i yZ13.B,.i yZ13.Length,.i (IntKind.wrap .i64 ((IntKind.wrap .i64 ((IntKind.wrap .i64 (sZ1.1+1))+1))+1))])=lZ14.map (e_TFiber .u):=by rw [← hlZ14,List.map_set]; rfl
   cases h
   exact ZL (ZA cZ2 (ZA hkZ3a (ZA hkZ3b (ZA hyZ4 (ZA eZ6 (ZA hyZ7 (ZA eZ9 (ZA hyZ10 (ZA eZ12 (ZA hyZ13 eZ15)))))))))) (ZA S_bg.eq_1 (ZA SX_bg.eq_1 (ZA hlZ5.symm (ZA hlZ8.symm (ZA hlZ11.symm hlZ14.symm)))))
 · cases h
   exact ZL cZ2 (ZA S_bg.eq_1 SX_bg.eq_1)
theorem w_fs (aaZ0:Int) (abZ0:List TFiber) {r:Int×List TFiber} (h:M_fs aaZ0 abZ0=some r):OkM Tryz.prog 103 [.sl 1000000000 0 abZ0.length,.i aaZ0] [(1000000000,.arr 4 (abZ0.map (e_TFiber .u)))] ((fun (r:Int×List TFiber)=>.i r.1) r) ((fun (r:Int×List TFiber)=>[(1000000000,.arr 4 (r.2.map (e_TFiber .u)))]) r):=by
 refine okM_of_body (lr:=[1000000000]) hmix m103M1 rfl rfl ?_
 unfold M_fs at h
 simp only [ZC,A103M1,V103M1]
 obtain ⟨oZ16,hoZ16,h⟩:=bind_s h
 try refine ZF trivial ?_
 refine join_rule0 (blk_rule0 (loop_rule (w_bg) hoZ16 ?_)) ?_
 · exact ZK (ZA S_bg.eq_1 SX_bg.eq_1)
 · simp only [ZC,SX_bg,A103M1R2]
   cases h
   exact ZL trivial V103M1.eq_1
theorem w_di (aaZ0:Int) (abZ0:List ByteArray) (acZ0:List TFiber) {r:Int×List ByteArray×List TFiber} (h:M_di aaZ0 abZ0 acZ0=some r):OkM Tryz.prog 42 [.agg [.sl 1000000000 0 abZ0.length,.sl 1000000001 0 acZ0.length],.i aaZ0] [(1000000000,.arr 1 (abZ0.map AV.z)),(1000000001,.arr 4 (acZ0.map (e_TFiber .u)))] ((fun (r:Int×List ByteArray×List TFiber)=>.i r.1) r) ((fun (r:Int×List ByteArray×List TFiber)=>[(1000000000,.arr 1 (r.2.1.map AV.z)),(1000000001,.arr 4 (r.2.2.map (e_TFiber .u)))]) r):=by
 refine okM_of_body (lr:=[1000000000,1000000001]) hmix m42M1 rfl rfl ?_
 unfold M_di at h
 simp only [ZC,A42M1,V42M1]
 obtain ⟨rZ1,hrZ1,h⟩:=bind_s h
 refine ZF trivial ?_
 refine ZW trivial (w_fr _ _ hrZ1) (h2:=by first | exact nm_ok [1000000000] rfl (by decide +kernel) | exact nm_ok2 [1000000000] [] rfl (by decide +kernel) ZQ | exact ZQ) (hk:=?_)
 refine ZG ?_
 obtain ⟨rZ2,hrZ2,h⟩:=bind_s h
 refine ZF trivial ?_
 refine ZW trivial (w_fs _ _ hrZ2) (h2:=by first | exact nm_ok [1000000000] rfl (by decide +kernel) | exact nm_ok2 [1000000000] [] rfl (by decide +kernel) ZQ | exact ZQ) (hk:=?_)
 refine ZG ?_
 cases h
 exact ZL trivial V42M1.eq_1
def S_bh (v:Int×Int×List Int):St:=⟨[(0,.sl 1000000000 0 v.2.2.length),(1,.i v.1),(5,.i v.2.1)],[(1000000000,.arr 1 (v.2.2.map AV.i))]⟩
def SX_bh (v:Int×List Int):St:=⟨[(1,.i v.1)],[(1000000000,.arr 1 (v.2.map AV.i))]⟩
theorem w_bh (sZ1:Int×Int×List Int) (o:(Int×Int×List Int) ⊕ (Int×List Int)) (h:M_bh sZ1=some o):AWP (OkS Tryz.prog) A22M1L1 (qL [0,1,5] [1000000000] (S_bh) (qX 0 [1] [1000000000] (SX_bh)) o) (S_bh sZ1):=by
 unfold M_bh at h
 simp only [ZC,S_bh,A22M1L1]
 obtain ⟨cZ2,h⟩ | ⟨cZ2,h⟩:=cond_s h
 · obtain ⟨kZ3,hkZ3,h⟩:=bind_s h
   obtain ⟨hkZ3a,hkZ3b⟩:=grd_s hkZ3
   obtain ⟨yZ4,hyZ4,h⟩:=bind_s h
   obtain ⟨lZ5,hlZ5,h⟩:=bnd_s h
   have eZ6:(sZ1.2.2.map AV.i).set (Int.toNat sZ1.2.1) (.i sZ1.1)=lZ5.map AV.i:=by rw [← hlZ5,List.map_set]
   cases h
   exact ZL (ZA cZ2 (ZA hkZ3a (ZA hkZ3b (ZA hyZ4 eZ6)))) (ZA S_bh.eq_1 (ZA SX_bh.eq_1 hlZ5.symm))
 · cases h
   exact ZL cZ2 (ZA S_bh.eq_1 SX_bh.eq_1)
theorem w_cl (aaZ0:Int) (abZ0:List Int) {r:Int×List Int} (h:M_cl aaZ0 abZ0=some r):OkM Tryz.prog 22 [.sl 1000000000 0 abZ0.length,.i aaZ0] [(1000000000,.arr 1 (abZ0.map AV.i))] ((fun (r:Int×List Int)=>.i r.1) r) ((fun (r:Int×List Int)=>[(1000000000,.arr 1 (r.2.map AV.i))]) r):=by
 refine okM_of_body (lr:=[1000000000]) hmix m22M1 rfl rfl ?_
 unfold M_cl at h
 simp only [ZC,A22M1,V22M1]
 obtain ⟨oZ7,hoZ7,h⟩:=bind_s h
 try refine ZF trivial ?_
 refine join_rule0 (blk_rule0 (loop_rule (w_bh) hoZ7 ?_)) ?_
 · exact ZK (ZA S_bh.eq_1 SX_bh.eq_1)
 · simp only [ZC,SX_bh,A22M1R2]
   cases h
   exact ZL trivial V22M1.eq_1
def S_bi (v:Int×Int×List TService):St:=⟨[(0,.sl 1000000000 0 v.2.2.length),(1,.i v.1),(5,.i v.2.1)],[(1000000000,.arr 10 (v.2.2.map (e_TService .u)))]⟩
def SX_bi (v:Int×List TService):St:=⟨[(1,.i v.1)],[(1000000000,.arr 10 (v.2.map (e_TService .u)))]⟩
theorem w_bi (sZ1:Int×Int×List TService) (o:(Int×Int×List TService) ⊕ (Int×List TService)) (h:M_bi sZ1=some o):AWP (OkS Tryz.prog) A43M1L1 (qL [0,1,5] [1000000000] (S_bi) (qX 0 [1] [1000000000] (SX_bi)) o) (S_bi sZ1):=by
 unfold M_bi at h
 simp only [ZC,S_bi,A43M1L1]
 obtain ⟨cZ2,h⟩ | ⟨cZ2,h⟩:=cond_s h
 · obtain ⟨kZ3,hkZ3,h⟩:=bind_s h
   obtain ⟨hkZ3a,hkZ3b⟩:=grd_s hkZ3
   obtain ⟨yZ4,hyZ4,h⟩:=bind_s h
   obtain ⟨lZ5,hlZ5,h⟩:=bnd_s h
   have eZ6:(sZ1.2.2.map (e_TService .u)).set (Int.toNat sZ1.2.1) (.agg [.i sZ1.1,.i yZ4.Class,.i yZ4.Work.Start,.lst .u 1 (yZ4.Work.Fibers.map AV.i),.i yZ4.WorkBlock.First,.i yZ4.WorkBlock.Count,.i yZ4.Spare.Start,.lst .u 1 (yZ4.Spare.Fibers.map AV.i),.i yZ4.SpareBlock.First,.i yZ4.SpareBlock.Count])=lZ5.map (e_TService .u):=by rw [← hlZ5,List.map_set]; rfl
   obtain ⟨yZ7,hyZ7,h⟩:=bind_s h
   obtain ⟨lZ8,hlZ8,h⟩:=bnd_s h
   have eZ9:(lZ5.map (e_TService .u)).set (Int.toNat sZ1.2.1) (.agg [.i yZ7.Id,.i (IntKind.wrap .i64 (sZ1.1+1)),.i yZ7.Work.Start,.lst .u 1 (yZ7.Work.Fibers.map AV.i),.i yZ7.WorkBlock.First,.i yZ7.WorkBlock.Count,.i yZ7.Spare.Start,.lst .u 1 (yZ7.Spare.Fibers.map AV.i),.i yZ7.SpareBlock.First,.i yZ7.SpareBlock.Count])=lZ8.map (e_TService .u):=by rw [← hlZ8,List.map_set]; rfl
   obtain ⟨yZ10,hyZ10,h⟩:=bind_s h
   obtain ⟨lZ11,hlZ11,h⟩:=bnd_s h
   have eZ12:(lZ8.map (e_TService .u)).set (Int.toNat sZ1.2.1) (.agg [.i yZ10.Id,.i yZ10.Class,.i (IntKind.wrap .i64 ((IntKind.wrap .i64 (sZ1.1+1))+1)),.lst .u 1 (yZ10.Work.Fibers.map AV.i),.i yZ10.WorkBlock.First,.i yZ10.WorkBlock.Count,.i yZ10.Spare.Start,.lst .u 1 (yZ10.Spare.Fibers.map AV.i),.i yZ10.SpareBlock.First,.i yZ10.SpareBlock.Count])=lZ11.map (e_TService .u):=by rw [← hlZ11,List.map_set]; rfl
   obtain ⟨yZ13,hyZ13,h⟩:=bind_s h
   obtain ⟨rZ14,hrZ14,h⟩:=bind_s h
   obtain ⟨lZ15,hlZ15,h⟩:=bnd_s h
   have eZ16:(lZ11.map (e_TService .u)).set (Int.toNat sZ1.2.1) (.agg [.i yZ13.Id,.i yZ13.Class,.i yZ13.Work.Start,.lst .u 1 (rZ14.2.map AV.i),.i yZ13.WorkBlock.First,.i yZ13.WorkBlock.Count,.i yZ13.Spare.Start,.lst .u 1 (yZ13.Spare.Fibers.map AV.i),.i yZ13.SpareBlock.First,.i yZ13.SpareBlock.Count])=lZ15.map (e_TService .u):=by rw [← hlZ15,List.map_set]; rfl
   refine ZF (ZA cZ2 (ZA hkZ3a (ZA hkZ3b (ZA hyZ4 (ZA eZ6 (ZA hyZ7 (ZA eZ9 (ZA hyZ10 (ZA eZ12 hyZ13))))))))) ?_
   refine inn_s (v:=.int .i64 rZ14.1) (ys':=rZ14.2.map AV.i) (z:=.agg [.i yZ13.Id,.i yZ13.Class,.i yZ13.Work.Start,.lst .u 1 (rZ14.2.map AV.i),.i yZ13.WorkBlock.First,.i yZ13.WorkBlock.Count,.i yZ13.Spare.Start,.lst .u 1 (yZ13.Spare.Fibers.map AV.i),.i yZ13.SpareBlock.First,.i yZ13.SpareBlock.Count]) (by simp only [VS1,VS2,VS3,VS4,VS5,VS6,VT1,VT2,finM_ret,finM_nrm,decide_true,decide_false,List.nodup_nil,List.nodup_cons,oks_p,oks_m,oks_h,ne_eq,not_false_eq_true,Int.reduceEq,Int.reduceNe,true_and,false_and,Nat.reduceSub,Nat.reduceMul,↓reduceIte,reduceCtorEq,Nat.reduceEqDiff,Nat.reduceAdd,Nat.reduceLeDiff,Int.reduceLE,cZ2,hkZ3a,hkZ3b,hyZ4,eZ6,hyZ7,eZ9,hyZ10,eZ12,hyZ13]; exact w_cl _ _ hrZ14) (by simp [AV.flat,VT1,VT2]) (by simp [fz_mk,fz_bpo,fz_sc,fz_lsto,fz_agg,fz_tup,fz_fn,fz_sl,fz_pt,fz_top,fzL_nil,fzL_cons,ou_sc,ou_lstu,ou_lsto,ou_agg,ouL_nil,ouL_cons,rfz_var,rfz_arr,rfz_dead,fzL_mi,fzL_mb,fzL_mz,fzL_m8,fzL_m64,ouL_m8,ouL_m64,ouL_mi,ouL_mb,ouL_mz,VZ1]) (by simp [VS1,VS2,VS3,VS4,VS5,VS6,VT1,VT2]) (by simp [AV.flat,VT1,VT2]) rfl ?_
   refine ZG ?_
   obtain ⟨yZ17,hyZ17,h⟩:=bind_s h
   obtain ⟨lZ18,hlZ18,h⟩:=bnd_s h
   have eZ19:(lZ15.map (e_TService .u)).set (Int.toNat sZ1.2.1) (.agg [.i yZ17.Id,.i yZ17.Class,.i yZ17.Work.Start,.lst .u 1 (yZ17.Work.Fibers.map AV.i),.i rZ14.1,.i yZ17.WorkBlock.Count,.i yZ17.Spare.Start,.lst .u 1 (yZ17.Spare.Fibers.map AV.i),.i yZ17.SpareBlock.First,.i yZ17.SpareBlock.Count])=lZ18.map (e_TService .u):=by rw [← hlZ18,List.map_set]; rfl
   obtain ⟨yZ20,hyZ20,h⟩:=bind_s h
   obtain ⟨lZ21,hlZ21,h⟩:=bnd_s h
   have eZ22:(lZ18.map (e_TService .u)).set (Int.toNat sZ1.2.1) (.agg [.i yZ20.Id,.i yZ20.Class,.i yZ20.Work.Start,.lst .u 1 (yZ20.Work.Fibers.map AV.i),.i yZ20.WorkBlock.First,.i (IntKind.wrap .i64 (rZ14.1+1)),.i yZ20.Spare.Start,.lst .u 1 (yZ20.Spare.Fibers.map AV.i),.i yZ20.SpareBlock.First,.i yZ20.SpareBlock.Count])=lZ21.map (e_TService .u):=by rw [← hlZ21,List.map_set]; rfl
   obtain ⟨yZ23,hyZ23,h⟩:=bind_s h
   obtain ⟨lZ24,hlZ24,h⟩:=bnd_s h
   have eZ25:(lZ21.map (e_TService .u)).set (Int.toNat sZ1.2.1) (.agg [.i yZ23.Id,.i yZ23.Class,.i yZ23.Work.Start,.lst .u 1 (yZ23.Work.Fibers.map AV.i),.i yZ23.WorkBlock.First,.i yZ23.WorkBlock.Count,.i (IntKind.wrap .i64 ((IntKind.wrap .i64 (rZ14.1+1))+1)),.lst .u 1 (yZ23.Spare.Fibers.map AV.i),.i yZ23.SpareBlock.First,.i yZ23.SpareBlock.Count])=lZ24.map (e_TService .u):=by rw [← hlZ24,List.map_set]; rfl
   obtain ⟨yZ26,hyZ26,h⟩:=bind_s h
   obtain ⟨rZ27,hrZ27,h⟩:=bind_s h
   obtain ⟨lZ28,hlZ28,h⟩:=bnd_s h
   have eZ29:(lZ24.map (e_TService .u)).set (Int.toNat sZ1.2.1) (.agg [.i yZ26.Id,.i yZ26.Class,.i yZ26.Work.Start,.lst .u 1 (yZ26.Work.Fibers.map AV.i),.i yZ26.WorkBlock.First,.i yZ26.WorkBlock.Count,.i yZ26.Spare.Start,.lst .u 1 (rZ27.2.map AV.i),.i yZ26.SpareBlock.First,.i yZ26.SpareBlock.Count])=lZ28.map (e_TService .u):=by rw [← hlZ28,List.map_set]; rfl
   refine ZF (ZA cZ2 (ZA hkZ3a (ZA hkZ3b (ZA hyZ4 (ZA eZ6 (ZA hyZ7 (ZA eZ9 (ZA hyZ10 (ZA eZ12 (ZA hyZ13 (ZA eZ16 (ZA hyZ17 (ZA eZ19 (ZA hyZ20 (ZA eZ22 (ZA hyZ23 (ZA eZ25 hyZ26))))))))))))))))) ?_
   refine inn_s (v:=.int .i64 rZ27.1) (ys':=rZ27.2.map AV.i) (z:=.agg [.i yZ26.Id,.i yZ26.Class,.i yZ26.Work.Start,.lst .u 1 (yZ26.Work.Fibers.map AV.i),.i yZ26.WorkBlock.First,.i yZ26.WorkBlock.Count,.i yZ26.Spare.Start,.lst .u 1 (rZ27.2.map AV.i),.i yZ26.SpareBlock.First,.i yZ26.SpareBlock.Count]) (by simp only [VS1,VS2,VS3,VS4,VS5,VS6,VT1,VT2,finM_ret,finM_nrm,decide_true,decide_false,List.nodup_nil,List.nodup_cons,oks_p,oks_m,oks_h,ne_eq,not_false_eq_true,Int.reduceEq,Int.reduceNe,true_and,false_and,Nat.reduceSub,Nat.reduceMul,↓reduceIte,reduceCtorEq,Nat.reduceEqDiff,Nat.reduceAdd,Nat.reduceLeDiff,Int.reduceLE,cZ2,hkZ3a,hkZ3b,hyZ4,eZ6,hyZ7,eZ9,hyZ10,eZ12,hyZ13,eZ16,hyZ17,eZ19,hyZ20,eZ22,hyZ23,eZ25,hyZ26]; exact w_cl _ _ hrZ27) (by simp [AV.flat,VT1,VT2]) (by simp [fz_mk,fz_bpo,fz_sc,fz_lsto,fz_agg,fz_tup,fz_fn,fz_sl,fz_pt,fz_top,fzL_nil,fzL_cons,ou_sc,ou_lstu,ou_lsto,ou_agg,ouL_nil,ouL_cons,rfz_var,rfz_arr,rfz_dead,fzL_mi,fzL_mb,fzL_mz,fzL_m8,fzL_m64,ouL_m8,ouL_m64,ouL_mi,ouL_mb,ouL_mz,VZ1]) (by simp [VS1,VS2,VS3,VS4,VS5,VS6,VT1,VT2]) (by simp [AV.flat,VT1,VT2]) rfl ?_
   refine ZG ?_
   obtain ⟨yZ30,hyZ30,h⟩:=bind_s h
   obtain ⟨lZ31,hlZ31,h⟩:=bnd_s h
   have eZ32:(lZ28.map (e_TService .u)).set (Int.toNat sZ1.2.1) (.agg [.i yZ30.Id,.i yZ30.Class,.i yZ30.Work.Start,.lst .u 1 (yZ30.Work.Fibers.map AV.i),.i yZ30.WorkBlock.First,.i yZ30.WorkBlock.Count,.i yZ30.Spare.Start,.lst .u 1 (yZ30.Spare.Fibers.map AV.i),.i rZ27.1,.i yZ30.SpareBlock.Count])=lZ31.map (e_TService .u):=by rw [← hlZ31,List.map_set]; rfl
   obtain ⟨yZ33,hyZ33,h⟩:=bind_s h
   obtain ⟨lZ34,hlZ34,h⟩:=bnd_s h
   have eZ35:(lZ31.map (e_TService .u)).set (Int.toNat sZ1.2.1) (.agg [.i yZ33.Id,.i yZ33.Class,.i yZ33.Work.Start,.lst .u 1 (yZ33.Work.Fibers.map AV.i),.i yZ33.WorkBlock.First,.i yZ33.WorkBlock.Count,.i yZ33.Spare.Start,.lst .u 1 (yZ33.Spare.Fibers.map AV.i),.i yZ33.SpareBlock.First,.i (IntKind.wrap .i64 (rZ27.1+1))])=lZ34.map (e_TService .u):=by rw [← hlZ34,List.map_set]; rfl
   cases h
   exact ZL (ZA cZ2 (ZA hkZ3a (ZA hkZ3b (ZA hyZ4 (ZA eZ6 (ZA hyZ7 (ZA eZ9 (ZA hyZ10 (ZA eZ12 (ZA hyZ13 (ZA eZ16 (ZA hyZ17 (ZA eZ19 (ZA hyZ20 (ZA eZ22 (ZA hyZ23 (ZA eZ25 (ZA hyZ26 (ZA eZ29 (ZA hyZ30 (ZA eZ32 (ZA hyZ33 eZ35)))))))))))))))))))))) (ZA S_bi.eq_1 (ZA SX_bi.eq_1 (ZA hlZ5.symm (ZA hlZ8.symm (ZA hlZ11.symm (ZA hlZ15.symm (ZA hlZ18.symm (ZA hlZ21.symm (ZA hlZ24.symm (ZA hlZ28.symm (ZA hlZ31.symm hlZ34.symm)))))))))))
 · cases h
   exact ZL cZ2 (ZA S_bi.eq_1 SX_bi.eq_1)
theorem w_dt (aaZ0:Int) (abZ0:List TService) {r:Int×List TService} (h:M_dt aaZ0 abZ0=some r):OkH Tryz.prog 43 [.sl 1000000000 0 abZ0.length,.i aaZ0] [(1000000000,.arr 10 (abZ0.map (e_TService .u)))] ((fun (r:Int×List TService)=>.i r.1) r) ((fun (r:Int×List TService)=>[(1000000000,.arr 10 (r.2.map (e_TService .u)))]) r):=by
 refine okH_of_body (lr:=[1000000000]) hmix m43M1 rfl ?_
 unfold M_dt at h
 simp only [ZC,A43M1,V43M1]
 obtain ⟨oZ36,hoZ36,h⟩:=bind_s h
 try refine ZF trivial ?_
 refine join_rule0 (blk_rule0 (loop_rule (w_bi) hoZ36 ?_)) ?_
 · exact ZK (ZA S_bi.eq_1 SX_bi.eq_1)
 · simp only [ZC,SX_bi,A43M1R2]
   cases h
   exact ZL trivial V43M1.eq_1
def S_bj (v:Int×Int×List TLight):St:=⟨[(0,.sl 1000000000 0 v.2.2.length),(1,.i v.1),(5,.i v.2.1)],[(1000000000,.arr 5 (v.2.2.map (e_TLight .u)))]⟩
def SX_bj (v:Int×List TLight):St:=⟨[(1,.i v.1)],[(1000000000,.arr 5 (v.2.map (e_TLight .u)))]⟩
theorem w_bj (sZ1:Int×Int×List TLight) (o:(Int×Int×List TLight) ⊕ (Int×List TLight)) (h:M_bj sZ1=some o):AWP (OkS Tryz.prog) A73M1L1 (qL [0,1,5] [1000000000] (S_bj) (qX 0 [1] [1000000000] (SX_bj)) o) (S_bj sZ1):=by
 unfold M_bj at h
 simp only [ZC,S_bj,A73M1L1]
 obtain ⟨cZ2,h⟩ | ⟨cZ2,h⟩:=cond_s h
 · obtain ⟨kZ3,hkZ3,h⟩:=bind_s h
   obtain ⟨hkZ3a,hkZ3b⟩:=grd_s hkZ3
   obtain ⟨yZ4,hyZ4,h⟩:=bind_s h
   obtain ⟨lZ5,hlZ5,h⟩:=bnd_s h
   have eZ6:(sZ1.2.2.map (e_TLight .u)).set (Int.toNat sZ1.2.1) (.agg [.i sZ1.1,.i yZ4.Route.Start,.lst .u 1 (yZ4.Route.Fibers.map AV.i),.i yZ4.Block.First,.i yZ4.Block.Count])=lZ5.map (e_TLight .u):=by rw [← hlZ5,List.map_set]; rfl
   obtain ⟨yZ7,hyZ7,h⟩:=bind_s h
   obtain ⟨lZ8,hlZ8,h⟩:=bnd_s h
   have eZ9:(lZ5.map (e_TLight .u)).set (Int.toNat sZ1.2.1) (.agg [.i yZ7.Id,.i (IntKind.wrap .i64 (sZ1.1+1)),.lst .u 1 (yZ7.Route.Fibers.map AV.i),.i yZ7.Block.First,.i yZ7.Block.Count])=lZ8.map (e_TLight .u):=by rw [← hlZ8,List.map_set]; rfl
   obtain ⟨yZ10,hyZ10,h⟩:=bind_s h
   obtain ⟨rZ11,hrZ11,h⟩:=bind_s h
   obtain ⟨lZ12,hlZ12,h⟩:=bnd_s h
   have eZ13:(lZ8.map (e_TLight .u)).set (Int.toNat sZ1.2.1) (.agg [.i yZ10.Id,.i yZ10.Route.Start,.lst .u 1 (rZ11.2.map AV.i),.i yZ10.Block.First,.i yZ10.Block.Count])=lZ12.map (e_TLight .u):=by rw [← hlZ12,List.map_set]; rfl
   refine ZF (ZA cZ2 (ZA hkZ3a (ZA hkZ3b (ZA hyZ4 (ZA eZ6 (ZA hyZ7 (ZA eZ9 hyZ10))))))) ?_
   refine inn_s (v:=.int .i64 rZ11.1) (ys':=rZ11.2.map AV.i) (z:=.agg [.i yZ10.Id,.i yZ10.Route.Start,.lst .u 1 (rZ11.2.map AV.i),.i yZ10.Block.First,.i yZ10.Block.Count]) (by simp only [VS1,VS2,VS3,VS4,VS5,VS6,VT1,VT2,finM_ret,finM_nrm,decide_true,decide_false,List.nodup_nil,List.nodup_cons,oks_p,oks_m,oks_h,ne_eq,not_false_eq_true,Int.reduceEq,Int.reduceNe,true_and,false_and,Nat.reduceSub,Nat.reduceMul,↓reduceIte,reduceCtorEq,Nat.reduceEqDiff,Nat.reduceAdd,Nat.reduceLeDiff,Int.reduceLE,cZ2,hkZ3a,hkZ3b,hyZ4,eZ6,hyZ7,eZ9,hyZ10]; exact w_cl _ _ hrZ11) (by simp [AV.flat,VT1,VT2]) (by simp [fz_mk,fz_bpo,fz_sc,fz_lsto,fz_agg,fz_tup,fz_fn,fz_sl,fz_pt,fz_top,fzL_nil,fzL_cons,ou_sc,ou_lstu,ou_lsto,ou_agg,ouL_nil,ouL_cons,rfz_var,rfz_arr,rfz_dead,fzL_mi,fzL_mb,fzL_mz,fzL_m8,fzL_m64,ouL_m8,ouL_m64,ouL_mi,ouL_mb,ouL_mz,VZ1]) (by simp [VS1,VS2,VS3,VS4,VS5,VS6,VT1,VT2]) (by simp [AV.flat,VT1,VT2]) rfl ?_
   refine ZG ?_
   obtain ⟨yZ14,hyZ14,h⟩:=bind_s h
   obtain ⟨lZ15,hlZ15,h⟩:=bnd_s h
   have eZ16:(lZ12.map (e_TLight .u)).set (Int.toNat sZ1.2.1) (.agg [.i yZ14.Id,.i yZ14.Route.Start,.lst .u 1 (yZ14.Route.Fibers.map AV.i),.i rZ11.1,.i yZ14.Block.Count])=lZ15.map (e_TLight .u):=by rw [← hlZ15,List.map_set]; rfl
   obtain ⟨yZ17,hyZ17,h⟩:=bind_s h
   obtain ⟨lZ18,hlZ18,h⟩:=bnd_s h
   have eZ19:(lZ15.map (e_TLight .u)).set (Int.toNat sZ1.2.1) (.agg [.i yZ17.Id,.i yZ17.Route.Start,.lst .u 1 (yZ17.Route.Fibers.map AV.i),.i yZ17.Block.First,.i (IntKind.wrap .i64 (rZ11.1+1))])=lZ18.map (e_TLight .u):=by rw [← hlZ18,List.map_set]; rfl
   cases h
   exact ZL (ZA cZ2 (ZA hkZ3a (ZA hkZ3b (ZA hyZ4 (ZA eZ6 (ZA hyZ7 (ZA eZ9 (ZA hyZ10 (ZA eZ13 (ZA hyZ14 (ZA eZ16 (ZA hyZ17 eZ19)))))))))))) (ZA S_bj.eq_1 (ZA SX_bj.eq_1 (ZA hlZ5.symm (ZA hlZ8.symm (ZA hlZ12.symm (ZA hlZ15.symm hlZ18.symm))))))
 · cases h
   exact ZL cZ2 (ZA S_bj.eq_1 SX_bj.eq_1)
theorem w_du (aaZ0:Int) (abZ0:List TLight) {r:Int×List TLight} (h:M_du aaZ0 abZ0=some r):OkH Tryz.prog 73 [.sl 1000000000 0 abZ0.length,.i aaZ0] [(1000000000,.arr 5 (abZ0.map (e_TLight .u)))] ((fun (r:Int×List TLight)=>.i r.1) r) ((fun (r:Int×List TLight)=>[(1000000000,.arr 5 (r.2.map (e_TLight .u)))]) r):=by
 refine okH_of_body (lr:=[1000000000]) hmix m73M1 rfl ?_
 unfold M_du at h
 simp only [ZC,A73M1,V73M1]
 obtain ⟨oZ20,hoZ20,h⟩:=bind_s h
 try refine ZF trivial ?_
 refine join_rule0 (blk_rule0 (loop_rule (w_bj) hoZ20 ?_)) ?_
 · exact ZK (ZA S_bj.eq_1 SX_bj.eq_1)
 · simp only [ZC,SX_bj,A73M1R2]
   cases h
   exact ZL trivial V73M1.eq_1
theorem w_dv (aaZ0:Int) (abZ0:List ByteArray) (acZ0:List TFiber) (adZ0:List TLight) {r:Int×List ByteArray×List TFiber×List TLight} (h:M_dv aaZ0 abZ0 acZ0 adZ0=some r):OkH Tryz.prog 29 [.agg [.sl 1000000000 0 abZ0.length,.sl 1000000001 0 acZ0.length,.sl 1000000002 0 adZ0.length],.i aaZ0] [(1000000000,.arr 1 (abZ0.map AV.z)),(1000000001,.arr 4 (acZ0.map (e_TFiber .u))),(1000000002,.arr 5 (adZ0.map (e_TLight .u)))] ((fun (r:Int×List ByteArray×List TFiber×List TLight)=>.i r.1) r) ((fun (r:Int×List ByteArray×List TFiber×List TLight)=>[(1000000000,.arr 1 (r.2.1.map AV.z)),(1000000001,.arr 4 (r.2.2.1.map (e_TFiber .u))),(1000000002,.arr 5 (r.2.2.2.map (e_TLight .u)))]) r):=by
 refine okH_of_body (lr:=[1000000000,1000000001,1000000002]) hmix m29M1 rfl ?_
 unfold M_dv at h
 simp only [ZC,A29M1,V29M1]
 obtain ⟨rZ1,hrZ1,h⟩:=bind_s h
 refine ZF trivial ?_
 refine ZW trivial (w_di _ _ _ hrZ1) (h2:=by first | exact nm_ok [1000000000,1000000001] rfl (by decide +kernel) | exact nm_ok2 [1000000000,1000000001] [] rfl (by decide +kernel) ZQ | exact ZQ) (hk:=?_)
 refine ZG ?_
 obtain ⟨rZ2,hrZ2,h⟩:=bind_s h
 refine ZF trivial ?_
 refine ⟨by simp [fz_mk,fz_bpo,fz_sc,fz_lsto,fz_agg,fz_tup,fz_fn,fz_sl,fz_pt,fz_top,fzL_nil,fzL_cons,ou_sc,ou_lstu,ou_lsto,ou_agg,ouL_nil,ouL_cons,rfz_var,rfz_arr,rfz_dead,fzL_mi,fzL_mb,fzL_mz,fzL_m8,fzL_m64,ouL_m8,ouL_m64,ouL_mi,ouL_mb,ouL_mz,VZ1],call_m (ok:=⟨_,_,_⟩) (by simp only [VS1,VS2,VS3,VS4,VS5,VS6,VT1,VT2,finM_ret,finM_nrm,decide_true,decide_false,List.nodup_nil,List.nodup_cons,oks_p,oks_m,oks_h,ne_eq,not_false_eq_true,Int.reduceEq,Int.reduceNe,true_and,false_and,Nat.reduceSub,Nat.reduceMul,↓reduceIte,reduceCtorEq,Nat.reduceEqDiff,Nat.reduceAdd,Nat.reduceLeDiff,Int.reduceLE]; first | exact w_du _ _ hrZ2 | (have hw:=w_du _ _ hrZ2; simp only [VS1,VS2,VS3,VS4,VS5,VS6,VT1,VT2,finM_ret,finM_nrm,decide_true,decide_false,List.nodup_nil,List.nodup_cons,oks_p,oks_m,oks_h,ne_eq,not_false_eq_true,Int.reduceEq,Int.reduceNe,true_and,false_and,Nat.reduceSub,Nat.reduceMul,↓reduceIte,reduceCtorEq,Nat.reduceEqDiff,Nat.reduceAdd,Nat.reduceLeDiff,Int.reduceLE] at hw; exact hw)) (by simp [VS1,VS2,VS3,VS4,VS5,VS6,VT1,VT2]) (by first | exact nm_ok [1000000000] rfl (by decide +kernel) | exact nm_ok2 [1000000000] [] rfl (by decide +kernel) (by simp [VS1,VS2,VS3,VS4,VS5,VS6,VT1,VT2]) | simp [VS1,VS2,VS3,VS4,VS5,VS6,VT1,VT2]) ?_⟩
 refine ZG ?_
 cases h
 exact ZL trivial V29M1.eq_1
def S_bk (aZ0:List ByteArray) (v:Int×Int):St:=⟨[(0,.lst .o 1 (aZ0.map AV.z)),(1,.i v.1),(5,.i v.2)],[]⟩
def SX_bk (v:Int):St:=⟨[(1,.i v)],[]⟩
theorem w_bk (aZ0:List ByteArray) (sZ1:Int×Int) (o:(Int×Int) ⊕ (Int ⊕ Int)) (h:M_bk aZ0 sZ1=some o):AWP (OkS Tryz.prog) A162L1 (qL [0,1,5] [] (S_bk aZ0) (qS (qX 0 [1] [] (SX_bk)) (qR V162 (fun r=>.i r))) o) (S_bk aZ0 sZ1):=by
 unfold M_bk at h
 simp only [ZC,S_bk,A162L1]
 obtain ⟨cZ2,h⟩ | ⟨cZ2,h⟩:=cond_s h
 · obtain ⟨yZ3,hyZ3,h⟩:=bind_s h
   obtain ⟨hyZ3a,hyZ3b⟩:=geti_s hyZ3
   obtain ⟨rZ4,hrZ4,h⟩:=bind_s h
   refine ZF (ZA cZ2 (ZA hyZ3a hyZ3b)) ?_
   refine ZS (ZA cZ2 (ZA hyZ3a hyZ3b)) (w_ck _ hrZ4) ?_
   refine ZG ?_
   obtain ⟨cZ5,h⟩ | ⟨cZ5,h⟩:=cond_s h
   · cases h
     exact ZL (ZA cZ2 (ZA hyZ3a (ZA hyZ3b cZ5))) V162.eq_1
   · cases h
     exact ZL (ZA cZ2 (ZA hyZ3a (ZA hyZ3b cZ5))) (ZA S_bk.eq_1 SX_bk.eq_1)
 · cases h
   exact ZL cZ2 (ZA S_bk.eq_1 SX_bk.eq_1)
theorem w_dw (aZ0:List ByteArray) (kZ0:Int) {r:Int} (h:M_dw aZ0 kZ0=some r):Ok Tryz.prog 162 [.lst .o 1 (aZ0.map AV.z),.i kZ0] ((fun r=>.i r) r):=by
 refine ok_of_body hmix m162 rfl ?_
 unfold M_dw at h
 simp only [ZC,A162,V162,body_eq]
 obtain ⟨oZ6,hoZ6,h⟩:=bind_s h
 try refine ZF trivial ?_
 refine join_rule (o:=oZ6) (blk_rule sideR (loop_rule (w_bk aZ0) hoZ6 ?_)) (fun vZ7 hv=>?_) (fun xZ8 hv e τ hne hq=>?_)
 · exact ZK (ZA S_bk.eq_1 SX_bk.eq_1)
 · subst hv
   simp only [] at h
   simp only [ZC,SX_bk,A162R2]
   cases h
   exact ZL trivial V162.eq_1
 · subst hv
   simp only [] at h
   obtain ⟨rfl,qZ9⟩:=hq
   cases h
   exact qZ9
def S_bl (aZ0:List TFiber) (v:Int×Int):St:=⟨[(0,.lst .o 4 (aZ0.map (e_TFiber .o))),(1,.i v.1),(5,.i v.2)],[]⟩
def SX_bl (v:Int):St:=⟨[(1,.i v)],[]⟩
theorem w_bl (aZ0:List TFiber) (sZ1:Int×Int) (o:(Int×Int) ⊕ (Int ⊕ Int)) (h:M_bl aZ0 sZ1=some o):AWP (OkS Tryz.prog) A163L1 (qL [0,1,5] [] (S_bl aZ0) (qS (qX 0 [1] [] (SX_bl)) (qR V163 (fun r=>.i r))) o) (S_bl aZ0 sZ1):=by
 unfold M_bl at h
 simp only [ZC,S_bl,A163L1]
 obtain ⟨cZ2,h⟩ | ⟨cZ2,h⟩:=cond_s h
 · obtain ⟨yZ3,hyZ3,h⟩:=bind_s h
   obtain ⟨hyZ3a,hyZ3b⟩:=geti_s hyZ3
   obtain ⟨cZ4,h⟩ | ⟨cZ4,h⟩:=cond_s h
   · cases h
     exact ZL (ZA cZ2 (ZA hyZ3a (ZA hyZ3b cZ4))) V163.eq_1
   · obtain ⟨cZ5,h⟩ | ⟨cZ5,h⟩:=cond_s h
     · cases h
       exact ZL (ZA cZ2 (ZA hyZ3a (ZA hyZ3b (ZA cZ4 cZ5)))) V163.eq_1
     · obtain ⟨cZ6,h⟩ | ⟨cZ6,h⟩:=cond_s h
       · cases h
         exact ZL (ZA cZ2 (ZA hyZ3a (ZA hyZ3b (ZA cZ4 (ZA cZ5 cZ6))))) V163.eq_1
       · obtain ⟨cZ7,h⟩ | ⟨cZ7,h⟩:=cond_s h
         · cases h
           exact ZL (ZA cZ2 (ZA hyZ3a (ZA hyZ3b (ZA cZ4 (ZA cZ5 (ZA cZ6 cZ7)))))) V163.eq_1
         · cases h
           exact ZL (ZA cZ2 (ZA hyZ3a (ZA hyZ3b (ZA cZ4 (ZA cZ5 (ZA cZ6 cZ7)))))) (ZA S_bl.eq_1 SX_bl.eq_1)
 · cases h
   exact ZL cZ2 (ZA S_bl.eq_1 SX_bl.eq_1)
theorem w_dx (aZ0:List TFiber) (kZ0:Int) {r:Int} (h:M_dx aZ0 kZ0=some r):Ok Tryz.prog 163 [.lst .o 4 (aZ0.map (e_TFiber .o)),.i kZ0] ((fun r=>.i r) r):=by
 refine ok_of_body hmix m163 rfl ?_
 unfold M_dx at h
 simp only [ZC,A163,V163,body_eq]
 obtain ⟨oZ8,hoZ8,h⟩:=bind_s h
 try refine ZF trivial ?_
 refine join_rule (o:=oZ8) (blk_rule sideR (loop_rule (w_bl aZ0) hoZ8 ?_)) (fun vZ9 hv=>?_) (fun xZ10 hv e τ hne hq=>?_)
 · exact ZK (ZA S_bl.eq_1 SX_bl.eq_1)
 · subst hv
   simp only [] at h
   simp only [ZC,SX_bl,A163R2]
   cases h
   exact ZL trivial V163.eq_1
 · subst hv
   simp only [] at h
   obtain ⟨rfl,qZ11⟩:=hq
   cases h
   exact qZ11
theorem w_dy (aZ0:TNetwork) (kZ0:Int) {r:Int} (h:M_dy aZ0 kZ0=some r):Ok Tryz.prog 104 [.agg [.lst .o 1 (aZ0.Nodes.map AV.z),.lst .o 4 (aZ0.Fibers.map (e_TFiber .o))],.i kZ0] ((fun r=>.i r) r):=by
 refine ok_of_body hmix m104 rfl ?_
 unfold M_dy at h
 simp only [ZC,A104,V104,body_eq]
 obtain ⟨rZ1,hrZ1,h⟩:=bind_s h
 refine ZF trivial ?_
 refine ZS trivial (w_dw _ _ hrZ1) ?_
 refine ZG ?_
 obtain ⟨cZ2,h⟩ | ⟨cZ2,h⟩:=cond_s h
 · cases h
   exact ZL cZ2 V104.eq_1
 · obtain ⟨rZ3,hrZ3,h⟩:=bind_s h
   refine ZF cZ2 ?_
   refine ZS cZ2 (w_dx _ _ hrZ3) ?_
   refine ZG ?_
   obtain ⟨cZ4,h⟩ | ⟨cZ4,h⟩:=cond_s h
   · cases h
     exact ZL (ZA cZ2 cZ4) V104.eq_1
   · cases h
     exact ZL (ZA cZ2 cZ4) V104.eq_1
def S_bm (aZ0:List Int) (v:Int×Int):St:=⟨[(0,.lst .o 1 (aZ0.map AV.i)),(1,.i v.1),(5,.i v.2)],[]⟩
def SX_bm (v:Int):St:=⟨[(1,.i v)],[]⟩
theorem w_bm (aZ0:List Int) (sZ1:Int×Int) (o:(Int×Int) ⊕ (Int ⊕ Int)) (h:M_bm aZ0 sZ1=some o):AWP (OkS Tryz.prog) A23L1 (qL [0,1,5] [] (S_bm aZ0) (qS (qX 0 [1] [] (SX_bm)) (qR V23 (fun r=>.i r))) o) (S_bm aZ0 sZ1):=by
 unfold M_bm at h
 simp only [ZC,S_bm,A23L1]
 obtain ⟨cZ2,h⟩ | ⟨cZ2,h⟩:=cond_s h
 · obtain ⟨yZ3,hyZ3,h⟩:=bind_s h
   obtain ⟨hyZ3a,hyZ3b⟩:=geti_s hyZ3
   obtain ⟨cZ4,h⟩ | ⟨cZ4,h⟩:=cond_s h
   · cases h
     exact ZL (ZA cZ2 (ZA hyZ3a (ZA hyZ3b cZ4))) V23.eq_1
   · cases h
     exact ZL (ZA cZ2 (ZA hyZ3a (ZA hyZ3b cZ4))) (ZA S_bm.eq_1 SX_bm.eq_1)
 · cases h
   exact ZL cZ2 (ZA S_bm.eq_1 SX_bm.eq_1)
theorem w_dz (aZ0:List Int) (kZ0:Int) {r:Int} (h:M_dz aZ0 kZ0=some r):Ok Tryz.prog 23 [.lst .o 1 (aZ0.map AV.i),.i kZ0] ((fun r=>.i r) r):=by
 refine ok_of_body hmix m23 rfl ?_
 unfold M_dz at h
 simp only [ZC,A23,V23,body_eq]
 obtain ⟨oZ5,hoZ5,h⟩:=bind_s h
 try refine ZF trivial ?_
 refine join_rule (o:=oZ5) (blk_rule sideR (loop_rule (w_bm aZ0) hoZ5 ?_)) (fun vZ6 hv=>?_) (fun xZ7 hv e τ hne hq=>?_)
 · exact ZK (ZA S_bm.eq_1 SX_bm.eq_1)
 · subst hv
   simp only [] at h
   simp only [ZC,SX_bm,A23R2]
   cases h
   exact ZL trivial V23.eq_1
 · subst hv
   simp only [] at h
   obtain ⟨rfl,qZ8⟩:=hq
   cases h
   exact qZ8
def S_bn (aZ0:List TLight) (v:Int×Int):St:=⟨[(0,.lst .o 5 (aZ0.map (e_TLight .o))),(1,.i v.1),(5,.i v.2)],[]⟩
def SX_bn (v:Int):St:=⟨[(1,.i v)],[]⟩
theorem w_bn (aZ0:List TLight) (sZ1:Int×Int) (o:(Int×Int) ⊕ (Int ⊕ Int)) (h:M_bn aZ0 sZ1=some o):AWP (OkS Tryz.prog) A78L1 (qL [0,1,5] [] (S_bn aZ0) (qS (qX 0 [1] [] (SX_bn)) (qR V78 (fun r=>.i r))) o) (S_bn aZ0 sZ1):=by
 unfold M_bn at h
 simp only [ZC,S_bn,A78L1]
 obtain ⟨cZ2,h⟩ | ⟨cZ2,h⟩:=cond_s h
 · obtain ⟨yZ3,hyZ3,h⟩:=bind_s h
   obtain ⟨hyZ3a,hyZ3b⟩:=geti_s hyZ3
   obtain ⟨cZ4,h⟩ | ⟨cZ4,h⟩:=cond_s h
   · cases h
     exact ZL (ZA cZ2 (ZA hyZ3a (ZA hyZ3b cZ4))) V78.eq_1
   · obtain ⟨cZ5,h⟩ | ⟨cZ5,h⟩:=cond_s h
     · cases h
       exact ZL (ZA cZ2 (ZA hyZ3a (ZA hyZ3b (ZA cZ4 cZ5)))) V78.eq_1
     · obtain ⟨rZ6,hrZ6,h⟩:=bind_s h
       refine ZF (ZA cZ2 (ZA hyZ3a (ZA hyZ3b (ZA cZ4 cZ5)))) ?_
       refine ZS (ZA cZ2 (ZA hyZ3a (ZA hyZ3b (ZA cZ4 cZ5)))) (w_dz _ _ hrZ6) ?_
       refine ZG ?_
       obtain ⟨cZ7,h⟩ | ⟨cZ7,h⟩:=cond_s h
       · cases h
         exact ZL (ZA cZ2 (ZA hyZ3a (ZA hyZ3b (ZA cZ4 (ZA cZ5 cZ7))))) V78.eq_1
       · obtain ⟨cZ8,h⟩ | ⟨cZ8,h⟩:=cond_s h
         · cases h
           exact ZL (ZA cZ2 (ZA hyZ3a (ZA hyZ3b (ZA cZ4 (ZA cZ5 (ZA cZ7 cZ8)))))) V78.eq_1
         · obtain ⟨cZ9,h⟩ | ⟨cZ9,h⟩:=cond_s h
           · cases h
             exact ZL (ZA cZ2 (ZA hyZ3a (ZA hyZ3b (ZA cZ4 (ZA cZ5 (ZA cZ7 (ZA cZ8 cZ9))))))) V78.eq_1
           · cases h
             exact ZL (ZA cZ2 (ZA hyZ3a (ZA hyZ3b (ZA cZ4 (ZA cZ5 (ZA cZ7 (ZA cZ8 cZ9))))))) (ZA S_bn.eq_1 SX_bn.eq_1)
 · cases h
   exact ZL cZ2 (ZA S_bn.eq_1 SX_bn.eq_1)
theorem w_ea (aZ0:List TLight) (kZ0:Int) {r:Int} (h:M_ea aZ0 kZ0=some r):Ok Tryz.prog 78 [.lst .o 5 (aZ0.map (e_TLight .o)),.i kZ0] ((fun r=>.i r) r):=by
 refine ok_of_body hmix m78 rfl ?_
 unfold M_ea at h
 simp only [ZC,A78,V78,body_eq]
 obtain ⟨oZ10,hoZ10,h⟩:=bind_s h
 try refine ZF trivial ?_
 refine join_rule (o:=oZ10) (blk_rule sideR (loop_rule (w_bn aZ0) hoZ10 ?_)) (fun vZ11 hv=>?_) (fun xZ12 hv e τ hne hq=>?_)
 · exact ZK (ZA S_bn.eq_1 SX_bn.eq_1)
 · subst hv
   simp only [] at h
   simp only [ZC,SX_bn,A78R2]
   cases h
   exact ZL trivial V78.eq_1
 · subst hv
   simp only [] at h
   obtain ⟨rfl,qZ13⟩:=hq
   cases h
   exact qZ13
theorem w_ce (aZ0:TPlan) (kZ0:Int) {r:Int} (h:M_ce aZ0 kZ0=some r):Ok Tryz.prog 44 [.agg [.lst .o 1 (aZ0.Network.Nodes.map AV.z),.lst .o 4 (aZ0.Network.Fibers.map (e_TFiber .o)),.lst .o 5 (aZ0.Lights.map (e_TLight .o))],.i kZ0] ((fun r=>.i r) r):=by
 refine ok_of_body hmix m44 rfl ?_
 unfold M_ce at h
 simp only [ZC,A44,V44,body_eq]
 obtain ⟨rZ1,hrZ1,h⟩:=bind_s h
 refine ZF trivial ?_
 refine ZS trivial (w_dy _ _ hrZ1) ?_
 refine ZG ?_
 obtain ⟨cZ2,h⟩ | ⟨cZ2,h⟩:=cond_s h
 · cases h
   exact ZL cZ2 V44.eq_1
 · obtain ⟨rZ3,hrZ3,h⟩:=bind_s h
   refine ZF cZ2 ?_
   refine ZS cZ2 (w_ea _ _ hrZ3) ?_
   refine ZG ?_
   obtain ⟨cZ4,h⟩ | ⟨cZ4,h⟩:=cond_s h
   · cases h
     exact ZL (ZA cZ2 cZ4) V44.eq_1
   · cases h
     exact ZL (ZA cZ2 cZ4) V44.eq_1
theorem w_fz (aNZ0:TNetwork) (aListZ0:List TService) {r:Bool} (h:M_fz aNZ0 aListZ0=some r):Ok Tryz.prog 7 [.agg [.lst .o 1 (aNZ0.Nodes.map AV.z),.lst .o 4 (aNZ0.Fibers.map (e_TFiber .o))],.lst .o 10 (aListZ0.map (e_TService .o))] ((fun r=>.b r) r):=by
 refine ok_of_body hmix m7 rfl ?_
 unfold M_fz at h
 simp only [ZC,A7,V7,body_eq]
 obtain ⟨rZ1,hrZ1,h⟩:=bind_s h
 refine ZF trivial ?_
 refine ZS trivial (w_en _ _ hrZ1) ?_
 refine ZG ?_
 obtain ⟨cZ2,h⟩ | ⟨cZ2,h⟩:=cond_s h
 · cases h
   exact ZL cZ2 V7.eq_1
 · obtain ⟨rZ3,hrZ3,h⟩:=bind_s h
   refine ZF cZ2 ?_
   refine ZS cZ2 (w_eq _ _ hrZ3) ?_
   refine ZG ?_
   obtain ⟨cZ4,h⟩ | ⟨cZ4,h⟩:=cond_s h
   · cases h
     exact ZL (ZA cZ2 cZ4) V7.eq_1
   · obtain ⟨rZ5,hrZ5,h⟩:=bind_s h
     refine ZF (ZA cZ2 cZ4) ?_
     refine ZU (ZA cZ2 cZ4) (w_bu _ hrZ5) ?_
     refine ZG ?_
     obtain ⟨rZ6,hrZ6,h⟩:=bind_s h
     refine ZF (ZA cZ2 cZ4) ?_
     refine ZU (ZA cZ2 cZ4) (w_bv _ hrZ6) ?_
     refine ZG ?_
     obtain ⟨rZ7,hrZ7,h⟩:=bind_s h
     refine ZF (ZA cZ2 cZ4) ?_
     refine ZW (ZA cZ2 cZ4) (w_fb _ _ _ hrZ7) (h2:=by first | exact nm_ok [500000256,500000257,500000258,1000000000,1000000001,1000000002] rfl (by decide +kernel) | exact nm_ok2 [500000256,500000257,500000258,1000000000,1000000001,1000000002] [503300256,503300257,503300258] rfl (by decide +kernel) ZQ | exact ZQ) (hk:=?_)
     refine ZG ?_
     obtain ⟨rZ8,hrZ8,h⟩:=bind_s h
     refine ZF (ZA cZ2 cZ4) ?_
     refine ZU (ZA cZ2 cZ4) (w_bu _ hrZ8) ?_
     refine ZG ?_
     obtain ⟨rZ9,hrZ9,h⟩:=bind_s h
     refine ZF (ZA cZ2 cZ4) ?_
     refine ZU (ZA cZ2 cZ4) (w_bv _ hrZ9) ?_
     refine ZG ?_
     obtain ⟨rZ10,hrZ10,h⟩:=bind_s h
     refine ZF (ZA cZ2 cZ4) ?_
     refine ZU (ZA cZ2 cZ4) (w_dg _ _ hrZ10) ?_
     refine ZG ?_
     obtain ⟨oZ13,hoZ13,h⟩:=bind_s h
     try refine ZF (ZA cZ2 cZ4) ?_
     refine join_rule0 (sh:=(fun v=>⟨[(1,.lst .o 10 (aListZ0.map (e_TService .o))),(2,.bp .o (.agg [.lst .o 1 (aNZ0.Nodes.map AV.z),.lst .o 4 (aNZ0.Fibers.map (e_TFiber .o))]) 0),(6,.bp .o (.agg [.lst .o 1 (rZ7.2.1.map AV.z),.lst .o 4 (rZ7.2.2.1.map (e_TFiber .o)),.lst .o 5 (rZ7.2.2.2.1.map (e_TLight .o))]) 0),(7,.b rZ7.1),(8,.pt 8 0 0),(9,.sl 9 0 rZ9.length),(10,.pt 10 0 0),(11,.b rZ10.2),(53,.b v)],[(8,.var (.agg [.sl 36 0 rZ8.Nodes.length,.sl 1036 0 rZ8.Fibers.length])),(9,.arr 10 (rZ9.map (e_TService .u))),(10,.var (.agg [.sl 42 0 rZ10.1.Network.Nodes.length,.sl 1042 0 rZ10.1.Network.Fibers.length,.sl 2042 0 rZ10.1.Lights.length])),(36,.arr 1 (rZ8.Nodes.map AV.z)),(42,.arr 1 (rZ10.1.Network.Nodes.map AV.z)),(1036,.arr 4 (rZ8.Fibers.map (e_TFiber .u))),(1042,.arr 4 (rZ10.1.Network.Fibers.map (e_TFiber .u))),(2042,.arr 5 (rZ10.1.Lights.map (e_TLight .u)))]⟩)) (s:=oZ13) ?_ ?_
     · replace h:=hoZ13
       obtain ⟨rZ11,hrZ11,h⟩:=bind_s h
       refine ZF (ZA cZ2 cZ4) ?_
       refine ZS (ZA cZ2 cZ4) (w_cj _ _ hrZ11) ?_
       refine ZG ?_
       obtain ⟨cZ12,h⟩ | ⟨cZ12,h⟩:=cond_s h
       · cases h
         exact ZL (ZA cZ2 (ZA cZ4 cZ12)) trivial
       · cases h
         exact ZL (ZA cZ2 (ZA cZ4 cZ12)) trivial
     · simp only [ZC,A7R1]
       obtain ⟨cZ14,h⟩ | ⟨cZ14,h⟩:=cond_s h
       · cases h
         exact ZL (ZA cZ2 (ZA cZ4 cZ14)) V7.eq_1
       · obtain ⟨rZ15,hrZ15,h⟩:=bind_s h
         refine ZF (ZA cZ2 (ZA cZ4 cZ14)) ?_
         refine ZU (ZA cZ2 (ZA cZ4 cZ14)) (w_bu _ hrZ15) ?_
         refine ZG ?_
         obtain ⟨rZ16,hrZ16,h⟩:=bind_s h
         refine ZF (ZA cZ2 (ZA cZ4 cZ14)) ?_
         refine ZS (ZA cZ2 (ZA cZ4 cZ14)) (w_dh _ _ hrZ16) ?_
         refine ZG ?_
         obtain ⟨cZ17,h⟩ | ⟨cZ17,h⟩:=cond_s h
         · cases h
           exact ZL (ZA cZ2 (ZA cZ4 (ZA cZ14 cZ17))) V7.eq_1
         · obtain ⟨rZ18,hrZ18,h⟩:=bind_s h
           refine ZF (ZA cZ2 (ZA cZ4 (ZA cZ14 cZ17))) ?_
           refine ZU (ZA cZ2 (ZA cZ4 (ZA cZ14 cZ17))) (w_bv _ hrZ18) ?_
           refine ZG ?_
           obtain ⟨rZ19,hrZ19,h⟩:=bind_s h
           refine ZF (ZA cZ2 (ZA cZ4 (ZA cZ14 cZ17))) ?_
           refine ZS (ZA cZ2 (ZA cZ4 (ZA cZ14 cZ17))) (w_fq _ _ hrZ19) ?_
           refine ZG ?_
           obtain ⟨cZ20,h⟩ | ⟨cZ20,h⟩:=cond_s h
           · cases h
             exact ZL (ZA cZ2 (ZA cZ4 (ZA cZ14 (ZA cZ17 cZ20)))) V7.eq_1
           · obtain ⟨rZ21,hrZ21,h⟩:=bind_s h
             refine ZF (ZA cZ2 (ZA cZ4 (ZA cZ14 (ZA cZ17 cZ20)))) ?_
             refine ZW (ZA cZ2 (ZA cZ4 (ZA cZ14 (ZA cZ17 cZ20)))) (w_di _ _ _ hrZ21) (h2:=by first | exact nm_ok [1000000000,1000000001] rfl (by decide +kernel) | exact nm_ok2 [1000000000,1000000001] [] rfl (by decide +kernel) ZQ | exact ZQ) (hk:=?_)
             refine ZG ?_
             obtain ⟨rZ22,hrZ22,h⟩:=bind_s h
             refine ZF (ZA cZ2 (ZA cZ4 (ZA cZ14 (ZA cZ17 cZ20)))) ?_
             refine ⟨by simp [fz_mk,fz_bpo,fz_sc,fz_lsto,fz_agg,fz_tup,fz_fn,fz_sl,fz_pt,fz_top,fzL_nil,fzL_cons,ou_sc,ou_lstu,ou_lsto,ou_agg,ouL_nil,ouL_cons,rfz_var,rfz_arr,rfz_dead,fzL_mi,fzL_mb,fzL_mz,fzL_m8,fzL_m64,ouL_m8,ouL_m64,ouL_mi,ouL_mb,ouL_mz,VZ1],call_m (ok:=⟨_,_,_⟩) (by simp only [VS1,VS2,VS3,VS4,VS5,VS6,VT1,VT2,finM_ret,finM_nrm,decide_true,decide_false,List.nodup_nil,List.nodup_cons,oks_p,oks_m,oks_h,ne_eq,not_false_eq_true,Int.reduceEq,Int.reduceNe,true_and,false_and,Nat.reduceSub,Nat.reduceMul,↓reduceIte,reduceCtorEq,Nat.reduceEqDiff,Nat.reduceAdd,Nat.reduceLeDiff,Int.reduceLE,cZ2,cZ4,cZ14,cZ17,cZ20]; first | exact w_dt _ _ hrZ22 | (have hw:=w_dt _ _ hrZ22; simp only [VS1,VS2,VS3,VS4,VS5,VS6,VT1,VT2,finM_ret,finM_nrm,decide_true,decide_false,List.nodup_nil,List.nodup_cons,oks_p,oks_m,oks_h,ne_eq,not_false_eq_true,Int.reduceEq,Int.reduceNe,true_and,false_and,Nat.reduceSub,Nat.reduceMul,↓reduceIte,reduceCtorEq,Nat.reduceEqDiff,Nat.reduceAdd,Nat.reduceLeDiff,Int.reduceLE,cZ2,cZ4,cZ14,cZ17,cZ20] at hw; exact hw)) (by simp [VS1,VS2,VS3,VS4,VS5,VS6,VT1,VT2]) (by first | exact nm_ok [1000000000] rfl (by decide +kernel) | exact nm_ok2 [1000000000] [] rfl (by decide +kernel) (by simp [VS1,VS2,VS3,VS4,VS5,VS6,VT1,VT2]) | simp [VS1,VS2,VS3,VS4,VS5,VS6,VT1,VT2]) ?_⟩
             refine ZG ?_
             obtain ⟨oZ26,hoZ26,h⟩:=bind_s h
             try refine ZF (ZA cZ2 (ZA cZ4 (ZA cZ14 (ZA cZ17 cZ20)))) ?_
             refine join_rule0 (sh:=(fun v=>⟨[(1,.lst .o 10 (aListZ0.map (e_TService .o))),(2,.bp .o (.agg [.lst .o 1 (aNZ0.Nodes.map AV.z),.lst .o 4 (aNZ0.Fibers.map (e_TFiber .o))]) 0),(6,.bp .o (.agg [.lst .o 1 (rZ7.2.1.map AV.z),.lst .o 4 (rZ7.2.2.1.map (e_TFiber .o)),.lst .o 5 (rZ7.2.2.2.1.map (e_TLight .o))]) 0),(7,.b rZ7.1),(10,.pt 10 0 0),(82,.b v)],[(10,.var (.agg [.sl 42 0 rZ10.1.Network.Nodes.length,.sl 1042 0 rZ10.1.Network.Fibers.length,.sl 2042 0 rZ10.1.Lights.length])),(42,.arr 1 (rZ10.1.Network.Nodes.map AV.z)),(1042,.arr 4 (rZ10.1.Network.Fibers.map (e_TFiber .u))),(2042,.arr 5 (rZ10.1.Lights.map (e_TLight .u)))]⟩)) (s:=oZ26) ?_ ?_
             · replace h:=hoZ26
               obtain ⟨cZ23,h⟩ | ⟨cZ23,h⟩:=cond_s h
               · cases h
                 exact ZL (ZA cZ2 (ZA cZ4 (ZA cZ14 (ZA cZ17 (ZA cZ20 cZ23))))) trivial
               · obtain ⟨rZ24,hrZ24,h⟩:=bind_s h
                 refine ZF (ZA cZ2 (ZA cZ4 (ZA cZ14 (ZA cZ17 (ZA cZ20 cZ23))))) ?_
                 refine ZS (ZA cZ2 (ZA cZ4 (ZA cZ14 (ZA cZ17 (ZA cZ20 cZ23))))) (w_cj _ _ hrZ24) ?_
                 refine ZG ?_
                 obtain ⟨cZ25,h⟩ | ⟨cZ25,h⟩:=cond_s h
                 · cases h
                   exact ZL (ZA cZ2 (ZA cZ4 (ZA cZ14 (ZA cZ17 (ZA cZ20 (ZA cZ23 cZ25)))))) trivial
                 · cases h
                   exact ZL (ZA cZ2 (ZA cZ4 (ZA cZ14 (ZA cZ17 (ZA cZ20 (ZA cZ23 cZ25)))))) trivial
             · simp only [ZC,A7R2]
               obtain ⟨cZ27,h⟩ | ⟨cZ27,h⟩:=cond_s h
               · cases h
                 exact ZL (ZA cZ2 (ZA cZ4 (ZA cZ14 (ZA cZ17 (ZA cZ20 cZ27))))) V7.eq_1
               · obtain ⟨rZ28,hrZ28,h⟩:=bind_s h
                 refine ZF (ZA cZ2 (ZA cZ4 (ZA cZ14 (ZA cZ17 (ZA cZ20 cZ27))))) ?_
                 refine ⟨by simp [fz_mk,fz_bpo,fz_sc,fz_lsto,fz_agg,fz_tup,fz_fn,fz_sl,fz_pt,fz_top,fzL_nil,fzL_cons,ou_sc,ou_lstu,ou_lsto,ou_agg,ouL_nil,ouL_cons,rfz_var,rfz_arr,rfz_dead,fzL_mi,fzL_mb,fzL_mz,fzL_m8,fzL_m64,ouL_m8,ouL_m64,ouL_mi,ouL_mb,ouL_mz,VZ1],call_m (ok:=⟨_,_,_⟩) (by simp only [VS1,VS2,VS3,VS4,VS5,VS6,VT1,VT2,finM_ret,finM_nrm,decide_true,decide_false,List.nodup_nil,List.nodup_cons,oks_p,oks_m,oks_h,ne_eq,not_false_eq_true,Int.reduceEq,Int.reduceNe,true_and,false_and,Nat.reduceSub,Nat.reduceMul,↓reduceIte,reduceCtorEq,Nat.reduceEqDiff,Nat.reduceAdd,Nat.reduceLeDiff,Int.reduceLE,cZ2,cZ4,cZ14,cZ17,cZ20,cZ27]; first | exact w_dv _ _ _ _ hrZ28 | (have hw:=w_dv _ _ _ _ hrZ28; simp only [VS1,VS2,VS3,VS4,VS5,VS6,VT1,VT2,finM_ret,finM_nrm,decide_true,decide_false,List.nodup_nil,List.nodup_cons,oks_p,oks_m,oks_h,ne_eq,not_false_eq_true,Int.reduceEq,Int.reduceNe,true_and,false_and,Nat.reduceSub,Nat.reduceMul,↓reduceIte,reduceCtorEq,Nat.reduceEqDiff,Nat.reduceAdd,Nat.reduceLeDiff,Int.reduceLE,cZ2,cZ4,cZ14,cZ17,cZ20,cZ27] at hw; exact hw)) (by simp [VS1,VS2,VS3,VS4,VS5,VS6,VT1,VT2]) (by first | exact nm_ok [1000000000,1000000001,1000000002] rfl (by decide +kernel) | exact nm_ok2 [1000000000,1000000001,1000000002] [] rfl (by decide +kernel) (by simp [VS1,VS2,VS3,VS4,VS5,VS6,VT1,VT2]) | simp [VS1,VS2,VS3,VS4,VS5,VS6,VT1,VT2]) ?_⟩
                 refine ZG ?_
                 obtain ⟨lZ29,hlZ29,h⟩:=bnd_s h
                 have eZ30:sub (rZ28.2.1.map AV.z) 0 rZ10.1.Network.Nodes.length=lZ29.map AV.z:=by rw [sub_mapT,hlZ29]
                 obtain ⟨lZ31,hlZ31,h⟩:=bnd_s h
                 have eZ32:sub (rZ28.2.2.1.map (e_TFiber .u)) 0 rZ10.1.Network.Fibers.length=lZ31.map (e_TFiber .u):=by rw [sub_mapT,hlZ31]
                 obtain ⟨lZ33,hlZ33,h⟩:=bnd_s h
                 have eZ34:sub (rZ28.2.2.2.map (e_TLight .u)) 0 rZ10.1.Lights.length=lZ33.map (e_TLight .u):=by rw [sub_mapT,hlZ33]
                 obtain ⟨rZ35,hrZ35,h⟩:=bind_s h
                 refine ZF (ZA cZ2 (ZA cZ4 (ZA cZ14 (ZA cZ17 (ZA cZ20 (ZA cZ27 (ZA eZ30 (ZA eZ32 eZ34)))))))) ?_
                 refine ZS (ZA cZ2 (ZA cZ4 (ZA cZ14 (ZA cZ17 (ZA cZ20 (ZA cZ27 (ZA eZ30 (ZA eZ32 eZ34)))))))) (w_ce _ _ hrZ35) ?_
                 refine ZG ?_
                 obtain ⟨cZ36,h⟩ | ⟨cZ36,h⟩:=cond_s h
                 · cases h
                   exact ZL (ZA cZ2 (ZA cZ4 (ZA cZ14 (ZA cZ17 (ZA cZ20 (ZA cZ27 (ZA eZ30 (ZA eZ32 (ZA eZ34 cZ36))))))))) V7.eq_1
                 · obtain ⟨cZ37,h⟩ | ⟨cZ37,h⟩:=cond_s h
                   · cases h
                     exact ZL (ZA cZ2 (ZA cZ4 (ZA cZ14 (ZA cZ17 (ZA cZ20 (ZA cZ27 (ZA eZ30 (ZA eZ32 (ZA eZ34 (ZA cZ36 cZ37)))))))))) V7.eq_1
                   · obtain ⟨rZ38,hrZ38,h⟩:=bind_s h
                     refine ZF (ZA cZ2 (ZA cZ4 (ZA cZ14 (ZA cZ17 (ZA cZ20 (ZA cZ27 (ZA eZ30 (ZA eZ32 (ZA eZ34 (ZA cZ36 cZ37)))))))))) ?_
                     refine ZU (ZA cZ2 (ZA cZ4 (ZA cZ14 (ZA cZ17 (ZA cZ20 (ZA cZ27 (ZA eZ30 (ZA eZ32 (ZA eZ34 (ZA cZ36 cZ37)))))))))) (w_bu _ hrZ38) ?_
                     refine ZG ?_
                     obtain ⟨rZ39,hrZ39,h⟩:=bind_s h
                     refine ZF (ZA cZ2 (ZA cZ4 (ZA cZ14 (ZA cZ17 (ZA cZ20 (ZA cZ27 (ZA eZ30 (ZA eZ32 (ZA eZ34 (ZA cZ36 cZ37)))))))))) ?_
                     refine ZU (ZA cZ2 (ZA cZ4 (ZA cZ14 (ZA cZ17 (ZA cZ20 (ZA cZ27 (ZA eZ30 (ZA eZ32 (ZA eZ34 (ZA cZ36 cZ37)))))))))) (w_bv _ hrZ39) ?_
                     refine ZG ?_
                     obtain ⟨rZ40,hrZ40,h⟩:=bind_s h
                     refine ZF (ZA cZ2 (ZA cZ4 (ZA cZ14 (ZA cZ17 (ZA cZ20 (ZA cZ27 (ZA eZ30 (ZA eZ32 (ZA eZ34 (ZA cZ36 cZ37)))))))))) ?_
                     refine ZU (ZA cZ2 (ZA cZ4 (ZA cZ14 (ZA cZ17 (ZA cZ20 (ZA cZ27 (ZA eZ30 (ZA eZ32 (ZA eZ34 (ZA cZ36 cZ37)))))))))) (w_dg _ _ hrZ40) ?_
                     refine ZG ?_
                     obtain ⟨oZ43,hoZ43,h⟩:=bind_s h
                     try refine ZF (ZA cZ2 (ZA cZ4 (ZA cZ14 (ZA cZ17 (ZA cZ20 (ZA cZ27 (ZA eZ30 (ZA eZ32 (ZA eZ34 (ZA cZ36 cZ37)))))))))) ?_
                     refine join_rule0 (sh:=(fun v=>⟨[(10,.pt 10 0 0),(13,.i rZ28.1),(110,.b v)],[(10,.var (.agg [.sl 42 0 rZ10.1.Network.Nodes.length,.sl 1042 0 rZ10.1.Network.Fibers.length,.sl 2042 0 rZ10.1.Lights.length])),(42,.arr 1 (rZ28.2.1.map AV.z)),(1042,.arr 4 (rZ28.2.2.1.map (e_TFiber .u))),(2042,.arr 5 (rZ28.2.2.2.map (e_TLight .u)))]⟩)) (s:=oZ43) ?_ ?_
                     · replace h:=hoZ43
                       obtain ⟨rZ41,hrZ41,h⟩:=bind_s h
                       refine ZF (ZA cZ2 (ZA cZ4 (ZA cZ14 (ZA cZ17 (ZA cZ20 (ZA cZ27 (ZA eZ30 (ZA eZ32 (ZA eZ34 (ZA cZ36 cZ37)))))))))) ?_
                       refine ZS (ZA cZ2 (ZA cZ4 (ZA cZ14 (ZA cZ17 (ZA cZ20 (ZA cZ27 (ZA eZ30 (ZA eZ32 (ZA eZ34 (ZA cZ36 cZ37)))))))))) (w_cj _ _ hrZ41) ?_
                       refine ZG ?_
                       obtain ⟨cZ42,h⟩ | ⟨cZ42,h⟩:=cond_s h
                       · cases h
                         exact ZL (ZA cZ2 (ZA cZ4 (ZA cZ14 (ZA cZ17 (ZA cZ20 (ZA cZ27 (ZA eZ30 (ZA eZ32 (ZA eZ34 (ZA cZ36 (ZA cZ37 cZ42))))))))))) trivial
                       · cases h
                         exact ZL (ZA cZ2 (ZA cZ4 (ZA cZ14 (ZA cZ17 (ZA cZ20 (ZA cZ27 (ZA eZ30 (ZA eZ32 (ZA eZ34 (ZA cZ36 (ZA cZ37 cZ42))))))))))) trivial
                     · simp only [ZC,A7R3]
                       obtain ⟨cZ44,h⟩ | ⟨cZ44,h⟩:=cond_s h
                       · cases h
                         exact ZL (ZA cZ2 (ZA cZ4 (ZA cZ14 (ZA cZ17 (ZA cZ20 (ZA cZ27 (ZA eZ30 (ZA eZ32 (ZA eZ34 (ZA cZ36 (ZA cZ37 cZ44))))))))))) V7.eq_1
                       · obtain ⟨rZ45,hrZ45,h⟩:=bind_s h
                         refine ZF (ZA cZ2 (ZA cZ4 (ZA cZ14 (ZA cZ17 (ZA cZ20 (ZA cZ27 (ZA eZ30 (ZA eZ32 (ZA eZ34 (ZA cZ36 (ZA cZ37 cZ44))))))))))) ?_
                         refine ZS (ZA cZ2 (ZA cZ4 (ZA cZ14 (ZA cZ17 (ZA cZ20 (ZA cZ27 (ZA eZ30 (ZA eZ32 (ZA eZ34 (ZA cZ36 (ZA cZ37 cZ44))))))))))) (w_ce _ _ hrZ45) ?_
                         refine ZG ?_
                         obtain ⟨cZ46,h⟩ | ⟨cZ46,h⟩:=cond_s h
                         · cases h
                           exact ZL (ZA cZ2 (ZA cZ4 (ZA cZ14 (ZA cZ17 (ZA cZ20 (ZA cZ27 (ZA eZ30 (ZA eZ32 (ZA eZ34 (ZA cZ36 (ZA cZ37 (ZA cZ44 cZ46)))))))))))) V7.eq_1
                         · obtain ⟨cZ47,h⟩ | ⟨cZ47,h⟩:=cond_s h
                           · cases h
                             exact ZL (ZA cZ2 (ZA cZ4 (ZA cZ14 (ZA cZ17 (ZA cZ20 (ZA cZ27 (ZA eZ30 (ZA eZ32 (ZA eZ34 (ZA cZ36 (ZA cZ37 (ZA cZ44 (ZA cZ46 cZ47))))))))))))) V7.eq_1
                           · cases h
                             exact ZL (ZA cZ2 (ZA cZ4 (ZA cZ14 (ZA cZ17 (ZA cZ20 (ZA cZ27 (ZA eZ30 (ZA eZ32 (ZA eZ34 (ZA cZ36 (ZA cZ37 (ZA cZ44 (ZA cZ46 cZ47))))))))))))) V7.eq_1
end Vs

