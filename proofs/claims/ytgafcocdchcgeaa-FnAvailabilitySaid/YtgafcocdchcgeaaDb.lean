/-
  Part of the proof that the law FnAvailability returns true at every input; no condition beside the row's own.
-/
import Derived.Test.YtgafcocdchcgeaaDa
set_option linter.defProp false
set_option linter.unusedSimpArgs false
set_option linter.unusedVariables false
set_option maxHeartbeats 1000000
set_option maxRecDepth 8000
namespace Vs
open Go Go.Proofs
attribute [local irreducible] AWP stOps eff awpC callA callM
theorem VT1:(∀ (f:Fl) (x:TFiber),e_TFiber f x=.agg [.i x.A,.i x.B,.i x.Length,.i x.Risk]) ∧
 (∀ (f:Fl) (x:TNetwork),e_TNetwork f x=.agg [.lst f 1 (x.Nodes.map AV.z),.lst f 4 (x.Fibers.map (e_TFiber f))]) ∧
 (∀ (f:Fl) (x:TOutage),e_TOutage f x=.agg [.i x.Unit,.lst f 1 (x.Down.map AV.i)]) ∧
 (∀ (f:Fl) (x:TRoute),e_TRoute f x=.agg [.i x.Start,.lst f 1 (x.Fibers.map AV.i)]) ∧
 (∀ (f:Fl) (x:Tl1Cur),e_Tl1Cur f x=.agg [.lst f 1 (x.code.map AV.u8),.i x.atF,.sc (.int .u64 x.seed)]) ∧
 (∀ (f:Fl) (x:List Int),e_Li f x=.lst f 1 (x.map AV.i)):=⟨fun _ _=>rfl,fun _ _=>rfl,fun _ _=>rfl,fun _ _=>rfl,fun _ _=>rfl,fun _ _=>rfl⟩
theorem VT2:(∀ (f:Fl) (x:TFiber),(e_TFiber f x).nrm=e_TFiber .o x) ∧
 (∀ (f:Fl) (xs:List TFiber),(xs.map (e_TFiber f)).map AV.nrm=xs.map (e_TFiber .o)) ∧
 (∀ (f:Fl) (x:TFiber),(e_TFiber f x).als=e_TFiber f.als x) ∧
 (∀ (f:Fl) (xs:List TFiber),(xs.map (e_TFiber f)).map AV.als=xs.map (e_TFiber f.als)) ∧
 (∀ (f:Fl),AV.als ∘ e_TFiber f=e_TFiber f.als) ∧
 (∀ (f:Fl) (x:TFiber),(e_TFiber f x).fix=e_TFiber f.fix x) ∧
 (∀ (f:Fl) (xs:List TFiber),(xs.map (e_TFiber f)).map AV.fix=xs.map (e_TFiber f.fix)) ∧
 (∀ (f:Fl) (x:TNetwork),(e_TNetwork f x).nrm=e_TNetwork .o x) ∧
 (∀ (f:Fl) (xs:List TNetwork),(xs.map (e_TNetwork f)).map AV.nrm=xs.map (e_TNetwork .o)) ∧
 (∀ (f:Fl) (x:TNetwork),(e_TNetwork f x).als=e_TNetwork f.als x) ∧
 (∀ (f:Fl) (xs:List TNetwork),(xs.map (e_TNetwork f)).map AV.als=xs.map (e_TNetwork f.als)) ∧
 (∀ (f:Fl),AV.als ∘ e_TNetwork f=e_TNetwork f.als) ∧
 (∀ (f:Fl) (x:TNetwork),(e_TNetwork f x).fix=e_TNetwork f.fix x) ∧
 (∀ (f:Fl) (xs:List TNetwork),(xs.map (e_TNetwork f)).map AV.fix=xs.map (e_TNetwork f.fix)) ∧
 (∀ (f:Fl) (x:TOutage),(e_TOutage f x).nrm=e_TOutage .o x) ∧
 (∀ (f:Fl) (xs:List TOutage),(xs.map (e_TOutage f)).map AV.nrm=xs.map (e_TOutage .o)) ∧
 (∀ (f:Fl) (x:TOutage),(e_TOutage f x).als=e_TOutage f.als x) ∧
 (∀ (f:Fl) (xs:List TOutage),(xs.map (e_TOutage f)).map AV.als=xs.map (e_TOutage f.als)) ∧
 (∀ (f:Fl),AV.als ∘ e_TOutage f=e_TOutage f.als) ∧
 (∀ (f:Fl) (x:TOutage),(e_TOutage f x).fix=e_TOutage f.fix x) ∧
 (∀ (f:Fl) (xs:List TOutage),(xs.map (e_TOutage f)).map AV.fix=xs.map (e_TOutage f.fix)) ∧
 (∀ (f:Fl) (x:TRoute),(e_TRoute f x).nrm=e_TRoute .o x) ∧
 (∀ (f:Fl) (xs:List TRoute),(xs.map (e_TRoute f)).map AV.nrm=xs.map (e_TRoute .o)) ∧
 (∀ (f:Fl) (x:TRoute),(e_TRoute f x).als=e_TRoute f.als x) ∧
 (∀ (f:Fl) (xs:List TRoute),(xs.map (e_TRoute f)).map AV.als=xs.map (e_TRoute f.als)) ∧
 (∀ (f:Fl),AV.als ∘ e_TRoute f=e_TRoute f.als) ∧
 (∀ (f:Fl) (x:TRoute),(e_TRoute f x).fix=e_TRoute f.fix x) ∧
 (∀ (f:Fl) (xs:List TRoute),(xs.map (e_TRoute f)).map AV.fix=xs.map (e_TRoute f.fix)) ∧
 (∀ (f:Fl) (x:Tl1Cur),(e_Tl1Cur f x).nrm=e_Tl1Cur .o x) ∧
 (∀ (f:Fl) (xs:List Tl1Cur),(xs.map (e_Tl1Cur f)).map AV.nrm=xs.map (e_Tl1Cur .o)) ∧
 (∀ (f:Fl) (x:Tl1Cur),(e_Tl1Cur f x).als=e_Tl1Cur f.als x) ∧
 (∀ (f:Fl) (xs:List Tl1Cur),(xs.map (e_Tl1Cur f)).map AV.als=xs.map (e_Tl1Cur f.als)) ∧
 (∀ (f:Fl),AV.als ∘ e_Tl1Cur f=e_Tl1Cur f.als) ∧
 (∀ (f:Fl) (x:Tl1Cur),(e_Tl1Cur f x).fix=e_Tl1Cur f.fix x) ∧
 (∀ (f:Fl) (xs:List Tl1Cur),(xs.map (e_Tl1Cur f)).map AV.fix=xs.map (e_Tl1Cur f.fix)) ∧
 (∀ (f:Fl) (x:List Int),(e_Li f x).nrm=e_Li .o x) ∧
 (∀ (f:Fl) (xs:List (List Int)),(xs.map (e_Li f)).map AV.nrm=xs.map (e_Li .o)) ∧
 (∀ (f:Fl) (x:List Int),(e_Li f x).als=e_Li f.als x) ∧
 (∀ (f:Fl) (xs:List (List Int)),(xs.map (e_Li f)).map AV.als=xs.map (e_Li f.als)) ∧
 (∀ (f:Fl),AV.als ∘ e_Li f=e_Li f.als) ∧
 (∀ (f:Fl) (x:List Int),(e_Li f x).fix=e_Li f.fix x) ∧
 (∀ (f:Fl) (xs:List (List Int)),(xs.map (e_Li f)).map AV.fix=xs.map (e_Li f.fix)) :=
 ⟨@e_TFiber_nrm,@e_TFiber_nrmm,@e_TFiber_als,@e_TFiber_alsm,@e_TFiber_alsc,@e_TFiber_fix,@e_TFiber_fixm,@e_TNetwork_nrm,@e_TNetwork_nrmm,@e_TNetwork_als,@e_TNetwork_alsm,@e_TNetwork_alsc,@e_TNetwork_fix,@e_TNetwork_fixm,@e_TOutage_nrm,@e_TOutage_nrmm,@e_TOutage_als,@e_TOutage_alsm,@e_TOutage_alsc,@e_TOutage_fix,@e_TOutage_fixm,@e_TRoute_nrm,@e_TRoute_nrmm,@e_TRoute_als,@e_TRoute_alsm,@e_TRoute_alsc,@e_TRoute_fix,@e_TRoute_fixm,@e_Tl1Cur_nrm,@e_Tl1Cur_nrmm,@e_Tl1Cur_als,@e_Tl1Cur_alsm,@e_Tl1Cur_alsc,@e_Tl1Cur_fix,@e_Tl1Cur_fixm,@e_Li_nrm,@e_Li_nrmm,@e_Li_als,@e_Li_alsm,@e_Li_alsc,@e_Li_fix,@e_Li_fixm⟩
theorem VF1:(∀ (f:Fl) (x:TFiber),(e_TFiber f x).fix=e_TFiber f.fix x) ∧
 (∀ (f:Fl) (xs:List TFiber),(xs.map (e_TFiber f)).map AV.fix=xs.map (e_TFiber f.fix)) ∧
 (∀ (f:Fl) (x:TNetwork),(e_TNetwork f x).fix=e_TNetwork f.fix x) ∧
 (∀ (f:Fl) (xs:List TNetwork),(xs.map (e_TNetwork f)).map AV.fix=xs.map (e_TNetwork f.fix)) ∧
 (∀ (f:Fl) (x:TOutage),(e_TOutage f x).fix=e_TOutage f.fix x) ∧
 (∀ (f:Fl) (xs:List TOutage),(xs.map (e_TOutage f)).map AV.fix=xs.map (e_TOutage f.fix)) ∧
 (∀ (f:Fl) (x:TRoute),(e_TRoute f x).fix=e_TRoute f.fix x) ∧
 (∀ (f:Fl) (xs:List TRoute),(xs.map (e_TRoute f)).map AV.fix=xs.map (e_TRoute f.fix)) ∧
 (∀ (f:Fl) (x:Tl1Cur),(e_Tl1Cur f x).fix=e_Tl1Cur f.fix x) ∧
 (∀ (f:Fl) (xs:List Tl1Cur),(xs.map (e_Tl1Cur f)).map AV.fix=xs.map (e_Tl1Cur f.fix)) ∧
 (∀ (f:Fl) (x:List Int),(e_Li f x).fix=e_Li f.fix x) ∧
 (∀ (f:Fl) (xs:List (List Int)),(xs.map (e_Li f)).map AV.fix=xs.map (e_Li f.fix)) :=
 ⟨@e_TFiber_fix,@e_TFiber_fixm,@e_TNetwork_fix,@e_TNetwork_fixm,@e_TOutage_fix,@e_TOutage_fixm,@e_TRoute_fix,@e_TRoute_fixm,@e_Tl1Cur_fix,@e_Tl1Cur_fixm,@e_Li_fix,@e_Li_fixm⟩
theorem VZ1:(∀ (x:TFiber),(e_TFiber .o x).fz=true) ∧
 (∀ (xs:List TFiber),fzL (xs.map (e_TFiber .o))=true) ∧
 (∀ (x:TFiber),(e_TFiber .u x).ouB=true) ∧
 (∀ (xs:List TFiber),ouBL (xs.map (e_TFiber .u))=true) ∧
 (∀ (x:TNetwork),(e_TNetwork .o x).fz=true) ∧
 (∀ (xs:List TNetwork),fzL (xs.map (e_TNetwork .o))=true) ∧
 (∀ (x:TNetwork),(e_TNetwork .u x).ouB=true) ∧
 (∀ (xs:List TNetwork),ouBL (xs.map (e_TNetwork .u))=true) ∧
 (∀ (x:TOutage),(e_TOutage .o x).fz=true) ∧
 (∀ (xs:List TOutage),fzL (xs.map (e_TOutage .o))=true) ∧
 (∀ (x:TOutage),(e_TOutage .u x).ouB=true) ∧
 (∀ (xs:List TOutage),ouBL (xs.map (e_TOutage .u))=true) ∧
 (∀ (x:TRoute),(e_TRoute .o x).fz=true) ∧
 (∀ (xs:List TRoute),fzL (xs.map (e_TRoute .o))=true) ∧
 (∀ (x:TRoute),(e_TRoute .u x).ouB=true) ∧
 (∀ (xs:List TRoute),ouBL (xs.map (e_TRoute .u))=true) ∧
 (∀ (x:Tl1Cur),(e_Tl1Cur .o x).fz=true) ∧
 (∀ (xs:List Tl1Cur),fzL (xs.map (e_Tl1Cur .o))=true) ∧
 (∀ (x:Tl1Cur),(e_Tl1Cur .u x).ouB=true) ∧
 (∀ (xs:List Tl1Cur),ouBL (xs.map (e_Tl1Cur .u))=true) ∧
 (∀ (x:List Int),(e_Li .o x).fz=true) ∧
 (∀ (xs:List (List Int)),fzL (xs.map (e_Li .o))=true) ∧
 (∀ (x:List Int),(e_Li .u x).ouB=true) ∧
 (∀ (xs:List (List Int)),ouBL (xs.map (e_Li .u))=true) :=
 ⟨@e_TFiber_fz,@e_TFiber_fzm,@e_TFiber_ou,@e_TFiber_oum,@e_TNetwork_fz,@e_TNetwork_fzm,@e_TNetwork_ou,@e_TNetwork_oum,@e_TOutage_fz,@e_TOutage_fzm,@e_TOutage_ou,@e_TOutage_oum,@e_TRoute_fz,@e_TRoute_fzm,@e_TRoute_ou,@e_TRoute_oum,@e_Tl1Cur_fz,@e_Tl1Cur_fzm,@e_Tl1Cur_ou,@e_Tl1Cur_oum,@e_Li_fz,@e_Li_fzm,@e_Li_ou,@e_Li_oum⟩
theorem VE1:e_TFiber .o=e_TFiber .u∧e_TFiber .m=e_TFiber .u∧e_TFiber .s=e_TFiber .u:=⟨rfl,rfl,rfl⟩
theorem Zr {α:Type} (n:Nat) (a:α):(List.replicate n a).length=n:=List.length_replicate
theorem ZA {A B:Prop} (a:A) (b:B):A∧B:=⟨a,b⟩
theorem ZF {A:Prop} (a:A) {P Q:Prop} (k:Q) (e:A→P=Q:=by intro a; simp only [VS1,VS2,VS3,VS4,VS5,VS6,VT1,VT2,finM_ret,finM_nrm,decide_true,decide_false,List.nodup_nil,List.nodup_cons,oks_p,oks_m,oks_h,ne_eq,not_false_eq_true,Int.reduceEq,Int.reduceNe,true_and,false_and,Nat.reduceSub,Nat.reduceMul,↓reduceIte,reduceCtorEq,Nat.reduceEqDiff,Nat.reduceAdd,Nat.reduceLeDiff,Int.reduceLE,a]; exact Eq.refl _):P:=(e a).mpr k
theorem ZG {P Q:Prop} (k:Q) (e:P=Q:=by simp only [VA,VF1,↓reduceIte,Nat.reduceEqDiff,Nat.reduceAdd,Nat.reduceMul,Nat.reduceSub,Nat.reduceLeDiff]; exact Eq.refl _):P:=e.mpr k
theorem ZL {A:Prop} (a:A) {B:Prop} (b:B) {P:Prop} (e:A→B→P:=by intro a b; (try simp only [VS1,VS2,VS3,VS4,VS5,VS6,VT1,VT2,finM_ret,finM_nrm,decide_true,decide_false,List.nodup_nil,List.nodup_cons,oks_p,oks_m,oks_h,ne_eq,not_false_eq_true,Int.reduceEq,Int.reduceNe,true_and,false_and,Nat.reduceSub,Nat.reduceMul,↓reduceIte,reduceCtorEq,Nat.reduceEqDiff,Nat.reduceAdd,Nat.reduceLeDiff,Int.reduceLE,a]); all_goals first | (simp [qL,qJ,qJ0,qS,qX,qR,qM,Shp,sub,tupd,finM_ret,finM_nrm,VS1,VS2,VS3,VS4,VS5,VS6,VT1,VT2,b]; done) | simp [qL,qJ,qJ0,qS,qX,qR,qM,Shp,sub,tupd,finM_ret,finM_nrm,VS1,VS2,VS3,VS4,VS5,VS6,VT1,VT2,VE1,b]):P:=e a b
theorem ZK {B:Prop} (b:B) {P:Prop} (e:B→P:=by intro b; simp [qL,qJ,qJ0,qS,qX,qR,qM,Shp,sub,tupd,finM_ret,finM_nrm,VS1,VS2,VS3,VS4,VS5,VS6,VT1,VT2,b]):P:=e b
theorem ZS {A:Prop} (a:A) {W:Prop} (w:W) {ok:Oks} {ρ:Nat→Option Row} {d f:Nat} {args:List AV} {K:AV→List (Nat×Row)→Prop} {v:Value} (hk:K (.sc v) [])
 (e:A→W→ok.p f (args.map (snp ρ 4)) (.sc v):=by intro a w; simp only [VS1,VS2,VS3,VS4,VS5,VS6,VT1,VT2,finM_ret,finM_nrm,decide_true,decide_false,List.nodup_nil,List.nodup_cons,oks_p,oks_m,oks_h,ne_eq,not_false_eq_true,Int.reduceEq,Int.reduceNe,true_and,false_and,Nat.reduceSub,Nat.reduceMul,↓reduceIte,reduceCtorEq,Nat.reduceEqDiff,Nat.reduceAdd,Nat.reduceLeDiff,Int.reduceLE,a]; exact w):callA ok ρ d f args K:=call_s (e a w) hk
theorem ZU {A:Prop} (a:A) {W:Prop} (w:W) {ok:Oks} {ρ:Nat→Option Row} {d f:Nat} {args:List AV} {K:AV→List (Nat×Row)→Prop} {res:AV} (hk:K (adopt 4 d res).1 (adopt 4 d res).2.1)
 (e:A→W→ok.p f (args.map (snp ρ 4)) res:=by intro a w; simp only [VS1,VS2,VS3,VS4,VS5,VS6,VT1,VT2,finM_ret,finM_nrm,decide_true,decide_false,List.nodup_nil,List.nodup_cons,oks_p,oks_m,oks_h,ne_eq,not_false_eq_true,Int.reduceEq,Int.reduceNe,true_and,false_and,Nat.reduceSub,Nat.reduceMul,↓reduceIte,reduceCtorEq,Nat.reduceEqDiff,Nat.reduceAdd,Nat.reduceLeDiff,Int.reduceLE,a]; exact w) (hu:res.allU:=by simp [AV.allU,allUL,allUL_iff,VT1,VT2]) (hn:∀ p∈(adopt 4 d res).2.1,ρ p.1=none∧p.1 < 1000000000:=by simp only [VS1,VS2,VS3,VS4,VS5,VS6,VT1,VT2,finM_ret,finM_nrm,decide_true,decide_false,List.nodup_nil,List.nodup_cons,oks_p,oks_m,oks_h,ne_eq,not_false_eq_true,Int.reduceEq,Int.reduceNe,true_and,false_and,Nat.reduceSub,Nat.reduceMul,↓reduceIte,reduceCtorEq,Nat.reduceEqDiff,Nat.reduceAdd,Nat.reduceLeDiff,Int.reduceLE,Nat.reduceLT]):callA ok ρ d f args K:=call_u (e a w) hu hn hk
theorem ZQ {P:Prop} (e:P:=by simp [VS1,VS2,VS3,VS4,VS5,VS6,VT1,VT2]):P:=e
theorem ZW {A:Prop} (a:A) {W:Prop} (w:W) {ok:Oks} {ρ:Nat→Option Row} {d f:Nat} {args:List AV} {rs:List Nat} {K:AV→List (Nat×Row)→Prop} {res:AV} {outs:List (Nat×Row)}
 (e:A→W→ok.m f (args.map (AV.rg (cnm rs))) (rs.map (rowIn ρ rs)) res outs:=by intro a w; simp only [VS1,VS2,VS3,VS4,VS5,VS6,VT1,VT2,finM_ret,finM_nrm,decide_true,decide_false,List.nodup_nil,List.nodup_cons,oks_p,oks_m,oks_h,ne_eq,not_false_eq_true,Int.reduceEq,Int.reduceNe,true_and,false_and,Nat.reduceSub,Nat.reduceMul,↓reduceIte,reduceCtorEq,Nat.reduceEqDiff,Nat.reduceAdd,Nat.reduceLeDiff,Int.reduceLE,a]; first | exact w | (simp only [VS1,VS2,VS3,VS4,VS5,VS6,VT1,VT2,finM_ret,finM_nrm,decide_true,decide_false,List.nodup_nil,List.nodup_cons,oks_p,oks_m,oks_h,ne_eq,not_false_eq_true,Int.reduceEq,Int.reduceNe,true_and,false_and,Nat.reduceSub,Nat.reduceMul,↓reduceIte,reduceCtorEq,Nat.reduceEqDiff,Nat.reduceAdd,Nat.reduceLeDiff,Int.reduceLE,a] at w; exact w))
 (h1:rs.Nodup∧(∀ r∈rs,isLive (ρ r))∧(∀ r∈rs,∀ q∈oments (ρ r),q∈rs)∧(∀ r∈mentsL args,r∈rs):=by simp [VS1,VS2,VS3,VS4,VS5,VS6,VT1,VT2])
 (h2:(outs.map fun p=>bkn d rs p.1).Nodup∧(∀ p∈outs,1000000000≤p.1→p.1 - 1000000000 < rs.length)∧(∀ p∈outs,p.1 < 1000000000→ρ (bkn d rs p.1)=none∧bkn d rs p.1 < 1000000000))
 (hk:K (res.rg (bkn d rs)) (gone rs++outs.map (rowBk d rs))):callM ok ρ d f args rs K:=call_m (e a w) h1 h2 hk
theorem w_dx (codeZ0:List Int) {r:Bool} (h:M_dx codeZ0=some r):Ok Try.prog 33 [.lst .o 1 (codeZ0.map AV.u8)] ((fun r=>.b r) r):=by
 refine ok_of_body hmix m33 rfl ?_
 unfold M_dx at h
 simp only [ZC,A33,V33,body_eq]
 cases h
 exact ZL trivial V33.eq_1
theorem w_bt (aaZ0:Tl1Cur) {r:Int×Tl1Cur} (h:M_bt aaZ0=some r):OkM Try.prog 122 [.pt 1000000000 0 0] [(1000000000,.var (.agg [.lst .o 1 (((aaZ0).code).map AV.u8),.i ((aaZ0).atF),.sc (.int .u64 ((aaZ0).seed))]))] ((fun (r:Int×Tl1Cur)=>.i r.1) r) ((fun (r:Int×Tl1Cur)=>[(1000000000,.var (.agg [.lst .o 1 (((r.2).code).map AV.u8),.i ((r.2).atF),.sc (.int .u64 ((r.2).seed))]))]) r):=by
 refine okM_of_body (lr:=[1000000000]) hmix m122M1 rfl rfl ?_
 unfold M_bt at h
 simp only [ZC,A122M1,V122M1]
 obtain ⟨oZ3,hoZ3,h⟩:=bind_s h
 try refine ZF trivial ?_
 refine join_rule0 (sh:=(fun v=>⟨[(0,.pt 1000000000 0 0),(3,.i v)],[(1000000000,.var (.agg [.lst .o 1 (((aaZ0).code).map AV.u8),.i ((aaZ0).atF),.sc (.int .u64 ((aaZ0).seed))]))]⟩)) (s:=oZ3) ?_ ?_
 · replace h:=hoZ3
   obtain ⟨cZ1,h⟩ | ⟨cZ1,h⟩:=cond_s h
   · obtain ⟨yZ2,hyZ2,h⟩:=bind_s h
     obtain ⟨hyZ2a,hyZ2b⟩:=geti_s hyZ2
     cases h
     exact ZL (ZA cZ1 (ZA hyZ2a hyZ2b)) trivial
   · cases h
     exact ZL cZ1 trivial
 · simp only [ZC,A122M1R1]
   obtain ⟨cZ4,h⟩ | ⟨cZ4,h⟩:=cond_s h
   · cases h
     exact ZL cZ4 V122M1.eq_1
   · cases h
     exact ZL cZ4 V122M1.eq_1
theorem w_a (aaZ0:Int) (abZ0:Tl1Cur) {r:Int×Tl1Cur} (h:M_a aaZ0 abZ0=some r):OkM Try.prog 89 [.pt 1000000000 0 0,.i aaZ0] [(1000000000,.var (.agg [.lst .o 1 (((abZ0).code).map AV.u8),.i ((abZ0).atF),.sc (.int .u64 ((abZ0).seed))]))] ((fun (r:Int×Tl1Cur)=>.i r.1) r) ((fun (r:Int×Tl1Cur)=>[(1000000000,.var (.agg [.lst .o 1 (((r.2).code).map AV.u8),.i ((r.2).atF),.sc (.int .u64 ((r.2).seed))]))]) r):=by
 refine okM_of_body (lr:=[1000000000]) hmix m89M1 rfl rfl ?_
 unfold M_a at h
 simp only [ZC,A89M1,V89M1]
 obtain ⟨cZ1,h⟩ | ⟨cZ1,h⟩:=cond_s h
 · cases h
   exact ZL cZ1 V89M1.eq_1
 · obtain ⟨rZ2,hrZ2,h⟩:=bind_s h
   refine ZF cZ1 ?_
   refine ZW cZ1 (w_bt _ hrZ2) (h2:=by first | exact nm_ok [1000000000] rfl (by decide +kernel) | exact nm_ok2 [1000000000] [] rfl (by decide +kernel) ZQ | exact ZQ) (hk:=?_)
   refine ZG ?_
   obtain ⟨cZ3,h⟩ | ⟨cZ3,h⟩:=cond_s h
   · obtain ⟨rZ4,hrZ4,h⟩:=bind_s h
     refine ZF (ZA cZ1 cZ3) ?_
     refine ZW (ZA cZ1 cZ3) (w_bt _ hrZ4) (h2:=by first | exact nm_ok [1000000000] rfl (by decide +kernel) | exact nm_ok2 [1000000000] [] rfl (by decide +kernel) ZQ | exact ZQ) (hk:=?_)
     refine ZG ?_
     obtain ⟨uZ5,huZ5,h⟩:=bind_s h
     have huZ5g:=grd_s huZ5
     cases h
     exact ZL (ZA cZ1 (ZA cZ3 huZ5g)) V89M1.eq_1
   · obtain ⟨uZ6,huZ6,h⟩:=bind_s h
     have huZ6g:=grd_s huZ6
     cases h
     exact ZL (ZA cZ1 (ZA cZ3 huZ6g)) V89M1.eq_1
theorem w_cf (aaZ0:Int) (abZ0:Tl1Cur) {r:Bool×Tl1Cur} (h:M_cf aaZ0 abZ0=some r):OkM Try.prog 103 [.pt 1000000000 0 0,.i aaZ0] [(1000000000,.var (.agg [.lst .o 1 (((abZ0).code).map AV.u8),.i ((abZ0).atF),.sc (.int .u64 ((abZ0).seed))]))] ((fun (r:Bool×Tl1Cur)=>.b r.1) r) ((fun (r:Bool×Tl1Cur)=>[(1000000000,.var (.agg [.lst .o 1 (((r.2).code).map AV.u8),.i ((r.2).atF),.sc (.int .u64 ((r.2).seed))]))]) r):=by
 refine okM_of_body (lr:=[1000000000]) hmix m103M1 rfl rfl ?_
 unfold M_cf at h
 simp only [ZC,A103M1,V103M1]
 obtain ⟨rZ1,hrZ1,h⟩:=bind_s h
 refine ZF trivial ?_
 refine ZW trivial (w_a _ _ hrZ1) (h2:=by first | exact nm_ok [1000000000] rfl (by decide +kernel) | exact nm_ok2 [1000000000] [] rfl (by decide +kernel) ZQ | exact ZQ) (hk:=?_)
 refine ZG ?_
 cases h
 exact ZL trivial V103M1.eq_1
theorem w_bv (aZ0:Int) (bZ0:Int) {r:Int} (h:M_bv aZ0 bZ0=some r):Ok Try.prog 125 [.i aZ0,.i bZ0] ((fun r=>.i r) r):=by
 refine ok_of_body hmix m125 rfl ?_
 unfold M_bv at h
 simp only [ZC,A125,V125,body_eq]
 obtain ⟨cZ1,h⟩ | ⟨cZ1,h⟩:=cond_s h
 · cases h
   exact ZL cZ1 V125.eq_1
 · cases h
   exact ZL cZ1 V125.eq_1
theorem w_bw (aZ0:Int) (bZ0:Int) {r:Int} (h:M_bw aZ0 bZ0=some r):Ok Try.prog 102 [.i aZ0,.i bZ0] ((fun r=>.i r) r):=by
 refine ok_of_body hmix m102 rfl ?_
 unfold M_bw at h
 simp only [ZC,A102,V102,body_eq]
 obtain ⟨cZ1,h⟩ | ⟨cZ1,h⟩:=cond_s h
 · cases h
   exact ZL cZ1 V102.eq_1
 · cases h
   exact ZL cZ1 V102.eq_1
theorem w_ak (aaZ0:Tl1Cur) (abZ0:List Int) {r:Int×Tl1Cur×List Int} (h:M_ak aaZ0 abZ0=some r):OkM Try.prog 101 [.pt 1000000000 0 0,.sl 1000000001 0 abZ0.length] [(1000000000,.var (.agg [.lst .o 1 (((aaZ0).code).map AV.u8),.i ((aaZ0).atF),.sc (.int .u64 ((aaZ0).seed))])),(1000000001,.arr 1 (abZ0.map AV.i))] ((fun (r:Int×Tl1Cur×List Int)=>.i r.1) r) ((fun (r:Int×Tl1Cur×List Int)=>[(1000000000,.var (.agg [.lst .o 1 (((r.2.1).code).map AV.u8),.i ((r.2.1).atF),.sc (.int .u64 ((r.2.1).seed))])),(1000000001,.arr 1 (r.2.2.map AV.i))]) r):=by
 refine okM_of_body (lr:=[1000000000,1000000001]) hmix m101M1 rfl rfl ?_
 unfold M_ak at h
 simp only [ZC,A101M1,V101M1]
 obtain ⟨rZ1,hrZ1,h⟩:=bind_s h
 refine ZF trivial ?_
 refine ZW trivial (w_a _ _ hrZ1) (h2:=by first | exact nm_ok [1000000000] rfl (by decide +kernel) | exact nm_ok2 [1000000000] [] rfl (by decide +kernel) ZQ | exact ZQ) (hk:=?_)
 refine ZG ?_
 obtain ⟨kZ2,hkZ2,h⟩:=bind_s h
 obtain ⟨hkZ2a,hkZ2b⟩:=grd_s hkZ2
 obtain ⟨yZ3,hyZ3,h⟩:=bind_s h
 cases h
 exact ZL (ZA hkZ2a (ZA hkZ2b hyZ3)) V101M1.eq_1
theorem w_bk (fZ0:TFiber) (gZ0:TFiber) {r:Int} (h:M_bk fZ0 gZ0=some r):Ok Try.prog 130 [.agg [.i fZ0.A,.i fZ0.B,.i fZ0.Length,.i fZ0.Risk],.agg [.i gZ0.A,.i gZ0.B,.i gZ0.Length,.i gZ0.Risk]] ((fun r=>.i r) r):=by
 refine ok_of_body hmix m130 rfl ?_
 unfold M_bk at h
 simp only [ZC,A130,V130,body_eq]
 obtain ⟨cZ1,h⟩ | ⟨cZ1,h⟩:=cond_s h
 · cases h
   exact ZL cZ1 V130.eq_1
 · obtain ⟨cZ2,h⟩ | ⟨cZ2,h⟩:=cond_s h
   · cases h
     exact ZL (ZA cZ1 cZ2) V130.eq_1
   · obtain ⟨cZ3,h⟩ | ⟨cZ3,h⟩:=cond_s h
     · cases h
       exact ZL (ZA cZ1 (ZA cZ2 cZ3)) V130.eq_1
     · cases h
       exact ZL (ZA cZ1 (ZA cZ2 cZ3)) V130.eq_1
def S_r (listZ0:List TFiber) (fZ0:TFiber) (v:Int):St:=⟨[(0,.lst .o 4 (listZ0.map (e_TFiber .o))),(3,.pt 3 0 0),(5,.i v)],[(3,.var (.agg [.i fZ0.A,.i fZ0.B,.i fZ0.Length,.i fZ0.Risk]))]⟩
def SX_r (listZ0:List TFiber) (fZ0:TFiber) (v:Int):St:=⟨[(0,.lst .o 4 (listZ0.map (e_TFiber .o))),(3,.pt 3 0 0),(5,.i v)],[(3,.var (.agg [.i fZ0.A,.i fZ0.B,.i fZ0.Length,.i fZ0.Risk]))]⟩
theorem w_r (listZ0:List TFiber) (fZ0:TFiber) (sZ1:Int) (o:Int ⊕ Int) (h:M_r listZ0 fZ0 sZ1=some o):AWP (OkS Try.prog) A166L1 (qL [0,3,5] [3] (S_r listZ0 fZ0) (qX 0 [0,3,5] [3] (SX_r listZ0 fZ0)) o) (S_r listZ0 fZ0 sZ1):=by
 unfold M_r at h
 simp only [ZC,S_r,A166L1]
 obtain ⟨cZ2,h⟩ | ⟨cZ2,h⟩:=cond_s h
 · obtain ⟨yZ3,hyZ3,h⟩:=bind_s h
   obtain ⟨hyZ3a,hyZ3b⟩:=geti_s hyZ3
   obtain ⟨rZ4,hrZ4,h⟩:=bind_s h
   refine ZF (ZA cZ2 (ZA hyZ3a hyZ3b)) ?_
   refine ZS (ZA cZ2 (ZA hyZ3a hyZ3b)) (w_bk _ _ hrZ4) ?_
   refine ZG ?_
   obtain ⟨cZ5,h⟩ | ⟨cZ5,h⟩:=cond_s h
   · cases h
     exact ZL (ZA cZ2 (ZA hyZ3a (ZA hyZ3b cZ5))) (ZA S_r.eq_1 SX_r.eq_1)
   · cases h
     exact ZL (ZA cZ2 (ZA hyZ3a (ZA hyZ3b cZ5))) (ZA S_r.eq_1 SX_r.eq_1)
 · cases h
   exact ZL cZ2 (ZA S_r.eq_1 SX_r.eq_1)
theorem w_bx (listZ0:List TFiber) (fZ0:TFiber) {r:List TFiber} (h:M_bx listZ0 fZ0=some r):Ok Try.prog 166 [.lst .o 4 (listZ0.map (e_TFiber .o)),.agg [.i fZ0.A,.i fZ0.B,.i fZ0.Length,.i fZ0.Risk]] ((fun r=>.lst .u 4 (r.map (e_TFiber .u))) r):=by
 refine ok_of_body hmix m166 rfl ?_
 unfold M_bx at h
 simp only [ZC,A166,V166,body_eq]
 obtain ⟨oZ6,hoZ6,h⟩:=bind_s h
 try refine ZF trivial ?_
 refine join_rule0 (blk_rule0 (loop_rule (w_r listZ0 fZ0) hoZ6 ?_)) ?_
 · exact ZK (ZA S_r.eq_1 SX_r.eq_1)
 · simp only [ZC,SX_r,A166R2]
   obtain ⟨lZ7,hlZ7,h⟩:=bind_s h
   obtain ⟨hlZ7a,hlZ7b,hlZ7c,hlZ7d,hlZ7e⟩:=slT_s (e_TFiber .o) hlZ7
   obtain ⟨uZ8,huZ8,h⟩:=bind_s h
   have huZ8g:=grd_s huZ8
   obtain ⟨lZ9,hlZ9,h⟩:=bnd_s h
   have eZ10:Row.arr 4 [(.agg [.i fZ0.A,.i fZ0.B,.i fZ0.Length,.i fZ0.Risk]:AV)]=Row.arr 4 (lZ9.map (e_TFiber .u)):=by rw [← hlZ9]; rfl
   have jjZ11:lZ9.length=1:=by rw [← hlZ9]; rfl
   obtain ⟨uZ12,huZ12,h⟩:=bind_s h
   have huZ12g:=grd_s huZ12
   obtain ⟨lZ13,hlZ13,h⟩:=bnd_s h
   have eZ14:lZ7.map (e_TFiber .o)++lZ9.map (e_TFiber .o)=lZ13.map (e_TFiber .o):=by rw [← hlZ13,List.map_append]
   have eZ15:lZ7.length+1=lZ13.length:=by simp [← hlZ9,← hlZ13] <;> omega
   rw [eZ15] at huZ12g
   obtain ⟨lZ16,hlZ16,h⟩:=bind_s h
   obtain ⟨hlZ16a,hlZ16b,hlZ16c,hlZ16d,hlZ16e⟩:=slF_s (e_TFiber .o) hlZ16
   obtain ⟨uZ17,huZ17,h⟩:=bind_s h
   have huZ17g:=grd_s huZ17
   obtain ⟨lZ18,hlZ18,h⟩:=bnd_s h
   have eZ19:lZ13.map (e_TFiber .o)++lZ16.map (e_TFiber .o)=lZ18.map (e_TFiber .o):=by rw [← hlZ18,List.map_append]
   have eZ20:lZ13.length+lZ16.length=lZ18.length:=by simp [← hlZ9,← hlZ13,← hlZ18] <;> omega
   rw [eZ20] at huZ17g
   cases h
   exact ZL (ZA hlZ7a (ZA hlZ7b (ZA hlZ7c (ZA hlZ7d (ZA hlZ7e (ZA huZ8g (ZA eZ10 (ZA jjZ11 (ZA huZ12g (ZA eZ14 (ZA eZ15 (ZA hlZ16a (ZA hlZ16b (ZA hlZ16c (ZA hlZ16d (ZA hlZ16e (ZA huZ17g (ZA eZ19 eZ20)))))))))))))))))) (ZA V166.eq_1 (ZA hlZ9.symm (ZA hlZ13.symm (ZA hlZ18.symm jjZ11))))
def S_m (rZ1:Int×Tl1Cur) (lZ2:List ByteArray) (v:Int×List TFiber×Tl1Cur):St:=⟨[(0,.pt 1000000000 0 0),(2,.pt 2 0 0),(3,.i (IntKind.wrap .i64 (2+rZ1.1))),(4,.pt 4 0 0),(5,.i v.1)],[(2,.var (.agg [.lst .u 1 [],.lst .u 4 []])),(4,.var (.agg [.sl 500000256 0 (Int.toNat (IntKind.wrap .i64 (2+rZ1.1))),.sl 500000257 0 v.2.1.length])),(500000256,.arr 1 (lZ2.map AV.z)),(500000257,.arr 4 (v.2.1.map (e_TFiber .u))),(1000000000,.var (.agg [.lst .o 1 (((v.2.2).code).map AV.u8),.i ((v.2.2).atF),.sc (.int .u64 ((v.2.2).seed))]))]⟩
def SX_m (rZ1:Int×Tl1Cur) (lZ2:List ByteArray) (v:List TFiber×Tl1Cur):St:=⟨[(0,.pt 1000000000 0 0),(2,.pt 2 0 0),(3,.i (IntKind.wrap .i64 (2+rZ1.1))),(4,.pt 4 0 0)],[(2,.var (.agg [.lst .u 1 [],.lst .u 4 []])),(4,.var (.agg [.sl 500000256 0 (Int.toNat (IntKind.wrap .i64 (2+rZ1.1))),.sl 500000257 0 v.1.length])),(500000256,.arr 1 (lZ2.map AV.z)),(500000257,.arr 4 (v.1.map (e_TFiber .u))),(1000000000,.var (.agg [.lst .o 1 (((v.2).code).map AV.u8),.i ((v.2).atF),.sc (.int .u64 ((v.2).seed))]))]⟩
theorem w_m (rZ1:Int×Tl1Cur) (lZ2:List ByteArray) (sZ6:Int×List TFiber×Tl1Cur) (o:(Int×List TFiber×Tl1Cur) ⊕ (List TFiber×Tl1Cur)) (h:M_m rZ1 sZ6=some o):AWP (OkS Try.prog) A152M1L2 (qL [0,2,3,4,5] [2,4,500000256,500000257,1000000000] (S_m rZ1 lZ2) (qX 0 [0,2,3,4] [2,4,500000256,500000257,1000000000] (SX_m rZ1 lZ2)) o) (S_m rZ1 lZ2 sZ6):=by
 unfold M_m at h
 simp only [ZC,S_m,A152M1L2]
 obtain ⟨cZ7,h⟩ | ⟨cZ7,h⟩:=cond_s h
 · obtain ⟨uZ8,huZ8,h⟩:=bind_s h
   have huZ8g:=grd_s huZ8
   obtain ⟨oZ11,hoZ11,h⟩:=bind_s h
   try refine ZF (ZA cZ7 huZ8g) ?_
   refine join_rule0 (sh:=(fun v=>⟨[(0,.pt 1000000000 0 0),(2,.pt 2 0 0),(3,.i (IntKind.wrap .i64 (2+rZ1.1))),(4,.pt 4 0 0),(5,.i sZ6.1),(6,.i (Int.tmod (IntKind.wrap .i64 (sZ6.1+1)) (IntKind.wrap .i64 (2+rZ1.1)))),(32,.b v.1)],[(2,.var (.agg [.lst .u 1 [],.lst .u 4 []])),(4,.var (.agg [.sl 500000256 0 (Int.toNat (IntKind.wrap .i64 (2+rZ1.1))),.sl 500000257 0 sZ6.2.1.length])),(500000256,.arr 1 (lZ2.map AV.z)),(500000257,.arr 4 (sZ6.2.1.map (e_TFiber .u))),(1000000000,.var (.agg [.lst .o 1 (((v.2).code).map AV.u8),.i ((v.2).atF),.sc (.int .u64 ((v.2).seed))]))]⟩)) (s:=oZ11) ?_ ?_
   · replace h:=hoZ11
     obtain ⟨cZ9,h⟩ | ⟨cZ9,h⟩:=cond_s h
     · cases h
       exact ZL (ZA cZ7 (ZA huZ8g cZ9)) trivial
     · obtain ⟨rZ10,hrZ10,h⟩:=bind_s h
       refine ZF (ZA cZ7 (ZA huZ8g cZ9)) ?_
       refine ZW (ZA cZ7 (ZA huZ8g cZ9)) (w_cf _ _ hrZ10) (h2:=by first | exact nm_ok [1000000000] rfl (by decide +kernel) | exact nm_ok2 [1000000000] [] rfl (by decide +kernel) ZQ | exact ZQ) (hk:=?_)
       refine ZG ?_
       cases h
       exact ZL (ZA cZ7 (ZA huZ8g cZ9)) trivial
   · simp only [ZC,A152M1R1]
     obtain ⟨cZ12,h⟩ | ⟨cZ12,h⟩:=cond_s h
     · cases h
       exact ZL (ZA cZ7 (ZA huZ8g cZ12)) (ZA S_m.eq_1 SX_m.eq_1)
     · obtain ⟨rZ13,hrZ13,h⟩:=bind_s h
       refine ZF (ZA cZ7 (ZA huZ8g cZ12)) ?_
       refine ZS (ZA cZ7 (ZA huZ8g cZ12)) (w_bv _ _ hrZ13) ?_
       refine ZG ?_
       obtain ⟨rZ14,hrZ14,h⟩:=bind_s h
       refine ZF (ZA cZ7 (ZA huZ8g cZ12)) ?_
       refine ZS (ZA cZ7 (ZA huZ8g cZ12)) (w_bw _ _ hrZ14) ?_
       refine ZG ?_
       obtain ⟨rZ15,hrZ15,h⟩:=bind_s h
       refine ZF (ZA cZ7 (ZA huZ8g cZ12)) ?_
       refine ZW (ZA cZ7 (ZA huZ8g cZ12)) (w_a _ _ hrZ15) (h2:=by first | exact nm_ok [1000000000] rfl (by decide +kernel) | exact nm_ok2 [1000000000] [] rfl (by decide +kernel) ZQ | exact ZQ) (hk:=?_)
       refine ZG ?_
       obtain ⟨lZ16,hlZ16,h⟩:=bnd_s h
       have eZ17:Row.arr 1 [(.i 0:AV),(.i 0:AV),(.i 0:AV),(.i 1:AV),(.i 2:AV)]=Row.arr 1 (lZ16.map AV.i):=by rw [← hlZ16]; rfl
       have jjZ18:lZ16.length=5:=by rw [← hlZ16]; rfl
       obtain ⟨rZ19,hrZ19,h⟩:=bind_s h
       refine ZF (ZA cZ7 (ZA huZ8g (ZA cZ12 (ZA eZ17 jjZ18)))) ?_
       refine ZW (ZA cZ7 (ZA huZ8g (ZA cZ12 (ZA eZ17 jjZ18)))) (w_ak _ _ hrZ19) (h2:=by first | exact nm_ok [1000000000,1000000001] rfl (by decide +kernel) | exact nm_ok2 [1000000000,1000000001] [] rfl (by decide +kernel) ZQ | exact ZQ) (hk:=?_)
       refine ZG ?_
       obtain ⟨rZ20,hrZ20,h⟩:=bind_s h
       refine ZF (ZA cZ7 (ZA huZ8g (ZA cZ12 (ZA eZ17 jjZ18)))) ?_
       refine ZU (ZA cZ7 (ZA huZ8g (ZA cZ12 (ZA eZ17 jjZ18)))) (w_bx _ _ hrZ20) ?_
       refine ZG ?_
       cases h
       exact ZL (ZA cZ7 (ZA huZ8g (ZA cZ12 (ZA eZ17 jjZ18)))) (ZA S_m.eq_1 (ZA SX_m.eq_1 (ZA hlZ16.symm jjZ18)))
 · cases h
   exact ZL cZ7 (ZA S_m.eq_1 SX_m.eq_1)
def S_n (rZ1:Int×Tl1Cur) (lZ2:List ByteArray) (v:Int×List TFiber×Tl1Cur):St:=⟨[(0,.pt 1000000000 0 0),(2,.pt 2 0 0),(3,.i (IntKind.wrap .i64 (2+rZ1.1))),(4,.pt 4 0 0),(7,.i v.1)],[(2,.var (.agg [.lst .u 1 [],.lst .u 4 []])),(4,.var (.agg [.sl 500000256 0 (Int.toNat (IntKind.wrap .i64 (2+rZ1.1))),.sl 500000257 0 v.2.1.length])),(500000256,.arr 1 (lZ2.map AV.z)),(500000257,.arr 4 (v.2.1.map (e_TFiber .u))),(1000000000,.var (.agg [.lst .o 1 (((v.2.2).code).map AV.u8),.i ((v.2.2).atF),.sc (.int .u64 ((v.2.2).seed))]))]⟩
def SX_n (rZ1:Int×Tl1Cur) (lZ2:List ByteArray) (v:List TFiber×Tl1Cur):St:=⟨[(2,.pt 2 0 0),(4,.pt 4 0 0)],[(2,.var (.agg [.lst .u 1 [],.lst .u 4 []])),(4,.var (.agg [.sl 500000256 0 (Int.toNat (IntKind.wrap .i64 (2+rZ1.1))),.sl 500000257 0 v.1.length])),(500000256,.arr 1 (lZ2.map AV.z)),(500000257,.arr 4 (v.1.map (e_TFiber .u))),(1000000000,.var (.agg [.lst .o 1 (((v.2).code).map AV.u8),.i ((v.2).atF),.sc (.int .u64 ((v.2).seed))]))]⟩
theorem w_n (rZ1:Int×Tl1Cur) (lZ2:List ByteArray) (sZ23:Int×List TFiber×Tl1Cur) (o:(Int×List TFiber×Tl1Cur) ⊕ (List TFiber×Tl1Cur)) (h:M_n rZ1 sZ23=some o):AWP (OkS Try.prog) A152M1L4 (qL [0,2,3,4,7] [2,4,500000256,500000257,1000000000] (S_n rZ1 lZ2) (qX 2 [2,4] [2,4,500000256,500000257,1000000000] (SX_n rZ1 lZ2)) o) (S_n rZ1 lZ2 sZ23):=by
 unfold M_n at h
 simp only [ZC,S_n,A152M1L4]
 obtain ⟨cZ24,h⟩ | ⟨cZ24,h⟩:=cond_s h
 · obtain ⟨rZ25,hrZ25,h⟩:=bind_s h
   refine ZF cZ24 ?_
   refine ZW cZ24 (w_a _ _ hrZ25) (h2:=by first | exact nm_ok [1000000000] rfl (by decide +kernel) | exact nm_ok2 [1000000000] [] rfl (by decide +kernel) ZQ | exact ZQ) (hk:=?_)
   refine ZG ?_
   obtain ⟨rZ26,hrZ26,h⟩:=bind_s h
   refine ZF cZ24 ?_
   refine ZW cZ24 (w_a _ _ hrZ26) (h2:=by first | exact nm_ok [1000000000] rfl (by decide +kernel) | exact nm_ok2 [1000000000] [] rfl (by decide +kernel) ZQ | exact ZQ) (hk:=?_)
   refine ZG ?_
   obtain ⟨cZ27,h⟩ | ⟨cZ27,h⟩:=cond_s h
   · obtain ⟨rZ28,hrZ28,h⟩:=bind_s h
     refine ZF (ZA cZ24 cZ27) ?_
     refine ZS (ZA cZ24 cZ27) (w_bv _ _ hrZ28) ?_
     refine ZG ?_
     obtain ⟨rZ29,hrZ29,h⟩:=bind_s h
     refine ZF (ZA cZ24 cZ27) ?_
     refine ZS (ZA cZ24 cZ27) (w_bw _ _ hrZ29) ?_
     refine ZG ?_
     obtain ⟨rZ30,hrZ30,h⟩:=bind_s h
     refine ZF (ZA cZ24 cZ27) ?_
     refine ZW (ZA cZ24 cZ27) (w_a _ _ hrZ30) (h2:=by first | exact nm_ok [1000000000] rfl (by decide +kernel) | exact nm_ok2 [1000000000] [] rfl (by decide +kernel) ZQ | exact ZQ) (hk:=?_)
     refine ZG ?_
     obtain ⟨lZ31,hlZ31,h⟩:=bnd_s h
     have eZ32:Row.arr 1 [(.i 0:AV),(.i 0:AV),(.i 0:AV),(.i 1:AV),(.i 2:AV)]=Row.arr 1 (lZ31.map AV.i):=by rw [← hlZ31]; rfl
     have jjZ33:lZ31.length=5:=by rw [← hlZ31]; rfl
     obtain ⟨rZ34,hrZ34,h⟩:=bind_s h
     refine ZF (ZA cZ24 (ZA cZ27 (ZA eZ32 jjZ33))) ?_
     refine ZW (ZA cZ24 (ZA cZ27 (ZA eZ32 jjZ33))) (w_ak _ _ hrZ34) (h2:=by first | exact nm_ok [1000000000,1000000001] rfl (by decide +kernel) | exact nm_ok2 [1000000000,1000000001] [] rfl (by decide +kernel) ZQ | exact ZQ) (hk:=?_)
     refine ZG ?_
     obtain ⟨rZ35,hrZ35,h⟩:=bind_s h
     refine ZF (ZA cZ24 (ZA cZ27 (ZA eZ32 jjZ33))) ?_
     refine ZU (ZA cZ24 (ZA cZ27 (ZA eZ32 jjZ33))) (w_bx _ _ hrZ35) ?_
     refine ZG ?_
     cases h
     exact ZL (ZA cZ24 (ZA cZ27 (ZA eZ32 jjZ33))) (ZA S_n.eq_1 (ZA SX_n.eq_1 (ZA hlZ31.symm jjZ33)))
   · cases h
     exact ZL (ZA cZ24 cZ27) (ZA S_n.eq_1 SX_n.eq_1)
 · cases h
   exact ZL cZ24 (ZA S_n.eq_1 SX_n.eq_1)
theorem w_cy (aaZ0:Tl1Cur) {r:Nat×Nat×List ByteArray×List TFiber×Tl1Cur} (h:M_cy aaZ0=some r):OkM Try.prog 152 [.pt 1000000000 0 0] [(1000000000,.var (.agg [.lst .o 1 (((aaZ0).code).map AV.u8),.i ((aaZ0).atF),.sc (.int .u64 ((aaZ0).seed))]))] ((fun (r:Nat×Nat×List ByteArray×List TFiber×Tl1Cur)=>.agg [.sl 500000128 r.1 r.2.1,.sl 500000129 0 r.2.2.2.1.length]) r) ((fun (r:Nat×Nat×List ByteArray×List TFiber×Tl1Cur)=>[(500000128,.arr 1 (r.2.2.1.map AV.z)),(500000129,.arr 4 (r.2.2.2.1.map (e_TFiber .u))),(1000000000,.var (.agg [.lst .o 1 (((r.2.2.2.2).code).map AV.u8),.i ((r.2.2.2.2).atF),.sc (.int .u64 ((r.2.2.2.2).seed))]))]) r):=by
 refine okM_of_body (lr:=[500000128,500000129,1000000000]) hmix m152M1 rfl rfl ?_
 unfold M_cy at h
 simp only [ZC,A152M1,V152M1]
 obtain ⟨rZ1,hrZ1,h⟩:=bind_s h
 refine ZF trivial ?_
 refine ZW trivial (w_a _ _ hrZ1) (h2:=by first | exact nm_ok [1000000000] rfl (by decide +kernel) | exact nm_ok2 [1000000000] [] rfl (by decide +kernel) ZQ | exact ZQ) (hk:=?_)
 refine ZG ?_
 obtain ⟨lZ2,hlZ2,h⟩:=bnd_s h
 have eZ3:Row.arr 1 [(.z (⟨#[97]⟩:ByteArray):AV),(.z (⟨#[98]⟩:ByteArray):AV),(.z (⟨#[99]⟩:ByteArray):AV),(.z (⟨#[100]⟩:ByteArray):AV),(.z (⟨#[101]⟩:ByteArray):AV),(.z (⟨#[102]⟩:ByteArray):AV)]=Row.arr 1 (lZ2.map AV.z):=by rw [← hlZ2]; rfl
 have jjZ4:lZ2.length=6:=by rw [← hlZ2]; rfl
 obtain ⟨uZ5,huZ5,h⟩:=bind_s h
 obtain ⟨huZ5a,huZ5b,huZ5c,huZ5d⟩:=grd_s huZ5
 obtain ⟨oZ21,hoZ21,h⟩:=bind_s h
 try refine ZF (ZA eZ3 (ZA jjZ4 (ZA huZ5a (ZA huZ5b (ZA huZ5c huZ5d))))) ?_
 refine join_rule0 (blk_rule0 (loop_rule (w_m rZ1 lZ2) hoZ21 ?_)) ?_
 · exact ZK (ZA S_m.eq_1 (ZA SX_m.eq_1 (ZA hlZ2.symm jjZ4)))
 · simp only [ZC,SX_m,A152M1R3]
   obtain ⟨rZ22,hrZ22,h⟩:=bind_s h
   refine ZF (ZA eZ3 (ZA jjZ4 (ZA huZ5a (ZA huZ5b (ZA huZ5c huZ5d))))) ?_
   refine ZW (ZA eZ3 (ZA jjZ4 (ZA huZ5a (ZA huZ5b (ZA huZ5c huZ5d))))) (w_a _ _ hrZ22) (h2:=by first | exact nm_ok [1000000000] rfl (by decide +kernel) | exact nm_ok2 [1000000000] [] rfl (by decide +kernel) ZQ | exact ZQ) (hk:=?_)
   refine ZG ?_
   obtain ⟨oZ36,hoZ36,h⟩:=bind_s h
   try refine ZF (ZA eZ3 (ZA jjZ4 (ZA huZ5a (ZA huZ5b (ZA huZ5c huZ5d))))) ?_
   refine join_rule0 (blk_rule0 (loop_rule (w_n rZ1 lZ2) hoZ36 ?_)) ?_
   · exact ZK (ZA S_n.eq_1 (ZA SX_n.eq_1 jjZ4))
   · simp only [ZC,SX_n,A152M1R5]
     cases h
     exact ZL (ZA eZ3 (ZA jjZ4 (ZA huZ5a (ZA huZ5b (ZA huZ5c huZ5d))))) (ZA V152M1.eq_1 jjZ4)
theorem w_cw (aaZ0:Tl1Cur) (abZ0:List ByteArray) {r:ByteArray×Tl1Cur×List ByteArray} (h:M_cw aaZ0 abZ0=some r):OkM Try.prog 153 [.pt 1000000000 0 0,.sl 1000000001 0 abZ0.length] [(1000000000,.var (.agg [.lst .o 1 (((aaZ0).code).map AV.u8),.i ((aaZ0).atF),.sc (.int .u64 ((aaZ0).seed))])),(1000000001,.arr 1 (abZ0.map AV.z))] ((fun (r:ByteArray×Tl1Cur×List ByteArray)=>.z r.1) r) ((fun (r:ByteArray×Tl1Cur×List ByteArray)=>[(1000000000,.var (.agg [.lst .o 1 (((r.2.1).code).map AV.u8),.i ((r.2.1).atF),.sc (.int .u64 ((r.2.1).seed))])),(1000000001,.arr 1 (r.2.2.map AV.z))]) r):=by
 refine okM_of_body (lr:=[1000000000,1000000001]) hmix m153M1 rfl rfl ?_
 unfold M_cw at h
 simp only [ZC,A153M1,V153M1]
 obtain ⟨rZ1,hrZ1,h⟩:=bind_s h
 refine ZF trivial ?_
 refine ZW trivial (w_a _ _ hrZ1) (h2:=by first | exact nm_ok [1000000000] rfl (by decide +kernel) | exact nm_ok2 [1000000000] [] rfl (by decide +kernel) ZQ | exact ZQ) (hk:=?_)
 refine ZG ?_
 obtain ⟨kZ2,hkZ2,h⟩:=bind_s h
 obtain ⟨hkZ2a,hkZ2b⟩:=grd_s hkZ2
 obtain ⟨yZ3,hyZ3,h⟩:=bind_s h
 cases h
 exact ZL (ZA hkZ2a (ZA hkZ2b hyZ3)) V153M1.eq_1
def S_al (rZ1:Nat×Nat×List ByteArray×List TFiber×Tl1Cur) (v:List TFiber×Tl1Cur):St:=⟨[(0,.pt 1000000000 0 0),(2,.pt 2 0 0),(3,.pt 3 0 0)],[(2,.var (.agg [.lst .u 1 [],.lst .u 4 []])),(3,.var (.agg [.sl 500000192 rZ1.1 rZ1.2.1,.sl 500000193 0 v.1.length])),(500000192,.arr 1 (rZ1.2.2.1.map AV.z)),(500000193,.arr 4 (v.1.map (e_TFiber .u))),(1000000000,.var (.agg [.lst .o 1 (((v.2).code).map AV.u8),.i ((v.2).atF),.sc (.int .u64 ((v.2).seed))]))]⟩
def SX_al (rZ1:Nat×Nat×List ByteArray×List TFiber×Tl1Cur) (v:List TFiber×Tl1Cur):St:=⟨[(2,.pt 2 0 0),(3,.pt 3 0 0)],[(2,.var (.agg [.lst .u 1 [],.lst .u 4 []])),(3,.var (.agg [.sl 500000192 rZ1.1 rZ1.2.1,.sl 500000193 0 v.1.length])),(500000192,.arr 1 (rZ1.2.2.1.map AV.z)),(500000193,.arr 4 (v.1.map (e_TFiber .u))),(1000000000,.var (.agg [.lst .o 1 (((v.2).code).map AV.u8),.i ((v.2).atF),.sc (.int .u64 ((v.2).seed))]))]⟩
theorem w_al (rZ1:Nat×Nat×List ByteArray×List TFiber×Tl1Cur) (sZ41:List TFiber×Tl1Cur) (o:(List TFiber×Tl1Cur) ⊕ (List TFiber×Tl1Cur)) (h:M_al sZ41=some o):AWP (OkS Try.prog) A145M1L1 (qL [0,2,3] [2,3,500000192,500000193,1000000000] (S_al rZ1) (qX 1 [2,3] [2,3,500000192,500000193,1000000000] (SX_al rZ1)) o) (S_al rZ1 sZ41):=by
 unfold M_al at h
 simp only [ZC,S_al,A145M1L1]
 obtain ⟨rZ42,hrZ42,h⟩:=bind_s h
 refine ZF trivial ?_
 refine ZW trivial (w_a _ _ hrZ42) (h2:=by first | exact nm_ok [1000000000] rfl (by decide +kernel) | exact nm_ok2 [1000000000] [] rfl (by decide +kernel) ZQ | exact ZQ) (hk:=?_)
 refine ZG ?_
 obtain ⟨cZ43,h⟩ | ⟨cZ43,h⟩:=cond_s h
 · obtain ⟨kZ44,hkZ44,h⟩:=bind_s h
   obtain ⟨hkZ44a,hkZ44b⟩:=grd_s hkZ44
   obtain ⟨yZ45,hyZ45,h⟩:=bind_s h
   obtain ⟨lZ46,hlZ46,h⟩:=bnd_s h
   have eZ47:Row.arr 4 [(.agg [.i yZ45.A,.i yZ45.B,.i yZ45.Length,.i yZ45.Risk]:AV)]=Row.arr 4 (lZ46.map (e_TFiber .u)):=by rw [← hlZ46]; rfl
   have jjZ48:lZ46.length=1:=by rw [← hlZ46]; rfl
   obtain ⟨uZ49,huZ49,h⟩:=bind_s h
   have huZ49g:=grd_s huZ49
   obtain ⟨lZ50,hlZ50,h⟩:=bnd_s h
   have eZ51:sZ41.1.map (e_TFiber .u)++lZ46.map (e_TFiber .u)=lZ50.map (e_TFiber .u):=by rw [← hlZ50,List.map_append]
   have eZ52:sZ41.1.length+1=lZ50.length:=by simp [← hlZ46,← hlZ50] <;> omega
   rw [eZ52] at huZ49g
   cases h
   exact ZL (ZA cZ43 (ZA hkZ44a (ZA hkZ44b (ZA hyZ45 (ZA eZ47 (ZA jjZ48 (ZA huZ49g (ZA eZ51 eZ52)))))))) (ZA S_al.eq_1 (ZA SX_al.eq_1 (ZA hlZ46.symm (ZA hlZ50.symm jjZ48))))
 · cases h
   exact ZL cZ43 (ZA S_al.eq_1 SX_al.eq_1)
theorem w_cz (aaZ0:Tl1Cur) {r:Nat×Nat×List ByteArray×List TFiber×Tl1Cur} (h:M_cz aaZ0=some r):OkM Try.prog 145 [.pt 1000000000 0 0] [(1000000000,.var (.agg [.lst .o 1 (((aaZ0).code).map AV.u8),.i ((aaZ0).atF),.sc (.int .u64 ((aaZ0).seed))]))] ((fun (r:Nat×Nat×List ByteArray×List TFiber×Tl1Cur)=>.agg [.sl 500000128 r.1 r.2.1,.sl 500000129 0 r.2.2.2.1.length]) r) ((fun (r:Nat×Nat×List ByteArray×List TFiber×Tl1Cur)=>[(500000128,.arr 1 (r.2.2.1.map AV.z)),(500000129,.arr 4 (r.2.2.2.1.map (e_TFiber .u))),(1000000000,.var (.agg [.lst .o 1 (((r.2.2.2.2).code).map AV.u8),.i ((r.2.2.2.2).atF),.sc (.int .u64 ((r.2.2.2.2).seed))]))]) r):=by
 refine okM_of_body (lr:=[500000128,500000129,1000000000]) hmix m145M1 rfl rfl ?_
 unfold M_cz at h
 simp only [ZC,A145M1,V145M1]
 obtain ⟨rZ1,hrZ1,h⟩:=bind_s h
 refine ZF trivial ?_
 refine ZW trivial (w_cy _ hrZ1) (h2:=by first | exact nm_ok [500000128,500000129,1000000000] rfl (by decide +kernel) | exact nm_ok2 [500000128,500000129,1000000000] [500800128,500800129] rfl (by decide +kernel) ZQ | exact ZQ) (hk:=?_)
 refine ZG ?_
 obtain ⟨cZ2,h⟩ | ⟨cZ2,h⟩:=cond_s h
 · cases h
   exact ZL cZ2 V145M1.eq_1
 · obtain ⟨rZ3,hrZ3,h⟩:=bind_s h
   refine ZF cZ2 ?_
   refine ZW cZ2 (w_a _ _ hrZ3) (h2:=by first | exact nm_ok [1000000000] rfl (by decide +kernel) | exact nm_ok2 [1000000000] [] rfl (by decide +kernel) ZQ | exact ZQ) (hk:=?_)
   refine ZG ?_
   obtain ⟨kZ4,hkZ4,h⟩:=bind_s h
   obtain ⟨hkZ4a,hkZ4b⟩:=grd_s hkZ4
   obtain ⟨yZ5,hyZ5,h⟩:=bind_s h
   obtain ⟨oZ63,hoZ63,h⟩:=bind_s h
   try refine ZF (ZA cZ2 (ZA hkZ4a (ZA hkZ4b hyZ5))) ?_
   refine join_rule (sh:=(fun v=>⟨[(2,.pt 2 0 0),(3,.pt 3 0 0),(4,.i rZ3.1),(5,.pt 5 0 0)],[(2,.var (.agg [.lst .u 1 [],.lst .u 4 []])),(3,.var (.agg [.sl 500000192 v.1 v.2.1,.sl 500000193 0 v.2.2.2.2.1.length])),(5,.var (.agg [.i ((v.2.2.1).A),.i ((v.2.2.1).B),.i ((v.2.2.1).Length),.i ((v.2.2.1).Risk)])),(500000192,.arr 1 (v.2.2.2.1.map AV.z)),(500000193,.arr 4 (v.2.2.2.2.1.map (e_TFiber .u))),(1000000000,.var (.agg [.lst .o 1 (((v.2.2.2.2.2).code).map AV.u8),.i ((v.2.2.2.2.2).atF),.sc (.int .u64 ((v.2.2.2.2.2).seed))]))]⟩)) (q:=(qM V145M1 [500000128,500000129,1000000000] (fun (r:Nat×Nat×List ByteArray×List TFiber×Tl1Cur)=>.agg [.sl 500000128 r.1 r.2.1,.sl 500000129 0 r.2.2.2.1.length]) (fun (r:Nat×Nat×List ByteArray×List TFiber×Tl1Cur)=>[(500000128,.arr 1 (r.2.2.1.map AV.z)),(500000129,.arr 4 (r.2.2.2.1.map (e_TFiber .u))),(1000000000,.var (.agg [.lst .o 1 (((r.2.2.2.2).code).map AV.u8),.i ((r.2.2.2.2).atF),.sc (.int .u64 ((r.2.2.2.2).seed))]))]))) (o:=oZ63) ?_ (fun vZ64 hv=>?_) (fun xZ65 hv e τ hne hq=>?_)
   · replace h:=hoZ63
     obtain ⟨rZ6,hrZ6,h⟩:=bind_s h
     refine ZF (ZA cZ2 (ZA hkZ4a (ZA hkZ4b hyZ5))) ?_
     refine ZW (ZA cZ2 (ZA hkZ4a (ZA hkZ4b hyZ5))) (w_a _ _ hrZ6) (h2:=by first | exact nm_ok [1000000000] rfl (by decide +kernel) | exact nm_ok2 [1000000000] [] rfl (by decide +kernel) ZQ | exact ZQ) (hk:=?_)
     refine ZG ?_
     obtain ⟨cZ7,h⟩ | ⟨cZ7,h⟩:=cond_s h
     · obtain ⟨lZ8,hlZ8,h⟩:=bnd_s h
       have eZ9:Row.arr 1 [(.z (⟨#[98]⟩:ByteArray):AV),(.z (⟨#[]⟩:ByteArray):AV),(.z (⟨#[65]⟩:ByteArray):AV),(.z (⟨#[97,98,99,100,101,102,103,104]⟩:ByteArray):AV),(.z (⟨#[97,98,99,100,101,102,103,104,105]⟩:ByteArray):AV),(.z (⟨#[120,49]⟩:ByteArray):AV)]=Row.arr 1 (lZ8.map AV.z):=by rw [← hlZ8]; rfl
       have jjZ10:lZ8.length=6:=by rw [← hlZ8]; rfl
       obtain ⟨rZ11,hrZ11,h⟩:=bind_s h
       refine ZF (ZA cZ2 (ZA hkZ4a (ZA hkZ4b (ZA hyZ5 (ZA cZ7 (ZA eZ9 jjZ10)))))) ?_
       refine ZW (ZA cZ2 (ZA hkZ4a (ZA hkZ4b (ZA hyZ5 (ZA cZ7 (ZA eZ9 jjZ10)))))) (w_cw _ _ hrZ11) (h2:=by first | exact nm_ok [1000000000,1000000001] rfl (by decide +kernel) | exact nm_ok2 [1000000000,1000000001] [] rfl (by decide +kernel) ZQ | exact ZQ) (hk:=?_)
       refine ZG ?_
       obtain ⟨kZ12,hkZ12,h⟩:=bind_s h
       obtain ⟨hkZ12a,hkZ12b⟩:=grd_s hkZ12
       obtain ⟨yZ13,hyZ13,h⟩:=bind_s h
       obtain ⟨lZ14,hlZ14,h⟩:=bnd_s h
       have eZ15:(rZ1.2.2.1.map AV.z).set (rZ1.1+(Int.toNat 0)) (.z rZ11.1)=lZ14.map AV.z:=by rw [← hlZ14,List.map_set]
       cases h
       exact ZL (ZA cZ2 (ZA hkZ4a (ZA hkZ4b (ZA hyZ5 (ZA cZ7 (ZA eZ9 (ZA jjZ10 (ZA hkZ12a (ZA hkZ12b (ZA hyZ13 eZ15)))))))))) (ZA hlZ8.symm (ZA hlZ14.symm jjZ10))
     · obtain ⟨cZ16,h⟩ | ⟨cZ16,h⟩:=cond_s h
       · obtain ⟨rZ17,hrZ17,h⟩:=bind_s h
         refine ZF (ZA cZ2 (ZA hkZ4a (ZA hkZ4b (ZA hyZ5 (ZA cZ7 cZ16))))) ?_
         refine ZW (ZA cZ2 (ZA hkZ4a (ZA hkZ4b (ZA hyZ5 (ZA cZ7 cZ16))))) (w_a _ _ hrZ17) (h2:=by first | exact nm_ok [1000000000] rfl (by decide +kernel) | exact nm_ok2 [1000000000] [] rfl (by decide +kernel) ZQ | exact ZQ) (hk:=?_)
         refine ZG ?_
         cases h
         exact ZL (ZA cZ2 (ZA hkZ4a (ZA hkZ4b (ZA hyZ5 (ZA cZ7 cZ16))))) trivial
       · obtain ⟨cZ18,h⟩ | ⟨cZ18,h⟩:=cond_s h
         · obtain ⟨rZ19,hrZ19,h⟩:=bind_s h
           refine ZF (ZA cZ2 (ZA hkZ4a (ZA hkZ4b (ZA hyZ5 (ZA cZ7 (ZA cZ16 cZ18)))))) ?_
           refine ZW (ZA cZ2 (ZA hkZ4a (ZA hkZ4b (ZA hyZ5 (ZA cZ7 (ZA cZ16 cZ18)))))) (w_a _ _ hrZ19) (h2:=by first | exact nm_ok [1000000000] rfl (by decide +kernel) | exact nm_ok2 [1000000000] [] rfl (by decide +kernel) ZQ | exact ZQ) (hk:=?_)
           refine ZG ?_
           cases h
           exact ZL (ZA cZ2 (ZA hkZ4a (ZA hkZ4b (ZA hyZ5 (ZA cZ7 (ZA cZ16 cZ18)))))) trivial
         · obtain ⟨cZ20,h⟩ | ⟨cZ20,h⟩:=cond_s h
           · obtain ⟨lZ21,hlZ21,h⟩:=bnd_s h
             have eZ22:Row.arr 1 [(.i 0:AV),(.i 1:AV),(.i 5000:AV),(.i 5001:AV)]=Row.arr 1 (lZ21.map AV.i):=by rw [← hlZ21]; rfl
             have jjZ23:lZ21.length=4:=by rw [← hlZ21]; rfl
             obtain ⟨rZ24,hrZ24,h⟩:=bind_s h
             refine ZF (ZA cZ2 (ZA hkZ4a (ZA hkZ4b (ZA hyZ5 (ZA cZ7 (ZA cZ16 (ZA cZ18 (ZA cZ20 (ZA eZ22 jjZ23))))))))) ?_
             refine ZW (ZA cZ2 (ZA hkZ4a (ZA hkZ4b (ZA hyZ5 (ZA cZ7 (ZA cZ16 (ZA cZ18 (ZA cZ20 (ZA eZ22 jjZ23))))))))) (w_ak _ _ hrZ24) (h2:=by first | exact nm_ok [1000000000,1000000001] rfl (by decide +kernel) | exact nm_ok2 [1000000000,1000000001] [] rfl (by decide +kernel) ZQ | exact ZQ) (hk:=?_)
             refine ZG ?_
             cases h
             exact ZL (ZA cZ2 (ZA hkZ4a (ZA hkZ4b (ZA hyZ5 (ZA cZ7 (ZA cZ16 (ZA cZ18 (ZA cZ20 (ZA eZ22 jjZ23))))))))) (ZA hlZ21.symm jjZ23)
           · obtain ⟨cZ25,h⟩ | ⟨cZ25,h⟩:=cond_s h
             · obtain ⟨lZ26,hlZ26,h⟩:=bnd_s h
               have eZ27:Row.arr 1 [(.i (-1):AV),(.i 9:AV),(.i 10:AV)]=Row.arr 1 (lZ26.map AV.i):=by rw [← hlZ26]; rfl
               have jjZ28:lZ26.length=3:=by rw [← hlZ26]; rfl
               obtain ⟨rZ29,hrZ29,h⟩:=bind_s h
               refine ZF (ZA cZ2 (ZA hkZ4a (ZA hkZ4b (ZA hyZ5 (ZA cZ7 (ZA cZ16 (ZA cZ18 (ZA cZ20 (ZA cZ25 (ZA eZ27 jjZ28)))))))))) ?_
               refine ZW (ZA cZ2 (ZA hkZ4a (ZA hkZ4b (ZA hyZ5 (ZA cZ7 (ZA cZ16 (ZA cZ18 (ZA cZ20 (ZA cZ25 (ZA eZ27 jjZ28)))))))))) (w_ak _ _ hrZ29) (h2:=by first | exact nm_ok [1000000000,1000000001] rfl (by decide +kernel) | exact nm_ok2 [1000000000,1000000001] [] rfl (by decide +kernel) ZQ | exact ZQ) (hk:=?_)
               refine ZG ?_
               cases h
               exact ZL (ZA cZ2 (ZA hkZ4a (ZA hkZ4b (ZA hyZ5 (ZA cZ7 (ZA cZ16 (ZA cZ18 (ZA cZ20 (ZA cZ25 (ZA eZ27 jjZ28)))))))))) (ZA hlZ26.symm jjZ28)
             · obtain ⟨cZ30,h⟩ | ⟨cZ30,h⟩:=cond_s h
               · obtain ⟨kZ31,hkZ31,h⟩:=bind_s h
                 obtain ⟨hkZ31a,hkZ31b⟩:=grd_s hkZ31
                 obtain ⟨yZ32,hyZ32,h⟩:=bind_s h
                 obtain ⟨lZ33,hlZ33,h⟩:=bnd_s h
                 have eZ34:Row.arr 4 [(.agg [.i yZ32.A,.i yZ32.B,.i yZ32.Length,.i yZ32.Risk]:AV)]=Row.arr 4 (lZ33.map (e_TFiber .u)):=by rw [← hlZ33]; rfl
                 have jjZ35:lZ33.length=1:=by rw [← hlZ33]; rfl
                 obtain ⟨uZ36,huZ36,h⟩:=bind_s h
                 have huZ36g:=grd_s huZ36
                 obtain ⟨lZ37,hlZ37,h⟩:=bnd_s h
                 have eZ38:rZ1.2.2.2.1.map (e_TFiber .u)++lZ33.map (e_TFiber .u)=lZ37.map (e_TFiber .u):=by rw [← hlZ37,List.map_append]
                 have eZ39:rZ1.2.2.2.1.length+1=lZ37.length:=by simp [← hlZ33,← hlZ37] <;> omega
                 rw [eZ39] at huZ36g
                 cases h
                 exact ZL (ZA cZ2 (ZA hkZ4a (ZA hkZ4b (ZA hyZ5 (ZA cZ7 (ZA cZ16 (ZA cZ18 (ZA cZ20 (ZA cZ25 (ZA cZ30 (ZA hkZ31a (ZA hkZ31b (ZA hyZ32 (ZA eZ34 (ZA jjZ35 (ZA huZ36g (ZA eZ38 eZ39))))))))))))))))) (ZA hlZ33.symm (ZA hlZ37.symm jjZ35))
               · obtain ⟨cZ40,h⟩ | ⟨cZ40,h⟩:=cond_s h
                 · obtain ⟨oZ53,hoZ53,h⟩:=bind_s h
                   try refine ZF (ZA cZ2 (ZA hkZ4a (ZA hkZ4b (ZA hyZ5 (ZA cZ7 (ZA cZ16 (ZA cZ18 (ZA cZ20 (ZA cZ25 (ZA cZ30 cZ40)))))))))) ?_
                   refine join_rule0 (blk_rule0 (loop_rule (w_al rZ1) hoZ53 ?_)) ?_
                   · exact ZK (ZA S_al.eq_1 SX_al.eq_1)
                   · simp only [ZC,SX_al,A145M1R2]
                     cases h
                     exact ZL (ZA cZ2 (ZA hkZ4a (ZA hkZ4b (ZA hyZ5 (ZA cZ7 (ZA cZ16 (ZA cZ18 (ZA cZ20 (ZA cZ25 (ZA cZ30 cZ40)))))))))) V145M1.eq_1
                 · obtain ⟨cZ54,h⟩ | ⟨cZ54,h⟩:=cond_s h
                   · obtain ⟨lZ55,hlZ55,h⟩:=bnd_s h
                     have eZ56:Row.arr 1 [(.z (⟨#[112]⟩:ByteArray):AV),(.z (⟨#[113]⟩:ByteArray):AV),(.z (⟨#[114]⟩:ByteArray):AV),(.z (⟨#[115]⟩:ByteArray):AV)]=Row.arr 1 (lZ55.map AV.z):=by rw [← hlZ55]; rfl
                     have jjZ57:lZ55.length=4:=by rw [← hlZ55]; rfl
                     obtain ⟨lZ58,hlZ58,h⟩:=bnd_s h
                     have eZ59:sub (rZ1.2.2.1.map AV.z) rZ1.1 rZ1.2.1=lZ58.map AV.z:=by rw [sub_mapT,hlZ58]
                     obtain ⟨uZ60,huZ60,h⟩:=bind_s h
                     have huZ60g:=grd_s huZ60
                     obtain ⟨lZ61,hlZ61,h⟩:=bnd_s h
                     have eZ62:lZ58.map AV.z++lZ55.map AV.z=lZ61.map AV.z:=by rw [← hlZ61,List.map_append]
                     cases h
                     exact ZL (ZA cZ2 (ZA hkZ4a (ZA hkZ4b (ZA hyZ5 (ZA cZ7 (ZA cZ16 (ZA cZ18 (ZA cZ20 (ZA cZ25 (ZA cZ30 (ZA cZ40 (ZA cZ54 (ZA eZ56 (ZA jjZ57 (ZA eZ59 (ZA huZ60g eZ62)))))))))))))))) (ZA hlZ55.symm jjZ57)
                   · cases h
                     exact ZL (ZA cZ2 (ZA hkZ4a (ZA hkZ4b (ZA hyZ5 (ZA cZ7 (ZA cZ16 (ZA cZ18 (ZA cZ20 (ZA cZ25 (ZA cZ30 (ZA cZ40 cZ54))))))))))) trivial
   · subst hv
     simp only [] at h
     simp only [ZC,A145M1R3]
     obtain ⟨kZ66,hkZ66,h⟩:=bind_s h
     obtain ⟨hkZ66a,hkZ66b⟩:=grd_s hkZ66
     obtain ⟨yZ67,hyZ67,h⟩:=bind_s h
     obtain ⟨lZ68,hlZ68,h⟩:=bnd_s h
     have eZ69:(vZ64.2.2.2.2.1.map (e_TFiber .u)).set (Int.toNat rZ3.1) (.agg [.i ((vZ64.2.2.1).A),.i ((vZ64.2.2.1).B),.i ((vZ64.2.2.1).Length),.i ((vZ64.2.2.1).Risk)])=lZ68.map (e_TFiber .u):=by rw [← hlZ68,List.map_set]; rfl
     cases h
     exact ZL (ZA cZ2 (ZA hkZ4a (ZA hkZ4b (ZA hyZ5 (ZA hkZ66a (ZA hkZ66b (ZA hyZ67 eZ69))))))) (ZA V145M1.eq_1 hlZ68.symm)
   · subst hv
     simp only [] at h
     obtain ⟨rfl,qZ70⟩:=hq
     cases h
     exact qZ70
theorem w_cp (aaZ0:Tl1Cur) {r:Nat×Nat×Nat×Nat×List ByteArray×List TFiber×Tl1Cur} (h:M_cp aaZ0=some r):OkM Try.prog 132 [.pt 1000000000 0 0] [(1000000000,.var (.agg [.lst .o 1 (((aaZ0).code).map AV.u8),.i ((aaZ0).atF),.sc (.int .u64 ((aaZ0).seed))]))] ((fun (r:Nat×Nat×Nat×Nat×List ByteArray×List TFiber×Tl1Cur)=>.agg [.sl 500600128 r.1 r.2.1,.sl 500600129 r.2.2.1 r.2.2.2.1]) r) ((fun (r:Nat×Nat×Nat×Nat×List ByteArray×List TFiber×Tl1Cur)=>[(500600128,.arr 1 (r.2.2.2.2.1.map AV.z)),(500600129,.arr 4 (r.2.2.2.2.2.1.map (e_TFiber .u))),(1000000000,.var (.agg [.lst .o 1 (((r.2.2.2.2.2.2).code).map AV.u8),.i ((r.2.2.2.2.2.2).atF),.sc (.int .u64 ((r.2.2.2.2.2.2).seed))]))]) r):=by
 refine okM_of_body (lr:=[500600128,500600129,1000000000]) hmix m132M1 rfl rfl ?_
 unfold M_cp at h
 simp only [ZC,A132M1,V132M1]
 obtain ⟨rZ1,hrZ1,h⟩:=bind_s h
 refine ZF trivial ?_
 refine ZW trivial (w_cz _ hrZ1) (h2:=by first | exact nm_ok [500000128,500000129,1000000000] rfl (by decide +kernel) | exact nm_ok2 [500000128,500000129,1000000000] [500600128,500600129] rfl (by decide +kernel) ZQ | exact ZQ) (hk:=?_)
 refine ZG ?_
 obtain ⟨cZ2,h⟩ | ⟨cZ2,h⟩:=cond_s h
 · obtain ⟨uZ3,huZ3,h⟩:=bind_s h
   obtain ⟨huZ3a,huZ3b,huZ3c,huZ3d⟩:=grd_s huZ3
   cases h
   exact ZL (ZA cZ2 (ZA huZ3a (ZA huZ3b (ZA huZ3c huZ3d)))) V132M1.eq_1
 · cases h
   exact ZL cZ2 V132M1.eq_1
theorem w_c (xZ0:Int) (aZ0:Int) (bZ0:Int) {r:Bool} (h:M_c xZ0 aZ0 bZ0=some r):Ok Try.prog 72 [.i xZ0,.i aZ0,.i bZ0] ((fun r=>.b r) r):=by
 refine ok_of_body hmix m72 rfl ?_
 unfold M_c at h
 simp only [ZC,A72,V72,body_eq]
 obtain ⟨cZ1,h⟩ | ⟨cZ1,h⟩:=cond_s h
 · cases h
   exact ZL cZ1 V72.eq_1
 · cases h
   exact ZL cZ1 V72.eq_1
theorem w_da (bZ0:Int) {r:Bool} (h:M_da bZ0=some r):Ok Try.prog 144 [.sc (.int .u8 bZ0)] ((fun r=>.b r) r):=by
 refine ok_of_body hmix m144 rfl ?_
 unfold M_da at h
 simp only [ZC,A144,V144,body_eq]
 obtain ⟨cZ1,h⟩ | ⟨cZ1,h⟩:=cond_s h
 · obtain ⟨cZ2,h⟩ | ⟨cZ2,h⟩:=cond_s h
   · cases h
     exact ZL (ZA cZ1 cZ2) V144.eq_1
   · obtain ⟨cZ3,h⟩ | ⟨cZ3,h⟩:=cond_s h
     · cases h
       exact ZL (ZA cZ1 (ZA cZ2 cZ3)) V144.eq_1
     · cases h
       exact ZL (ZA cZ1 (ZA cZ2 cZ3)) V144.eq_1
 · obtain ⟨cZ4,h⟩ | ⟨cZ4,h⟩:=cond_s h
   · cases h
     exact ZL (ZA cZ1 cZ4) V144.eq_1
   · cases h
     exact ZL (ZA cZ1 cZ4) V144.eq_1
def S_am (sZ0:ByteArray) (v:Int):St:=⟨[(0,.z sZ0),(3,.i v)],[]⟩
def SX_am (v:Unit):St:=⟨[],[]⟩
theorem w_am (sZ0:ByteArray) (sZ7:Int) (o:Int ⊕ (Unit ⊕ Bool)) (h:M_am sZ0 sZ7=some o):AWP (OkS Try.prog) A127L2 (qL [0,3] [] (S_am sZ0) (qS (qX 0 [] [] (SX_am)) (qR V127 (fun r=>.b r))) o) (S_am sZ0 sZ7):=by
 unfold M_am at h
 simp only [ZC,S_am,A127L2]
 obtain ⟨cZ8,h⟩ | ⟨cZ8,h⟩:=cond_s h
 · obtain ⟨yZ9,hyZ9,h⟩:=bind_s h
   obtain ⟨hyZ9a,hyZ9b⟩:=getz_s hyZ9
   obtain ⟨rZ10,hrZ10,h⟩:=bind_s h
   refine ZF (ZA cZ8 (ZA hyZ9a hyZ9b)) ?_
   refine ZS (ZA cZ8 (ZA hyZ9a hyZ9b)) (w_da _ hrZ10) ?_
   refine ZG ?_
   obtain ⟨cZ11,h⟩ | ⟨cZ11,h⟩:=cond_s h
   · cases h
     exact ZL (ZA cZ8 (ZA hyZ9a (ZA hyZ9b cZ11))) V127.eq_1
   · cases h
     exact ZL (ZA cZ8 (ZA hyZ9a (ZA hyZ9b cZ11))) (ZA S_am.eq_1 SX_am.eq_1)
 · cases h
   exact ZL cZ8 (ZA S_am.eq_1 SX_am.eq_1)
theorem w_db (sZ0:ByteArray) {r:Bool} (h:M_db sZ0=some r):Ok Try.prog 127 [.z sZ0] ((fun r=>.b r) r):=by
 refine ok_of_body hmix m127 rfl ?_
 unfold M_db at h
 simp only [ZC,A127,V127,body_eq]
 obtain ⟨oZ5,hoZ5,h⟩:=bind_s h
 try refine ZF trivial ?_
 refine join_rule0 (sh:=(fun v=>⟨[(0,.z sZ0),(17,.b v)],[]⟩)) (s:=oZ5) ?_ ?_
 · replace h:=hoZ5
   obtain ⟨rZ1,hrZ1,h⟩:=bind_s h
   refine ZF trivial ?_
   refine ZS trivial (w_c _ _ _ hrZ1) ?_
   refine ZG ?_
   obtain ⟨cZ2,h⟩ | ⟨cZ2,h⟩:=cond_s h
   · cases h
     exact ZL cZ2 trivial
   · obtain ⟨yZ3,hyZ3,h⟩:=bind_s h
     obtain ⟨hyZ3a,hyZ3b⟩:=getz_s hyZ3
     obtain ⟨cZ4,h⟩ | ⟨cZ4,h⟩:=cond_s h
     · cases h
       exact ZL (ZA cZ2 (ZA hyZ3a (ZA hyZ3b cZ4))) trivial
     · cases h
       exact ZL (ZA cZ2 (ZA hyZ3a (ZA hyZ3b cZ4))) trivial
 · simp only [ZC,A127R1]
   obtain ⟨cZ6,h⟩ | ⟨cZ6,h⟩:=cond_s h
   · cases h
     exact ZL cZ6 V127.eq_1
   · obtain ⟨oZ12,hoZ12,h⟩:=bind_s h
     try refine ZF cZ6 ?_
     refine join_rule (o:=oZ12) (blk_rule sideR (loop_rule (w_am sZ0) hoZ12 ?_)) (fun vZ13 hv=>?_) (fun xZ14 hv e τ hne hq=>?_)
     · exact ZK (ZA S_am.eq_1 SX_am.eq_1)
     · subst hv
       simp only [] at h
       simp only [ZC,SX_am,A127R3]
       cases h
       exact ZL cZ6 V127.eq_1
     · subst hv
       simp only [] at h
       obtain ⟨rfl,qZ15⟩:=hq
       cases h
       exact qZ15
def S_an (listZ0:List ByteArray) (nameZ0:ByteArray) (v:Int):St:=⟨[(0,.lst .o 1 (listZ0.map AV.z)),(1,.z nameZ0),(5,.i v)],[]⟩
def SX_an (v:Unit):St:=⟨[],[]⟩
theorem w_an (listZ0:List ByteArray) (nameZ0:ByteArray) (sZ1:Int) (o:Int ⊕ (Unit ⊕ Int)) (h:M_an listZ0 nameZ0 sZ1=some o):AWP (OkS Try.prog) A128L1 (qL [0,1,5] [] (S_an listZ0 nameZ0) (qS (qX 0 [] [] (SX_an)) (qR V128 (fun r=>.i r))) o) (S_an listZ0 nameZ0 sZ1):=by
 unfold M_an at h
 simp only [ZC,S_an,A128L1]
 obtain ⟨cZ2,h⟩ | ⟨cZ2,h⟩:=cond_s h
 · obtain ⟨yZ3,hyZ3,h⟩:=bind_s h
   obtain ⟨hyZ3a,hyZ3b⟩:=geti_s hyZ3
   obtain ⟨cZ4,h⟩ | ⟨cZ4,h⟩:=cond_s h
   · cases h
     exact ZL (ZA cZ2 (ZA hyZ3a (ZA hyZ3b cZ4))) V128.eq_1
   · cases h
     exact ZL (ZA cZ2 (ZA hyZ3a (ZA hyZ3b cZ4))) (ZA S_an.eq_1 SX_an.eq_1)
 · cases h
   exact ZL cZ2 (ZA S_an.eq_1 SX_an.eq_1)
theorem w_dc (listZ0:List ByteArray) (nameZ0:ByteArray) {r:Int} (h:M_dc listZ0 nameZ0=some r):Ok Try.prog 128 [.lst .o 1 (listZ0.map AV.z),.z nameZ0] ((fun r=>.i r) r):=by
 refine ok_of_body hmix m128 rfl ?_
 unfold M_dc at h
 simp only [ZC,A128,V128,body_eq]
 obtain ⟨oZ5,hoZ5,h⟩:=bind_s h
 try refine ZF trivial ?_
 refine join_rule (o:=oZ5) (blk_rule sideR (loop_rule (w_an listZ0 nameZ0) hoZ5 ?_)) (fun vZ6 hv=>?_) (fun xZ7 hv e τ hne hq=>?_)
 · exact ZK (ZA S_an.eq_1 SX_an.eq_1)
 · subst hv
   simp only [] at h
   simp only [ZC,SX_an,A128R2]
   cases h
   exact ZL trivial V128.eq_1
 · subst hv
   simp only [] at h
   obtain ⟨rfl,qZ8⟩:=hq
   cases h
   exact qZ8
theorem w_dd (fZ0:TFiber) (nodesZ0:Int) {r:Bool} (h:M_dd fZ0 nodesZ0=some r):Ok Try.prog 129 [.agg [.i fZ0.A,.i fZ0.B,.i fZ0.Length,.i fZ0.Risk],.i nodesZ0] ((fun r=>.b r) r):=by
 refine ok_of_body hmix m129 rfl ?_
 unfold M_dd at h
 simp only [ZC,A129,V129,body_eq]
 obtain ⟨rZ1,hrZ1,h⟩:=bind_s h
 refine ZF trivial ?_
 refine ZS trivial (w_c _ _ _ hrZ1) ?_
 refine ZG ?_
 obtain ⟨cZ2,h⟩ | ⟨cZ2,h⟩:=cond_s h
 · obtain ⟨rZ3,hrZ3,h⟩:=bind_s h
   refine ZF cZ2 ?_
   refine ZS cZ2 (w_c _ _ _ hrZ3) ?_
   refine ZG ?_
   obtain ⟨cZ4,h⟩ | ⟨cZ4,h⟩:=cond_s h
   · obtain ⟨rZ5,hrZ5,h⟩:=bind_s h
     refine ZF (ZA cZ2 cZ4) ?_
     refine ZS (ZA cZ2 cZ4) (w_c _ _ _ hrZ5) ?_
     refine ZG ?_
     obtain ⟨cZ6,h⟩ | ⟨cZ6,h⟩:=cond_s h
     · obtain ⟨rZ7,hrZ7,h⟩:=bind_s h
       refine ZF (ZA cZ2 (ZA cZ4 cZ6)) ?_
       refine ZS (ZA cZ2 (ZA cZ4 cZ6)) (w_c _ _ _ hrZ7) ?_
       refine ZG ?_
       cases h
       exact ZL (ZA cZ2 (ZA cZ4 cZ6)) V129.eq_1
     · cases h
       exact ZL (ZA cZ2 (ZA cZ4 cZ6)) V129.eq_1
   · cases h
     exact ZL (ZA cZ2 cZ4) V129.eq_1
 · cases h
   exact ZL cZ2 V129.eq_1
def S_ao (nZ0:TNetwork) (v:Int):St:=⟨[(1,.pt 1 0 0),(3,.i v)],[(1,.var (.agg [.lst .o 1 (nZ0.Nodes.map AV.z),.lst .o 4 (nZ0.Fibers.map (e_TFiber .o))]))]⟩
def SX_ao (nZ0:TNetwork) (v:Unit):St:=⟨[(1,.pt 1 0 0)],[(1,.var (.agg [.lst .o 1 (nZ0.Nodes.map AV.z),.lst .o 4 (nZ0.Fibers.map (e_TFiber .o))]))]⟩
theorem w_ao (nZ0:TNetwork) (sZ5:Int) (o:Int ⊕ (Unit ⊕ Bool)) (h:M_ao nZ0 sZ5=some o):AWP (OkS Try.prog) A98L3 (qL [1,3] [1] (S_ao nZ0) (qS (qX 0 [1] [1] (SX_ao nZ0)) (qR V98 (fun r=>.b r))) o) (S_ao nZ0 sZ5):=by
 unfold M_ao at h
 simp only [ZC,S_ao,A98L3]
 obtain ⟨cZ6,h⟩ | ⟨cZ6,h⟩:=cond_s h
 · obtain ⟨oZ11,hoZ11,h⟩:=bind_s h
   try refine ZF cZ6 ?_
   refine join_rule0 (sh:=(fun v=>⟨[(1,.pt 1 0 0),(3,.i sZ5),(41,.b v)],[(1,.var (.agg [.lst .o 1 (nZ0.Nodes.map AV.z),.lst .o 4 (nZ0.Fibers.map (e_TFiber .o))]))]⟩)) (s:=oZ11) ?_ ?_
   · replace h:=hoZ11
     obtain ⟨yZ7,hyZ7,h⟩:=bind_s h
     obtain ⟨hyZ7a,hyZ7b⟩:=geti_s hyZ7
     obtain ⟨rZ8,hrZ8,h⟩:=bind_s h
     refine ZF (ZA cZ6 (ZA hyZ7a hyZ7b)) ?_
     refine ZS (ZA cZ6 (ZA hyZ7a hyZ7b)) (w_db _ hrZ8) ?_
     refine ZG ?_
     obtain ⟨cZ9,h⟩ | ⟨cZ9,h⟩:=cond_s h
     · cases h
       exact ZL (ZA cZ6 (ZA hyZ7a (ZA hyZ7b cZ9))) trivial
     · obtain ⟨rZ10,hrZ10,h⟩:=bind_s h
       refine ZF (ZA cZ6 (ZA hyZ7a (ZA hyZ7b cZ9))) ?_
       refine ZS (ZA cZ6 (ZA hyZ7a (ZA hyZ7b cZ9))) (w_dc _ _ hrZ10) ?_
       refine ZG ?_
       cases h
       exact ZL (ZA cZ6 (ZA hyZ7a (ZA hyZ7b cZ9))) trivial
   · simp only [ZC,A98R2]
     obtain ⟨cZ12,h⟩ | ⟨cZ12,h⟩:=cond_s h
     · cases h
       exact ZL (ZA cZ6 cZ12) V98.eq_1
     · cases h
       exact ZL (ZA cZ6 cZ12) (ZA S_ao.eq_1 SX_ao.eq_1)
 · cases h
   exact ZL cZ6 (ZA S_ao.eq_1 SX_ao.eq_1)
def S_ap (nZ0:TNetwork) (v:Int):St:=⟨[(1,.pt 1 0 0),(4,.i v)],[(1,.var (.agg [.lst .o 1 (nZ0.Nodes.map AV.z),.lst .o 4 (nZ0.Fibers.map (e_TFiber .o))]))]⟩
def SX_ap (v:Unit):St:=⟨[],[]⟩
theorem w_ap (nZ0:TNetwork) (sZ16:Int) (o:Int ⊕ (Unit ⊕ Bool)) (h:M_ap nZ0 sZ16=some o):AWP (OkS Try.prog) A98L6 (qL [1,4] [1] (S_ap nZ0) (qS (qX 2 [] [] (SX_ap)) (qR V98 (fun r=>.b r))) o) (S_ap nZ0 sZ16):=by
 unfold M_ap at h
 simp only [ZC,S_ap,A98L6]
 obtain ⟨cZ17,h⟩ | ⟨cZ17,h⟩:=cond_s h
 · obtain ⟨oZ24,hoZ24,h⟩:=bind_s h
   try refine ZF cZ17 ?_
   refine join_rule0 (sh:=(fun v=>⟨[(1,.pt 1 0 0),(4,.i sZ16),(77,.b v)],[(1,.var (.agg [.lst .o 1 (nZ0.Nodes.map AV.z),.lst .o 4 (nZ0.Fibers.map (e_TFiber .o))]))]⟩)) (s:=oZ24) ?_ ?_
   · replace h:=hoZ24
     obtain ⟨yZ18,hyZ18,h⟩:=bind_s h
     obtain ⟨hyZ18a,hyZ18b⟩:=geti_s hyZ18
     obtain ⟨rZ19,hrZ19,h⟩:=bind_s h
     refine ZF (ZA cZ17 (ZA hyZ18a hyZ18b)) ?_
     refine ZS (ZA cZ17 (ZA hyZ18a hyZ18b)) (w_dd _ _ hrZ19) ?_
     refine ZG ?_
     obtain ⟨cZ20,h⟩ | ⟨cZ20,h⟩:=cond_s h
     · cases h
       exact ZL (ZA cZ17 (ZA hyZ18a (ZA hyZ18b cZ20))) trivial
     · obtain ⟨cZ21,h⟩ | ⟨cZ21,h⟩:=cond_s h
       · obtain ⟨yZ22,hyZ22,h⟩:=bind_s h
         obtain ⟨hyZ22a,hyZ22b⟩:=geti_s hyZ22
         obtain ⟨rZ23,hrZ23,h⟩:=bind_s h
         refine ZF (ZA cZ17 (ZA hyZ18a (ZA hyZ18b (ZA cZ20 (ZA cZ21 (ZA hyZ22a hyZ22b)))))) ?_
         refine ZS (ZA cZ17 (ZA hyZ18a (ZA hyZ18b (ZA cZ20 (ZA cZ21 (ZA hyZ22a hyZ22b)))))) (w_bk _ _ hrZ23) ?_
         refine ZG ?_
         cases h
         exact ZL (ZA cZ17 (ZA hyZ18a (ZA hyZ18b (ZA cZ20 (ZA cZ21 (ZA hyZ22a hyZ22b)))))) trivial
       · cases h
         exact ZL (ZA cZ17 (ZA hyZ18a (ZA hyZ18b (ZA cZ20 cZ21)))) trivial
   · simp only [ZC,A98R5]
     obtain ⟨cZ25,h⟩ | ⟨cZ25,h⟩:=cond_s h
     · cases h
       exact ZL (ZA cZ17 cZ25) V98.eq_1
     · cases h
       exact ZL (ZA cZ17 cZ25) (ZA S_ap.eq_1 SX_ap.eq_1)
 · cases h
   exact ZL cZ17 (ZA S_ap.eq_1 SX_ap.eq_1)
theorem w_bl (nZ0:TNetwork) {r:Bool} (h:M_bl nZ0=some r):Ok Try.prog 98 [.agg [.lst .o 1 (nZ0.Nodes.map AV.z),.lst .o 4 (nZ0.Fibers.map (e_TFiber .o))]] ((fun r=>.b r) r):=by
 refine ok_of_body hmix m98 rfl ?_
 unfold M_bl at h
 simp only [ZC,A98,V98,body_eq]
 obtain ⟨oZ3,hoZ3,h⟩:=bind_s h
 try refine ZF trivial ?_
 refine join_rule0 (sh:=(fun v=>⟨[(1,.pt 1 0 0),(15,.b v)],[(1,.var (.agg [.lst .o 1 (nZ0.Nodes.map AV.z),.lst .o 4 (nZ0.Fibers.map (e_TFiber .o))]))]⟩)) (s:=oZ3) ?_ ?_
 · replace h:=hoZ3
   obtain ⟨rZ1,hrZ1,h⟩:=bind_s h
   refine ZF trivial ?_
   refine ZS trivial (w_c _ _ _ hrZ1) ?_
   refine ZG ?_
   obtain ⟨cZ2,h⟩ | ⟨cZ2,h⟩:=cond_s h
   · cases h
     exact ZL cZ2 trivial
   · cases h
     exact ZL cZ2 trivial
 · simp only [ZC,A98R1]
   obtain ⟨cZ4,h⟩ | ⟨cZ4,h⟩:=cond_s h
   · cases h
     exact ZL cZ4 V98.eq_1
   · obtain ⟨oZ13,hoZ13,h⟩:=bind_s h
     try refine ZF cZ4 ?_
     refine join_rule (o:=oZ13) (blk_rule sideR (loop_rule (w_ao nZ0) hoZ13 ?_)) (fun vZ14 hv=>?_) (fun xZ15 hv e τ hne hq=>?_)
     · exact ZK (ZA S_ao.eq_1 SX_ao.eq_1)
     · subst hv
       simp only [] at h
       simp only [ZC,SX_ao,A98R4]
       obtain ⟨oZ26,hoZ26,h⟩:=bind_s h
       try refine ZF cZ4 ?_
       refine join_rule (o:=oZ26) (blk_rule sideR (loop_rule (w_ap nZ0) hoZ26 ?_)) (fun vZ27 hv=>?_) (fun xZ28 hv e τ hne hq=>?_)
       · exact ZK (ZA S_ap.eq_1 SX_ap.eq_1)
       · subst hv
         simp only [] at h
         simp only [ZC,SX_ap,A98R7]
         cases h
         exact ZL cZ4 V98.eq_1
       · subst hv
         simp only [] at h
         obtain ⟨rfl,qZ29⟩:=hq
         cases h
         exact qZ29
     · subst hv
       simp only [] at h
       obtain ⟨rfl,qZ30⟩:=hq
       cases h
       exact qZ30
def S_s (nZ0:TNetwork) (fiberZ0:Int) (v:Int×List Int):St:=⟨[(1,.i fiberZ0),(2,.pt 2 0 0),(5,.sl 5 0 v.2.length),(6,.i v.1)],[(2,.var (.agg [.lst .o 1 (nZ0.Nodes.map AV.z),.lst .o 4 (nZ0.Fibers.map (e_TFiber .o))])),(5,.arr 1 (v.2.map AV.i))]⟩
def SX_s (v:List Int):St:=⟨[(5,.sl 5 0 v.length)],[(5,.arr 1 (v.map AV.i))]⟩
theorem w_s (nZ0:TNetwork) (fiberZ0:Int) (sZ7:Int×List Int) (o:(Int×List Int) ⊕ (List Int)) (h:M_s nZ0 fiberZ0 sZ7=some o):AWP (OkS Try.prog) A124L1 (qL [1,2,5,6] [2,5] (S_s nZ0 fiberZ0) (qX 0 [5] [5] (SX_s)) o) (S_s nZ0 fiberZ0 sZ7):=by
 unfold M_s at h
 simp only [ZC,S_s,A124L1]
 obtain ⟨cZ8,h⟩ | ⟨cZ8,h⟩:=cond_s h
 · obtain ⟨yZ9,hyZ9,h⟩:=bind_s h
   obtain ⟨hyZ9a,hyZ9b⟩:=geti_s hyZ9
   obtain ⟨yZ10,hyZ10,h⟩:=bind_s h
   obtain ⟨hyZ10a,hyZ10b⟩:=geti_s hyZ10
   obtain ⟨cZ11,h⟩ | ⟨cZ11,h⟩:=cond_s h
   · obtain ⟨lZ12,hlZ12,h⟩:=bnd_s h
     have eZ13:Row.arr 1 [(.i sZ7.1:AV)]=Row.arr 1 (lZ12.map AV.i):=by rw [← hlZ12]; rfl
     have jjZ14:lZ12.length=1:=by rw [← hlZ12]; rfl
     obtain ⟨uZ15,huZ15,h⟩:=bind_s h
     have huZ15g:=grd_s huZ15
     obtain ⟨lZ16,hlZ16,h⟩:=bnd_s h
     have eZ17:sZ7.2.map AV.i++lZ12.map AV.i=lZ16.map AV.i:=by rw [← hlZ16,List.map_append]
     have eZ18:sZ7.2.length+1=lZ16.length:=by simp [← hlZ12,← hlZ16] <;> omega
     rw [eZ18] at huZ15g
     cases h
     exact ZL (ZA cZ8 (ZA hyZ9a (ZA hyZ9b (ZA hyZ10a (ZA hyZ10b (ZA cZ11 (ZA eZ13 (ZA jjZ14 (ZA huZ15g (ZA eZ17 eZ18)))))))))) (ZA S_s.eq_1 (ZA SX_s.eq_1 (ZA hlZ12.symm (ZA hlZ16.symm jjZ14))))
   · cases h
     exact ZL (ZA cZ8 (ZA hyZ9a (ZA hyZ9b (ZA hyZ10a (ZA hyZ10b cZ11))))) (ZA S_s.eq_1 SX_s.eq_1)
 · cases h
   exact ZL cZ8 (ZA S_s.eq_1 SX_s.eq_1)
theorem w_de (nZ0:TNetwork) (fiberZ0:Int) {r:List Int} (h:M_de nZ0 fiberZ0=some r):Ok Try.prog 124 [.agg [.lst .o 1 (nZ0.Nodes.map AV.z),.lst .o 4 (nZ0.Fibers.map (e_TFiber .o))],.i fiberZ0] ((fun r=>.lst .u 1 (r.map AV.i)) r):=by
 refine ok_of_body hmix m124 rfl ?_
 unfold M_de at h
 simp only [ZC,A124,V124,body_eq]
 obtain ⟨yZ1,hyZ1,h⟩:=bind_s h
 obtain ⟨hyZ1a,hyZ1b⟩:=geti_s hyZ1
 obtain ⟨cZ2,h⟩ | ⟨cZ2,h⟩:=cond_s h
 · obtain ⟨lZ3,hlZ3,h⟩:=bnd_s h
   have eZ4:Row.arr 1 [(.i fiberZ0:AV)]=Row.arr 1 (lZ3.map AV.i):=by rw [← hlZ3]; rfl
   have jjZ5:lZ3.length=1:=by rw [← hlZ3]; rfl
   have nZ6:sub (lZ3.map AV.i) 0 1=lZ3.map AV.i:=sub_n _ (by simp [← hlZ3])
   cases h
   exact ZL (ZA hyZ1a (ZA hyZ1b (ZA cZ2 (ZA eZ4 (ZA jjZ5 nZ6))))) (ZA V124.eq_1 (ZA hlZ3.symm jjZ5))
 · obtain ⟨oZ19,hoZ19,h⟩:=bind_s h
   try refine ZF (ZA hyZ1a (ZA hyZ1b cZ2)) ?_
   refine join_rule0 (blk_rule0 (loop_rule (w_s nZ0 fiberZ0) hoZ19 ?_)) ?_
   · exact ZK (ZA S_s.eq_1 SX_s.eq_1)
   · simp only [ZC,SX_s,A124R2]
     cases h
     exact ZL (ZA hyZ1a (ZA hyZ1b cZ2)) V124.eq_1
def S_d (nZ0:TNetwork) (sZ1:Int×List (List Int)) (v:Int):St:=⟨[(1,.pt 1 0 0),(3,.sl 3 0 sZ1.2.length),(4,.i sZ1.1),(5,.i v)],[(1,.var (.agg [.lst .o 1 (nZ0.Nodes.map AV.z),.lst .o 4 (nZ0.Fibers.map (e_TFiber .o))])),(3,.arr 1 (sZ1.2.map (e_Li .u)))]⟩
def SX_d (nZ0:TNetwork) (sZ1:Int×List (List Int)) (v:List (List Int)):St:=⟨[(1,.pt 1 0 0),(3,.sl 3 0 v.length),(4,.i sZ1.1)],[(1,.var (.agg [.lst .o 1 (nZ0.Nodes.map AV.z),.lst .o 4 (nZ0.Fibers.map (e_TFiber .o))])),(3,.arr 1 (v.map (e_Li .u)))]⟩
theorem w_d (nZ0:TNetwork) (sZ1:Int×List (List Int)) (sZ3:Int) (o:Int ⊕ (List (List Int))) (h:M_d nZ0 sZ1 sZ3=some o):AWP (OkS Try.prog) A92L1 (qL [1,3,4,5] [1,3] (S_d nZ0 sZ1) (qX 2 [1,3,4] [1,3] (SX_d nZ0 sZ1)) o) (S_d nZ0 sZ1 sZ3):=by
 unfold M_d at h
 simp only [ZC,S_d,A92L1]
 obtain ⟨cZ4,h⟩ | ⟨cZ4,h⟩:=cond_s h
 · obtain ⟨yZ5,hyZ5,h⟩:=bind_s h
   obtain ⟨hyZ5a,hyZ5b⟩:=geti_s hyZ5
   obtain ⟨cZ6,h⟩ | ⟨cZ6,h⟩:=cond_s h
   · obtain ⟨rZ7,hrZ7,h⟩:=bind_s h
     refine ZF (ZA cZ4 (ZA hyZ5a (ZA hyZ5b cZ6))) ?_
     refine ZU (ZA cZ4 (ZA hyZ5a (ZA hyZ5b cZ6))) (w_de _ _ hrZ7) ?_
     refine ZG ?_
     obtain ⟨lZ8,hlZ8,h⟩:=bnd_s h
     have eZ9:Row.arr 1 [(.lst .u 1 (rZ7.map AV.i):AV)]=Row.arr 1 (lZ8.map (e_Li .u)):=by rw [← hlZ8]; rfl
     have jjZ10:lZ8.length=1:=by rw [← hlZ8]; rfl
     obtain ⟨uZ11,huZ11,h⟩:=bind_s h
     have huZ11g:=grd_s huZ11
     obtain ⟨lZ12,hlZ12,h⟩:=bnd_s h
     have eZ13:sZ1.2.map (e_Li .u)++lZ8.map (e_Li .u)=lZ12.map (e_Li .u):=by rw [← hlZ12,List.map_append]
     have eZ14:sZ1.2.length+1=lZ12.length:=by simp [← hlZ8,← hlZ12] <;> omega
     rw [eZ14] at huZ11g
     cases h
     exact ZL (ZA cZ4 (ZA hyZ5a (ZA hyZ5b (ZA cZ6 (ZA eZ9 (ZA jjZ10 (ZA huZ11g (ZA eZ13 eZ14)))))))) (ZA S_d.eq_1 (ZA SX_d.eq_1 (ZA hlZ8.symm (ZA hlZ12.symm jjZ10))))
   · cases h
     exact ZL (ZA cZ4 (ZA hyZ5a (ZA hyZ5b cZ6))) (ZA S_d.eq_1 SX_d.eq_1)
 · cases h
   exact ZL cZ4 (ZA S_d.eq_1 SX_d.eq_1)
def S_aq (nZ0:TNetwork) (v:Int×List (List Int)):St:=⟨[(1,.pt 1 0 0),(3,.sl 3 0 v.2.length),(4,.i v.1)],[(1,.var (.agg [.lst .o 1 (nZ0.Nodes.map AV.z),.lst .o 4 (nZ0.Fibers.map (e_TFiber .o))])),(3,.arr 1 (v.2.map (e_Li .u)))]⟩
def SX_aq (nZ0:TNetwork) (v:List (List Int)):St:=⟨[(1,.pt 1 0 0),(3,.sl 3 0 v.length)],[(1,.var (.agg [.lst .o 1 (nZ0.Nodes.map AV.z),.lst .o 4 (nZ0.Fibers.map (e_TFiber .o))])),(3,.arr 1 (v.map (e_Li .u)))]⟩
theorem w_aq (nZ0:TNetwork) (sZ1:Int×List (List Int)) (o:(Int×List (List Int)) ⊕ (List (List Int))) (h:M_aq nZ0 sZ1=some o):AWP (OkS Try.prog) A92L3 (qL [1,3,4] [1,3] (S_aq nZ0) (qX 0 [1,3] [1,3] (SX_aq nZ0)) o) (S_aq nZ0 sZ1):=by
 unfold M_aq at h
 simp only [ZC,S_aq,A92L3]
 obtain ⟨cZ2,h⟩ | ⟨cZ2,h⟩:=cond_s h
 · obtain ⟨oZ17,hoZ17,h⟩:=bind_s h
   try refine ZF cZ2 ?_
   refine join_rule0 (sh:=(fun v=>⟨[(1,.pt 1 0 0),(3,.sl 3 0 v.length),(4,.i sZ1.1)],[(1,.var (.agg [.lst .o 1 (nZ0.Nodes.map AV.z),.lst .o 4 (nZ0.Fibers.map (e_TFiber .o))])),(3,.arr 1 (v.map (e_Li .u)))]⟩)) (s:=oZ17) ?_ ?_
   · replace h:=hoZ17
     obtain ⟨oZ15,hoZ15,h⟩:=bind_s h
     try refine ZF cZ2 ?_
     first | refine tail_rule0 (blk_rule0 (loop_rule (w_d nZ0 sZ1) hoZ15 ?_)) (fun τ qZ16=>?_) | refine tail_blk0 (loop_rule (w_d nZ0 sZ1) hoZ15 ?_) (fun τ qZ16=>?_)
     · exact ZK (ZA S_d.eq_1 SX_d.eq_1)
     · cases h
       try refine ZF trivial ?_
       refine ⟨rfl,Shp.sub qZ16 (by decide) (by decide) ?_⟩
       exact ZK SX_d.eq_1
   · simp only [ZC,A92R2]
     cases h
     exact ZL cZ2 (ZA S_aq.eq_1 SX_aq.eq_1)
 · cases h
   exact ZL cZ2 (ZA S_aq.eq_1 SX_aq.eq_1)
def S_t (nZ0:TNetwork) (v:Int×List (List Int)):St:=⟨[(1,.pt 1 0 0),(3,.sl 3 0 v.2.length),(6,.i v.1)],[(1,.var (.agg [.lst .o 1 (nZ0.Nodes.map AV.z),.lst .o 4 (nZ0.Fibers.map (e_TFiber .o))])),(3,.arr 1 (v.2.map (e_Li .u)))]⟩
def SX_t (v:List (List Int)):St:=⟨[(3,.sl 3 0 v.length)],[(3,.arr 1 (v.map (e_Li .u)))]⟩
theorem w_t (nZ0:TNetwork) (sZ19:Int×List (List Int)) (o:(Int×List (List Int)) ⊕ (List (List Int))) (h:M_t nZ0 sZ19=some o):AWP (OkS Try.prog) A92L5 (qL [1,3,6] [1,3] (S_t nZ0) (qX 4 [3] [3] (SX_t)) o) (S_t nZ0 sZ19):=by
 unfold M_t at h
 simp only [ZC,S_t,A92L5]
 obtain ⟨cZ20,h⟩ | ⟨cZ20,h⟩:=cond_s h
 · obtain ⟨yZ21,hyZ21,h⟩:=bind_s h
   obtain ⟨hyZ21a,hyZ21b⟩:=geti_s hyZ21
   obtain ⟨cZ22,h⟩ | ⟨cZ22,h⟩:=cond_s h
   · obtain ⟨lZ23,hlZ23,h⟩:=bnd_s h
     have eZ24:Row.arr 1 [(.i sZ19.1:AV)]=Row.arr 1 (lZ23.map AV.i):=by rw [← hlZ23]; rfl
     have jjZ25:lZ23.length=1:=by rw [← hlZ23]; rfl
     have nZ26:sub (lZ23.map AV.i) 0 1=lZ23.map AV.i:=sub_n _ (by simp [← hlZ23])
     obtain ⟨lZ27,hlZ27,h⟩:=bnd_s h
     have eZ28:Row.arr 1 [(.lst .u 1 (lZ23.map AV.i):AV)]=Row.arr 1 (lZ27.map (e_Li .u)):=by rw [← hlZ27]; rfl
     have jjZ29:lZ27.length=1:=by rw [← hlZ27]; rfl
     obtain ⟨uZ30,huZ30,h⟩:=bind_s h
     have huZ30g:=grd_s huZ30
     obtain ⟨lZ31,hlZ31,h⟩:=bnd_s h
     have eZ32:sZ19.2.map (e_Li .u)++lZ27.map (e_Li .u)=lZ31.map (e_Li .u):=by rw [← hlZ31,List.map_append]
     have eZ33:sZ19.2.length+1=lZ31.length:=by simp [← hlZ23,← hlZ27,← hlZ31] <;> omega
     rw [eZ33] at huZ30g
     cases h
     exact ZL (ZA cZ20 (ZA hyZ21a (ZA hyZ21b (ZA cZ22 (ZA eZ24 (ZA jjZ25 (ZA nZ26 (ZA eZ28 (ZA jjZ29 (ZA huZ30g (ZA eZ32 eZ33))))))))))) (ZA S_t.eq_1 (ZA SX_t.eq_1 (ZA hlZ23.symm (ZA hlZ27.symm (ZA hlZ31.symm (ZA jjZ25 jjZ29))))))
   · cases h
     exact ZL (ZA cZ20 (ZA hyZ21a (ZA hyZ21b cZ22))) (ZA S_t.eq_1 SX_t.eq_1)
 · cases h
   exact ZL cZ20 (ZA S_t.eq_1 SX_t.eq_1)
theorem w_bm (nZ0:TNetwork) {r:List (List Int)} (h:M_bm nZ0=some r):Ok Try.prog 92 [.agg [.lst .o 1 (nZ0.Nodes.map AV.z),.lst .o 4 (nZ0.Fibers.map (e_TFiber .o))]] ((fun r=>.lst .u 1 (r.map (e_Li .u))) r):=by
 refine ok_of_body hmix m92 rfl ?_
 unfold M_bm at h
 simp only [ZC,A92,V92,body_eq]
 obtain ⟨oZ18,hoZ18,h⟩:=bind_s h
 try refine ZF trivial ?_
 refine join_rule0 (blk_rule0 (loop_rule (w_aq nZ0) hoZ18 ?_)) ?_
 · exact ZK (ZA S_aq.eq_1 SX_aq.eq_1)
 · simp only [ZC,SX_aq,A92R4]
   obtain ⟨oZ34,hoZ34,h⟩:=bind_s h
   try refine ZF trivial ?_
   refine join_rule0 (blk_rule0 (loop_rule (w_t nZ0) hoZ34 ?_)) ?_
   · exact ZK (ZA S_t.eq_1 SX_t.eq_1)
   · simp only [ZC,SX_t,A92R6]
     cases h
     exact ZL trivial V92.eq_1
def S_ba (aaZ0:Nat) (abZ0:Nat) (acZ0:Nat) (adZ0:Nat) (afZ0:List ByteArray) (agZ0:List TFiber) (rZ4:Int×Tl1Cur×List Int) (v:Int×List Int×Tl1Cur):St:=⟨[(0,.pt 1000000000 0 0),(3,.pt 3 0 0),(4,.pt 4 0 0),(5,.pt 5 0 0),(6,.i v.1)],[(3,.var (.agg [.sl 1000000001 aaZ0 abZ0,.sl 1000000002 acZ0 adZ0])),(4,.var (.agg [.i 0,.lst .u 1 []])),(5,.var (.agg [.i rZ4.1,.sl 500000321 0 v.2.1.length])),(500000321,.arr 1 (v.2.1.map AV.i)),(1000000000,.var (.agg [.lst .o 1 (((v.2.2).code).map AV.u8),.i ((v.2.2).atF),.sc (.int .u64 ((v.2.2).seed))])),(1000000001,.arr 1 (afZ0.map AV.z)),(1000000002,.arr 4 (agZ0.map (e_TFiber .u)))]⟩
def SX_ba (afZ0:List ByteArray) (agZ0:List TFiber) (rZ4:Int×Tl1Cur×List Int) (v:List Int×Tl1Cur):St:=⟨[(0,.pt 1000000000 0 0),(4,.pt 4 0 0),(5,.pt 5 0 0)],[(4,.var (.agg [.i 0,.lst .u 1 []])),(5,.var (.agg [.i rZ4.1,.sl 500000321 0 v.1.length])),(500000321,.arr 1 (v.1.map AV.i)),(1000000000,.var (.agg [.lst .o 1 (((v.2).code).map AV.u8),.i ((v.2).atF),.sc (.int .u64 ((v.2).seed))])),(1000000001,.arr 1 (afZ0.map AV.z)),(1000000002,.arr 4 (agZ0.map (e_TFiber .u)))]⟩
theorem w_ba (aaZ0:Nat) (abZ0:Nat) (acZ0:Nat) (adZ0:Nat) (afZ0:List ByteArray) (agZ0:List TFiber) (rZ4:Int×Tl1Cur×List Int) (sZ5:Int×List Int×Tl1Cur) (o:(Int×List Int×Tl1Cur) ⊕ (List Int×Tl1Cur)) (h:M_ba aaZ0 abZ0 acZ0 adZ0 afZ0 agZ0 sZ5=some o):AWP (OkS Try.prog) A133M1L1 (qL [0,3,4,5,6] [3,4,5,500000321,1000000000,1000000001,1000000002] (S_ba aaZ0 abZ0 acZ0 adZ0 afZ0 agZ0 rZ4) (qX 0 [0,4,5] [4,5,500000321,1000000000,1000000001,1000000002] (SX_ba afZ0 agZ0 rZ4)) o) (S_ba aaZ0 abZ0 acZ0 adZ0 afZ0 agZ0 rZ4 sZ5):=by
 unfold M_ba at h
 simp only [ZC,S_ba,A133M1L1]
 obtain ⟨lZ6,hlZ6,h⟩:=bnd_s h
 have eZ7:sub (afZ0.map AV.z) aaZ0 abZ0=lZ6.map AV.z:=by rw [sub_mapT,hlZ6]
 obtain ⟨lZ8,hlZ8,h⟩:=bnd_s h
 have eZ9:sub (agZ0.map (e_TFiber .u)) acZ0 adZ0=lZ8.map (e_TFiber .u):=by rw [sub_mapT,hlZ8]
 obtain ⟨rZ10,hrZ10,h⟩:=bind_s h
 refine ZF (ZA eZ7 eZ9) ?_
 refine ZU (ZA eZ7 eZ9) (w_bm _ hrZ10) ?_
 refine ZG ?_
 obtain ⟨cZ11,h⟩ | ⟨cZ11,h⟩:=cond_s h
 · obtain ⟨lZ12,hlZ12,h⟩:=bnd_s h
   have eZ13:Row.arr 1 [(.i 0:AV),(.i 1:AV),(.i 1:AV),(.i 2:AV),(.i 1:AV),(.i 2:AV)]=Row.arr 1 (lZ12.map AV.i):=by rw [← hlZ12]; rfl
   have jjZ14:lZ12.length=6:=by rw [← hlZ12]; rfl
   obtain ⟨rZ15,hrZ15,h⟩:=bind_s h
   refine ZF (ZA eZ7 (ZA eZ9 (ZA cZ11 (ZA eZ13 jjZ14)))) ?_
   refine ZW (ZA eZ7 (ZA eZ9 (ZA cZ11 (ZA eZ13 jjZ14)))) (w_ak _ _ hrZ15) (h2:=by first | exact nm_ok [1000000000,1000000001] rfl (by decide +kernel) | exact nm_ok2 [1000000000,1000000001] [] rfl (by decide +kernel) ZQ | exact ZQ) (hk:=?_)
   refine ZG ?_
   obtain ⟨lZ16,hlZ16,h⟩:=bnd_s h
   have eZ17:Row.arr 1 [(.i rZ15.1:AV)]=Row.arr 1 (lZ16.map AV.i):=by rw [← hlZ16]; rfl
   have jjZ18:lZ16.length=1:=by rw [← hlZ16]; rfl
   obtain ⟨uZ19,huZ19,h⟩:=bind_s h
   have huZ19g:=grd_s huZ19
   obtain ⟨lZ20,hlZ20,h⟩:=bnd_s h
   have eZ21:sZ5.2.1.map AV.i++lZ16.map AV.i=lZ20.map AV.i:=by rw [← hlZ20,List.map_append]
   have eZ22:sZ5.2.1.length+1=lZ20.length:=by simp [← hlZ12,← hlZ16,← hlZ20] <;> omega
   rw [eZ22] at huZ19g
   cases h
   exact ZL (ZA eZ7 (ZA eZ9 (ZA cZ11 (ZA eZ13 (ZA jjZ14 (ZA eZ17 (ZA jjZ18 (ZA huZ19g (ZA eZ21 eZ22))))))))) (ZA S_ba.eq_1 (ZA SX_ba.eq_1 (ZA hlZ12.symm (ZA hlZ16.symm (ZA hlZ20.symm (ZA jjZ14 jjZ18))))))
 · cases h
   exact ZL (ZA eZ7 (ZA eZ9 cZ11)) (ZA S_ba.eq_1 SX_ba.eq_1)
theorem w_cq (aaZ0:Nat) (abZ0:Nat) (acZ0:Nat) (adZ0:Nat) (aeZ0:Tl1Cur) (afZ0:List ByteArray) (agZ0:List TFiber) {r:Int×List Int×Tl1Cur×List ByteArray×List TFiber} (h:M_cq aaZ0 abZ0 acZ0 adZ0 aeZ0 afZ0 agZ0=some r):OkM Try.prog 133 [.pt 1000000000 0 0,.agg [.sl 1000000001 aaZ0 abZ0,.sl 1000000002 acZ0 adZ0]] [(1000000000,.var (.agg [.lst .o 1 (((aeZ0).code).map AV.u8),.i ((aeZ0).atF),.sc (.int .u64 ((aeZ0).seed))])),(1000000001,.arr 1 (afZ0.map AV.z)),(1000000002,.arr 4 (agZ0.map (e_TFiber .u)))] ((fun (r:Int×List Int×Tl1Cur×List ByteArray×List TFiber)=>.agg [.i r.1,.sl 500000257 0 r.2.1.length]) r) ((fun (r:Int×List Int×Tl1Cur×List ByteArray×List TFiber)=>[(500000257,.arr 1 (r.2.1.map AV.i)),(1000000000,.var (.agg [.lst .o 1 (((r.2.2.1).code).map AV.u8),.i ((r.2.2.1).atF),.sc (.int .u64 ((r.2.2.1).seed))])),(1000000001,.arr 1 (r.2.2.2.1.map AV.z)),(1000000002,.arr 4 (r.2.2.2.2.map (e_TFiber .u)))]) r):=by
 refine okM_of_body (lr:=[500000257,1000000000,1000000001,1000000002]) hmix m133M1 rfl rfl ?_
 unfold M_cq at h
 simp only [ZC,A133M1,V133M1]
 obtain ⟨lZ1,hlZ1,h⟩:=bnd_s h
 have eZ2:Row.arr 1 [(.i 2:AV),(.i 4:AV),(.i 10:AV),(.i 10:AV),(.i 20:AV)]=Row.arr 1 (lZ1.map AV.i):=by rw [← hlZ1]; rfl
 have jjZ3:lZ1.length=5:=by rw [← hlZ1]; rfl
 obtain ⟨rZ4,hrZ4,h⟩:=bind_s h
 refine ZF (ZA eZ2 jjZ3) ?_
 refine ZW (ZA eZ2 jjZ3) (w_ak _ _ hrZ4) (h2:=by first | exact nm_ok [1000000000,1000000001] rfl (by decide +kernel) | exact nm_ok2 [1000000000,1000000001] [] rfl (by decide +kernel) ZQ | exact ZQ) (hk:=?_)
 refine ZG ?_
 obtain ⟨oZ23,hoZ23,h⟩:=bind_s h
 try refine ZF (ZA eZ2 jjZ3) ?_
 refine join_rule0 (blk_rule0 (loop_rule (w_ba aaZ0 abZ0 acZ0 adZ0 afZ0 agZ0 rZ4) hoZ23 ?_)) ?_
 · exact ZK (ZA S_ba.eq_1 (ZA SX_ba.eq_1 (ZA hlZ1.symm jjZ3)))
 · simp only [ZC,SX_ba,A133M1R2]
   obtain ⟨rZ24,hrZ24,h⟩:=bind_s h
   refine ZF (ZA eZ2 jjZ3) ?_
   refine ZW (ZA eZ2 jjZ3) (w_a _ _ hrZ24) (h2:=by first | exact nm_ok [1000000000] rfl (by decide +kernel) | exact nm_ok2 [1000000000] [] rfl (by decide +kernel) ZQ | exact ZQ) (hk:=?_)
   refine ZG ?_
   obtain ⟨cZ25,h⟩ | ⟨cZ25,h⟩:=cond_s h
   · obtain ⟨lZ26,hlZ26,h⟩:=bnd_s h
     have eZ27:Row.arr 1 [(.i 1:AV),(.i 21:AV)]=Row.arr 1 (lZ26.map AV.i):=by rw [← hlZ26]; rfl
     have jjZ28:lZ26.length=2:=by rw [← hlZ26]; rfl
     obtain ⟨rZ29,hrZ29,h⟩:=bind_s h
     refine ZF (ZA eZ2 (ZA jjZ3 (ZA cZ25 (ZA eZ27 jjZ28)))) ?_
     refine ZW (ZA eZ2 (ZA jjZ3 (ZA cZ25 (ZA eZ27 jjZ28)))) (w_ak _ _ hrZ29) (h2:=by first | exact nm_ok [1000000000,1000000001] rfl (by decide +kernel) | exact nm_ok2 [1000000000,1000000001] [] rfl (by decide +kernel) ZQ | exact ZQ) (hk:=?_)
     refine ZG ?_
     cases h
     exact ZL (ZA eZ2 (ZA jjZ3 (ZA cZ25 (ZA eZ27 jjZ28)))) (ZA V133M1.eq_1 (ZA hlZ26.symm (ZA jjZ3 jjZ28)))
   · obtain ⟨cZ30,h⟩ | ⟨cZ30,h⟩:=cond_s h
     · obtain ⟨lZ31,hlZ31,h⟩:=bnd_s h
       have eZ32:Row.arr 1 [(.i 0:AV)]=Row.arr 1 (lZ31.map AV.i):=by rw [← hlZ31]; rfl
       have jjZ33:lZ31.length=1:=by rw [← hlZ31]; rfl
       obtain ⟨uZ34,huZ34,h⟩:=bind_s h
       have huZ34g:=grd_s huZ34
       obtain ⟨lZ35,hlZ35,h⟩:=bnd_s h
       have eZ36:oZ23.1.map AV.i++lZ31.map AV.i=lZ35.map AV.i:=by rw [← hlZ35,List.map_append]
       have eZ37:oZ23.1.length+1=lZ35.length:=by simp [← hlZ31,← hlZ35] <;> omega
       rw [eZ37] at huZ34g
       cases h
       exact ZL (ZA eZ2 (ZA jjZ3 (ZA cZ25 (ZA cZ30 (ZA eZ32 (ZA jjZ33 (ZA huZ34g (ZA eZ36 eZ37)))))))) (ZA V133M1.eq_1 (ZA hlZ31.symm (ZA hlZ35.symm (ZA jjZ3 jjZ33))))
     · obtain ⟨cZ38,h⟩ | ⟨cZ38,h⟩:=cond_s h
       · obtain ⟨cZ39,h⟩ | ⟨cZ39,h⟩:=cond_s h
         · obtain ⟨lZ40,hlZ40,h⟩:=bnd_s h
           have eZ41:Row.arr 1 [(.i (-1):AV),(.i 21:AV),(.i rZ4.1:AV)]=Row.arr 1 (lZ40.map AV.i):=by rw [← hlZ40]; rfl
           have jjZ42:lZ40.length=3:=by rw [← hlZ40]; rfl
           obtain ⟨rZ43,hrZ43,h⟩:=bind_s h
           refine ZF (ZA eZ2 (ZA jjZ3 (ZA cZ25 (ZA cZ30 (ZA cZ38 (ZA cZ39 (ZA eZ41 jjZ42))))))) ?_
           refine ZW (ZA eZ2 (ZA jjZ3 (ZA cZ25 (ZA cZ30 (ZA cZ38 (ZA cZ39 (ZA eZ41 jjZ42))))))) (w_ak _ _ hrZ43) (h2:=by first | exact nm_ok [1000000000,1000000001] rfl (by decide +kernel) | exact nm_ok2 [1000000000,1000000001] [] rfl (by decide +kernel) ZQ | exact ZQ) (hk:=?_)
           refine ZG ?_
           obtain ⟨kZ44,hkZ44,h⟩:=bind_s h
           obtain ⟨hkZ44a,hkZ44b⟩:=grd_s hkZ44
           obtain ⟨yZ45,hyZ45,h⟩:=bind_s h
           obtain ⟨lZ46,hlZ46,h⟩:=bnd_s h
           have eZ47:(oZ23.1.map AV.i).set (Int.toNat 0) (.i rZ43.1)=lZ46.map AV.i:=by rw [← hlZ46,List.map_set]
           cases h
           exact ZL (ZA eZ2 (ZA jjZ3 (ZA cZ25 (ZA cZ30 (ZA cZ38 (ZA cZ39 (ZA eZ41 (ZA jjZ42 (ZA hkZ44a (ZA hkZ44b (ZA hyZ45 eZ47))))))))))) (ZA V133M1.eq_1 (ZA hlZ40.symm (ZA hlZ46.symm (ZA jjZ3 jjZ42))))
         · cases h
           exact ZL (ZA eZ2 (ZA jjZ3 (ZA cZ25 (ZA cZ30 (ZA cZ38 cZ39))))) (ZA V133M1.eq_1 jjZ3)
       · cases h
         exact ZL (ZA eZ2 (ZA jjZ3 (ZA cZ25 (ZA cZ30 cZ38)))) (ZA V133M1.eq_1 jjZ3)
theorem w_cr (aaZ0:Tl1Cur) {r:Nat×Nat×Nat×Nat×Int×List ByteArray×List TFiber×List Int×Tl1Cur} (h:M_cr aaZ0=some r):OkM Try.prog 100 [.pt 1000000000 0 0] [(1000000000,.var (.agg [.lst .o 1 (((aaZ0).code).map AV.u8),.i ((aaZ0).atF),.sc (.int .u64 ((aaZ0).seed))]))] ((fun (r:Nat×Nat×Nat×Nat×Int×List ByteArray×List TFiber×List Int×Tl1Cur)=>.tup [.agg [.sl 500000128 r.1 r.2.1,.sl 500000129 r.2.2.1 r.2.2.2.1],.agg [.i r.2.2.2.2.1,.sl 500000193 0 r.2.2.2.2.2.2.2.1.length]]) r) ((fun (r:Nat×Nat×Nat×Nat×Int×List ByteArray×List TFiber×List Int×Tl1Cur)=>[(500000128,.arr 1 (r.2.2.2.2.2.1.map AV.z)),(500000129,.arr 4 (r.2.2.2.2.2.2.1.map (e_TFiber .u))),(500000193,.arr 1 (r.2.2.2.2.2.2.2.1.map AV.i)),(1000000000,.var (.agg [.lst .o 1 (((r.2.2.2.2.2.2.2.2).code).map AV.u8),.i ((r.2.2.2.2.2.2.2.2).atF),.sc (.int .u64 ((r.2.2.2.2.2.2.2.2).seed))]))]) r):=by
 refine okM_of_body (lr:=[500000128,500000129,500000193,1000000000]) hmix m100M1 rfl rfl ?_
 unfold M_cr at h
 simp only [ZC,A100M1,V100M1]
 obtain ⟨rZ1,hrZ1,h⟩:=bind_s h
 refine ZF trivial ?_
 refine ZW trivial (w_cp _ hrZ1) (h2:=by first | exact nm_ok [500600128,500600129,1000000000] rfl (by decide +kernel) | exact nm_ok2 [500600128,500600129,1000000000] [501300128,501300129] rfl (by decide +kernel) ZQ | exact ZQ) (hk:=?_)
 refine ZG ?_
 obtain ⟨lZ2,hlZ2,h⟩:=bnd_s h
 have eZ3:sub (rZ1.2.2.2.2.1.map AV.z) rZ1.1 rZ1.2.1=lZ2.map AV.z:=by rw [sub_mapT,hlZ2]
 obtain ⟨lZ4,hlZ4,h⟩:=bnd_s h
 have eZ5:sub (rZ1.2.2.2.2.2.1.map (e_TFiber .u)) rZ1.2.2.1 rZ1.2.2.2.1=lZ4.map (e_TFiber .u):=by rw [sub_mapT,hlZ4]
 obtain ⟨rZ6,hrZ6,h⟩:=bind_s h
 refine ZF (ZA eZ3 eZ5) ?_
 refine ZS (ZA eZ3 eZ5) (w_bl _ hrZ6) ?_
 refine ZG ?_
 obtain ⟨cZ7,h⟩ | ⟨cZ7,h⟩:=cond_s h
 · cases h
   exact ZL (ZA eZ3 (ZA eZ5 cZ7)) V100M1.eq_1
 · obtain ⟨rZ8,hrZ8,h⟩:=bind_s h
   refine ZF (ZA eZ3 (ZA eZ5 cZ7)) ?_
   refine ZW (ZA eZ3 (ZA eZ5 cZ7)) (w_cq _ _ _ _ _ _ _ hrZ8) (h2:=by first | exact nm_ok [500000257,1000000000,1000000001,1000000002] rfl (by decide +kernel) | exact nm_ok2 [500000257,1000000000,1000000001,1000000002] [501600257] rfl (by decide +kernel) ZQ | exact ZQ) (hk:=?_)
   refine ZG ?_
   cases h
   exact ZL (ZA eZ3 (ZA eZ5 cZ7)) V100M1.eq_1
theorem w_bh (nZ0:TNetwork) (fiberZ0:Int) (nodeZ0:Int) {r:Int} (h:M_bh nZ0 fiberZ0 nodeZ0=some r):Ok Try.prog 146 [.agg [.lst .o 1 (nZ0.Nodes.map AV.z),.lst .o 4 (nZ0.Fibers.map (e_TFiber .o))],.i fiberZ0,.i nodeZ0] ((fun r=>.i r) r):=by
 refine ok_of_body hmix m146 rfl ?_
 unfold M_bh at h
 simp only [ZC,A146,V146,body_eq]
 obtain ⟨yZ1,hyZ1,h⟩:=bind_s h
 obtain ⟨hyZ1a,hyZ1b⟩:=geti_s hyZ1
 obtain ⟨cZ2,h⟩ | ⟨cZ2,h⟩:=cond_s h
 · cases h
   exact ZL (ZA hyZ1a (ZA hyZ1b cZ2)) V146.eq_1
 · obtain ⟨cZ3,h⟩ | ⟨cZ3,h⟩:=cond_s h
   · cases h
     exact ZL (ZA hyZ1a (ZA hyZ1b (ZA cZ2 cZ3))) V146.eq_1
   · cases h
     exact ZL (ZA hyZ1a (ZA hyZ1b (ZA cZ2 cZ3))) V146.eq_1
def S_ah (lZ0:List Int) (nZ0:Int) (v:Int):St:=⟨[(0,.lst .o 1 (lZ0.map AV.i)),(1,.i nZ0),(5,.i v)],[]⟩
def SX_ah (v:Unit):St:=⟨[],[]⟩
theorem w_ah (lZ0:List Int) (nZ0:Int) (sZ1:Int) (o:Int ⊕ (Unit ⊕ Bool)) (h:M_ah lZ0 nZ0 sZ1=some o):AWP (OkS Try.prog) A147L1 (qL [0,1,5] [] (S_ah lZ0 nZ0) (qS (qX 0 [] [] (SX_ah)) (qR V147 (fun r=>.b r))) o) (S_ah lZ0 nZ0 sZ1):=by
 unfold M_ah at h
 simp only [ZC,S_ah,A147L1]
 obtain ⟨cZ2,h⟩ | ⟨cZ2,h⟩:=cond_s h
 · obtain ⟨yZ3,hyZ3,h⟩:=bind_s h
   obtain ⟨hyZ3a,hyZ3b⟩:=geti_s hyZ3
   obtain ⟨cZ4,h⟩ | ⟨cZ4,h⟩:=cond_s h
   · cases h
     exact ZL (ZA cZ2 (ZA hyZ3a (ZA hyZ3b cZ4))) V147.eq_1
   · cases h
     exact ZL (ZA cZ2 (ZA hyZ3a (ZA hyZ3b cZ4))) (ZA S_ah.eq_1 SX_ah.eq_1)
 · cases h
   exact ZL cZ2 (ZA S_ah.eq_1 SX_ah.eq_1)
theorem w_br (lZ0:List Int) (nZ0:Int) {r:Bool} (h:M_br lZ0 nZ0=some r):Ok Try.prog 147 [.lst .o 1 (lZ0.map AV.i),.i nZ0] ((fun r=>.b r) r):=by
 refine ok_of_body hmix m147 rfl ?_
 unfold M_br at h
 simp only [ZC,A147,V147,body_eq]
 obtain ⟨oZ5,hoZ5,h⟩:=bind_s h
 try refine ZF trivial ?_
 refine join_rule (o:=oZ5) (blk_rule sideR (loop_rule (w_ah lZ0 nZ0) hoZ5 ?_)) (fun vZ6 hv=>?_) (fun xZ7 hv e τ hne hq=>?_)
 · exact ZK (ZA S_ah.eq_1 SX_ah.eq_1)
 · subst hv
   simp only [] at h
   simp only [ZC,SX_ah,A147R2]
   cases h
   exact ZL trivial V147.eq_1
 · subst hv
   simp only [] at h
   obtain ⟨rfl,qZ8⟩:=hq
   cases h
   exact qZ8
def S_o (aaZ0:Nat) (abZ0:Nat) (acZ0:Nat) (adZ0:Nat) (afZ0:List ByteArray) (agZ0:List TFiber) (rZ1:Int×Tl1Cur) (sZ6:Int×List Int×List Int×Tl1Cur) (v:Int×List Int):St:=⟨[(0,.pt 1000000000 0 0),(3,.pt 3 0 0),(4,.pt 4 0 0),(6,.pt 6 0 0),(7,.sl 7 0 sZ6.2.1.length),(8,.i sZ6.1),(9,.sl 9 0 v.2.length),(10,.i v.1)],[(3,.var (.agg [.sl 1000000001 aaZ0 abZ0,.sl 1000000002 acZ0 adZ0])),(4,.var (.agg [.i 0,.lst .u 1 []])),(6,.var (.agg [.i rZ1.1,.sl 500000385 0 sZ6.2.2.1.length])),(7,.arr 1 (sZ6.2.1.map AV.i)),(9,.arr 1 (v.2.map AV.i)),(500000385,.arr 1 (sZ6.2.2.1.map AV.i)),(1000000000,.var (.agg [.lst .o 1 (((sZ6.2.2.2).code).map AV.u8),.i ((sZ6.2.2.2).atF),.sc (.int .u64 ((sZ6.2.2.2).seed))])),(1000000001,.arr 1 (afZ0.map AV.z)),(1000000002,.arr 4 (agZ0.map (e_TFiber .u)))]⟩
def SX_o (aaZ0:Nat) (abZ0:Nat) (acZ0:Nat) (adZ0:Nat) (afZ0:List ByteArray) (agZ0:List TFiber) (rZ1:Int×Tl1Cur) (sZ6:Int×List Int×List Int×Tl1Cur) (v:List Int):St:=⟨[(0,.pt 1000000000 0 0),(3,.pt 3 0 0),(4,.pt 4 0 0),(6,.pt 6 0 0),(7,.sl 7 0 sZ6.2.1.length),(8,.i sZ6.1),(9,.sl 9 0 v.length)],[(3,.var (.agg [.sl 1000000001 aaZ0 abZ0,.sl 1000000002 acZ0 adZ0])),(4,.var (.agg [.i 0,.lst .u 1 []])),(6,.var (.agg [.i rZ1.1,.sl 500000385 0 sZ6.2.2.1.length])),(7,.arr 1 (sZ6.2.1.map AV.i)),(9,.arr 1 (v.map AV.i)),(500000385,.arr 1 (sZ6.2.2.1.map AV.i)),(1000000000,.var (.agg [.lst .o 1 (((sZ6.2.2.2).code).map AV.u8),.i ((sZ6.2.2.2).atF),.sc (.int .u64 ((sZ6.2.2.2).seed))])),(1000000001,.arr 1 (afZ0.map AV.z)),(1000000002,.arr 4 (agZ0.map (e_TFiber .u)))]⟩
theorem w_o (aaZ0:Nat) (abZ0:Nat) (acZ0:Nat) (adZ0:Nat) (afZ0:List ByteArray) (agZ0:List TFiber) (rZ1:Int×Tl1Cur) (sZ6:Int×List Int×List Int×Tl1Cur) (sZ8:Int×List Int) (o:(Int×List Int) ⊕ (List Int)) (h:M_o aaZ0 abZ0 acZ0 adZ0 afZ0 agZ0 sZ6 sZ8=some o):AWP (OkS Try.prog) A138M1L2 (qL [0,3,4,6,7,8,9,10] [3,4,6,7,9,500000385,1000000000,1000000001,1000000002] (S_o aaZ0 abZ0 acZ0 adZ0 afZ0 agZ0 rZ1 sZ6) (qX 2 [0,3,4,6,7,8,9] [3,4,6,7,9,500000385,1000000000,1000000001,1000000002] (SX_o aaZ0 abZ0 acZ0 adZ0 afZ0 agZ0 rZ1 sZ6)) o) (S_o aaZ0 abZ0 acZ0 adZ0 afZ0 agZ0 rZ1 sZ6 sZ8):=by
 unfold M_o at h
 simp only [ZC,S_o,A138M1L2]
 obtain ⟨cZ9,h⟩ | ⟨cZ9,h⟩:=cond_s h
 · obtain ⟨kZ10,hkZ10,h⟩:=bind_s h
   obtain ⟨hkZ10a,hkZ10b⟩:=grd_s hkZ10
   obtain ⟨yZ11,hyZ11,h⟩:=bind_s h
   obtain ⟨lZ12,hlZ12,h⟩:=bnd_s h
   have eZ13:sub (afZ0.map AV.z) aaZ0 abZ0=lZ12.map AV.z:=by rw [sub_mapT,hlZ12]
   obtain ⟨lZ14,hlZ14,h⟩:=bnd_s h
   have eZ15:sub (agZ0.map (e_TFiber .u)) acZ0 adZ0=lZ14.map (e_TFiber .u):=by rw [sub_mapT,hlZ14]
   obtain ⟨rZ16,hrZ16,h⟩:=bind_s h
   refine ZF (ZA cZ9 (ZA hkZ10a (ZA hkZ10b (ZA hyZ11 (ZA eZ13 eZ15))))) ?_
   refine ZS (ZA cZ9 (ZA hkZ10a (ZA hkZ10b (ZA hyZ11 (ZA eZ13 eZ15))))) (w_bh _ _ _ hrZ16) ?_
   refine ZG ?_
   obtain ⟨oZ19,hoZ19,h⟩:=bind_s h
   try refine ZF (ZA cZ9 (ZA hkZ10a (ZA hkZ10b (ZA hyZ11 (ZA eZ13 eZ15))))) ?_
   refine join_rule0 (sh:=(fun v=>⟨[(0,.pt 1000000000 0 0),(3,.pt 3 0 0),(4,.pt 4 0 0),(6,.pt 6 0 0),(7,.sl 7 0 sZ6.2.1.length),(8,.i sZ6.1),(9,.sl 9 0 sZ8.2.length),(10,.i sZ8.1),(53,.b v)],[(3,.var (.agg [.sl 1000000001 aaZ0 abZ0,.sl 1000000002 acZ0 adZ0])),(4,.var (.agg [.i 0,.lst .u 1 []])),(6,.var (.agg [.i rZ1.1,.sl 500000385 0 sZ6.2.2.1.length])),(7,.arr 1 (sZ6.2.1.map AV.i)),(9,.arr 1 (sZ8.2.map AV.i)),(500000385,.arr 1 (sZ6.2.2.1.map AV.i)),(1000000000,.var (.agg [.lst .o 1 (((sZ6.2.2.2).code).map AV.u8),.i ((sZ6.2.2.2).atF),.sc (.int .u64 ((sZ6.2.2.2).seed))])),(1000000001,.arr 1 (afZ0.map AV.z)),(1000000002,.arr 4 (agZ0.map (e_TFiber .u)))]⟩)) (s:=oZ19) ?_ ?_
   · replace h:=hoZ19
     obtain ⟨cZ17,h⟩ | ⟨cZ17,h⟩:=cond_s h
     · obtain ⟨rZ18,hrZ18,h⟩:=bind_s h
       refine ZF (ZA cZ9 (ZA hkZ10a (ZA hkZ10b (ZA hyZ11 (ZA eZ13 (ZA eZ15 cZ17)))))) ?_
       refine ZS (ZA cZ9 (ZA hkZ10a (ZA hkZ10b (ZA hyZ11 (ZA eZ13 (ZA eZ15 cZ17)))))) (w_br _ _ hrZ18) ?_
       refine ZG ?_
       cases h
       exact ZL (ZA cZ9 (ZA hkZ10a (ZA hkZ10b (ZA hyZ11 (ZA eZ13 (ZA eZ15 cZ17)))))) trivial
     · cases h
       exact ZL (ZA cZ9 (ZA hkZ10a (ZA hkZ10b (ZA hyZ11 (ZA eZ13 (ZA eZ15 cZ17)))))) trivial
   · simp only [ZC,A138M1R1]
     obtain ⟨cZ20,h⟩ | ⟨cZ20,h⟩:=cond_s h
     · obtain ⟨lZ21,hlZ21,h⟩:=bnd_s h
       have eZ22:Row.arr 1 [(.i sZ8.1:AV)]=Row.arr 1 (lZ21.map AV.i):=by rw [← hlZ21]; rfl
       have jjZ23:lZ21.length=1:=by rw [← hlZ21]; rfl
       obtain ⟨uZ24,huZ24,h⟩:=bind_s h
       have huZ24g:=grd_s huZ24
       obtain ⟨lZ25,hlZ25,h⟩:=bnd_s h
       have eZ26:sZ8.2.map AV.i++lZ21.map AV.i=lZ25.map AV.i:=by rw [← hlZ25,List.map_append]
       have eZ27:sZ8.2.length+1=lZ25.length:=by simp [← hlZ21,← hlZ25] <;> omega
       rw [eZ27] at huZ24g
       cases h
       exact ZL (ZA cZ9 (ZA hkZ10a (ZA hkZ10b (ZA hyZ11 (ZA eZ13 (ZA eZ15 (ZA cZ20 (ZA eZ22 (ZA jjZ23 (ZA huZ24g (ZA eZ26 eZ27))))))))))) (ZA S_o.eq_1 (ZA SX_o.eq_1 (ZA hlZ21.symm (ZA hlZ25.symm jjZ23))))
     · cases h
       exact ZL (ZA cZ9 (ZA hkZ10a (ZA hkZ10b (ZA hyZ11 (ZA eZ13 (ZA eZ15 cZ20)))))) (ZA S_o.eq_1 SX_o.eq_1)
 · cases h
   exact ZL cZ9 (ZA S_o.eq_1 SX_o.eq_1)
def S_u (aaZ0:Nat) (abZ0:Nat) (acZ0:Nat) (adZ0:Nat) (afZ0:List ByteArray) (agZ0:List TFiber) (rZ1:Int×Tl1Cur) (v:Int×List Int×List Int×Tl1Cur):St:=⟨[(0,.pt 1000000000 0 0),(3,.pt 3 0 0),(4,.pt 4 0 0),(6,.pt 6 0 0),(7,.sl 7 0 v.2.1.length),(8,.i v.1)],[(3,.var (.agg [.sl 1000000001 aaZ0 abZ0,.sl 1000000002 acZ0 adZ0])),(4,.var (.agg [.i 0,.lst .u 1 []])),(6,.var (.agg [.i rZ1.1,.sl 500000385 0 v.2.2.1.length])),(7,.arr 1 (v.2.1.map AV.i)),(500000385,.arr 1 (v.2.2.1.map AV.i)),(1000000000,.var (.agg [.lst .o 1 (((v.2.2.2).code).map AV.u8),.i ((v.2.2.2).atF),.sc (.int .u64 ((v.2.2.2).seed))])),(1000000001,.arr 1 (afZ0.map AV.z)),(1000000002,.arr 4 (agZ0.map (e_TFiber .u)))]⟩
def SX_u (afZ0:List ByteArray) (agZ0:List TFiber) (rZ1:Int×Tl1Cur) (v:List Int×Tl1Cur):St:=⟨[(4,.pt 4 0 0),(6,.pt 6 0 0)],[(4,.var (.agg [.i 0,.lst .u 1 []])),(6,.var (.agg [.i rZ1.1,.sl 500000385 0 v.1.length])),(500000385,.arr 1 (v.1.map AV.i)),(1000000000,.var (.agg [.lst .o 1 (((v.2).code).map AV.u8),.i ((v.2).atF),.sc (.int .u64 ((v.2).seed))])),(1000000001,.arr 1 (afZ0.map AV.z)),(1000000002,.arr 4 (agZ0.map (e_TFiber .u)))]⟩
theorem w_u (aaZ0:Nat) (abZ0:Nat) (acZ0:Nat) (adZ0:Nat) (afZ0:List ByteArray) (agZ0:List TFiber) (rZ1:Int×Tl1Cur) (sZ6:Int×List Int×List Int×Tl1Cur) (o:(Int×List Int×List Int×Tl1Cur) ⊕ (List Int×Tl1Cur)) (h:M_u aaZ0 abZ0 acZ0 adZ0 afZ0 agZ0 sZ6=some o):AWP (OkS Try.prog) A138M1L4 (qL [0,3,4,6,7,8] [3,4,6,7,500000385,1000000000,1000000001,1000000002] (S_u aaZ0 abZ0 acZ0 adZ0 afZ0 agZ0 rZ1) (qX 0 [4,6] [4,6,500000385,1000000000,1000000001,1000000002] (SX_u afZ0 agZ0 rZ1)) o) (S_u aaZ0 abZ0 acZ0 adZ0 afZ0 agZ0 rZ1 sZ6):=by
 unfold M_u at h
 simp only [ZC,S_u,A138M1L4]
 obtain ⟨cZ7,h⟩ | ⟨cZ7,h⟩:=cond_s h
 · obtain ⟨oZ28,hoZ28,h⟩:=bind_s h
   try refine ZF cZ7 ?_
   refine join_rule0 (blk_rule0 (loop_rule (w_o aaZ0 abZ0 acZ0 adZ0 afZ0 agZ0 rZ1 sZ6) hoZ28 ?_)) ?_
   · exact ZK (ZA S_o.eq_1 SX_o.eq_1)
   · simp only [ZC,SX_o,A138M1R3]
     obtain ⟨cZ29,h⟩ | ⟨cZ29,h⟩:=cond_s h
     · cases h
       exact ZL (ZA cZ7 cZ29) (ZA S_u.eq_1 SX_u.eq_1)
     · obtain ⟨rZ30,hrZ30,h⟩:=bind_s h
       refine ZF (ZA cZ7 cZ29) ?_
       refine ZW (ZA cZ7 cZ29) (w_a _ _ hrZ30) (h2:=by first | exact nm_ok [1000000000] rfl (by decide +kernel) | exact nm_ok2 [1000000000] [] rfl (by decide +kernel) ZQ | exact ZQ) (hk:=?_)
       refine ZG ?_
       obtain ⟨kZ31,hkZ31,h⟩:=bind_s h
       obtain ⟨hkZ31a,hkZ31b⟩:=grd_s hkZ31
       obtain ⟨yZ32,hyZ32,h⟩:=bind_s h
       obtain ⟨lZ33,hlZ33,h⟩:=bnd_s h
       have eZ34:Row.arr 1 [(.i yZ32:AV)]=Row.arr 1 (lZ33.map AV.i):=by rw [← hlZ33]; rfl
       have jjZ35:lZ33.length=1:=by rw [← hlZ33]; rfl
       obtain ⟨uZ36,huZ36,h⟩:=bind_s h
       have huZ36g:=grd_s huZ36
       obtain ⟨lZ37,hlZ37,h⟩:=bnd_s h
       have eZ38:sZ6.2.2.1.map AV.i++lZ33.map AV.i=lZ37.map AV.i:=by rw [← hlZ37,List.map_append]
       have eZ39:sZ6.2.2.1.length+1=lZ37.length:=by simp [← hlZ33,← hlZ37] <;> omega
       rw [eZ39] at huZ36g
       obtain ⟨kZ40,hkZ40,h⟩:=bind_s h
       obtain ⟨hkZ40a,hkZ40b⟩:=grd_s hkZ40
       obtain ⟨yZ41,hyZ41,h⟩:=bind_s h
       obtain ⟨lZ42,hlZ42,h⟩:=bnd_s h
       have eZ43:sub (afZ0.map AV.z) aaZ0 abZ0=lZ42.map AV.z:=by rw [sub_mapT,hlZ42]
       obtain ⟨lZ44,hlZ44,h⟩:=bnd_s h
       have eZ45:sub (agZ0.map (e_TFiber .u)) acZ0 adZ0=lZ44.map (e_TFiber .u):=by rw [sub_mapT,hlZ44]
       obtain ⟨rZ46,hrZ46,h⟩:=bind_s h
       refine ZF (ZA cZ7 (ZA cZ29 (ZA hkZ31a (ZA hkZ31b (ZA hyZ32 (ZA eZ34 (ZA jjZ35 (ZA huZ36g (ZA eZ38 (ZA eZ39 (ZA hkZ40a (ZA hkZ40b (ZA hyZ41 (ZA eZ43 eZ45)))))))))))))) ?_
       refine ZS (ZA cZ7 (ZA cZ29 (ZA hkZ31a (ZA hkZ31b (ZA hyZ32 (ZA eZ34 (ZA jjZ35 (ZA huZ36g (ZA eZ38 (ZA eZ39 (ZA hkZ40a (ZA hkZ40b (ZA hyZ41 (ZA eZ43 eZ45)))))))))))))) (w_bh _ _ _ hrZ46) ?_
       refine ZG ?_
       obtain ⟨lZ47,hlZ47,h⟩:=bnd_s h
       have eZ48:Row.arr 1 [(.i rZ46:AV)]=Row.arr 1 (lZ47.map AV.i):=by rw [← hlZ47]; rfl
       have jjZ49:lZ47.length=1:=by rw [← hlZ47]; rfl
       obtain ⟨uZ50,huZ50,h⟩:=bind_s h
       have huZ50g:=grd_s huZ50
       obtain ⟨lZ51,hlZ51,h⟩:=bnd_s h
       have eZ52:sZ6.2.1.map AV.i++lZ47.map AV.i=lZ51.map AV.i:=by rw [← hlZ51,List.map_append]
       have eZ53:sZ6.2.1.length+1=lZ51.length:=by simp [← hlZ33,← hlZ37,← hlZ47,← hlZ51] <;> omega
       rw [eZ53] at huZ50g
       cases h
       exact ZL (ZA cZ7 (ZA cZ29 (ZA hkZ31a (ZA hkZ31b (ZA hyZ32 (ZA eZ34 (ZA jjZ35 (ZA huZ36g (ZA eZ38 (ZA eZ39 (ZA hkZ40a (ZA hkZ40b (ZA hyZ41 (ZA eZ43 (ZA eZ45 (ZA eZ48 (ZA jjZ49 (ZA huZ50g (ZA eZ52 eZ53))))))))))))))))))) (ZA S_u.eq_1 (ZA SX_u.eq_1 (ZA hlZ33.symm (ZA hlZ37.symm (ZA hlZ47.symm (ZA hlZ51.symm (ZA jjZ35 jjZ49)))))))
 · cases h
   exact ZL cZ7 (ZA S_u.eq_1 SX_u.eq_1)
theorem w_df (aaZ0:Nat) (abZ0:Nat) (acZ0:Nat) (adZ0:Nat) (aeZ0:Tl1Cur) (afZ0:List ByteArray) (agZ0:List TFiber) {r:Int×List Int×Tl1Cur×List ByteArray×List TFiber} (h:M_df aaZ0 abZ0 acZ0 adZ0 aeZ0 afZ0 agZ0=some r):OkM Try.prog 138 [.pt 1000000000 0 0,.agg [.sl 1000000001 aaZ0 abZ0,.sl 1000000002 acZ0 adZ0]] [(1000000000,.var (.agg [.lst .o 1 (((aeZ0).code).map AV.u8),.i ((aeZ0).atF),.sc (.int .u64 ((aeZ0).seed))])),(1000000001,.arr 1 (afZ0.map AV.z)),(1000000002,.arr 4 (agZ0.map (e_TFiber .u)))] ((fun (r:Int×List Int×Tl1Cur×List ByteArray×List TFiber)=>.agg [.i r.1,.sl 500000257 0 r.2.1.length]) r) ((fun (r:Int×List Int×Tl1Cur×List ByteArray×List TFiber)=>[(500000257,.arr 1 (r.2.1.map AV.i)),(1000000000,.var (.agg [.lst .o 1 (((r.2.2.1).code).map AV.u8),.i ((r.2.2.1).atF),.sc (.int .u64 ((r.2.2.1).seed))])),(1000000001,.arr 1 (r.2.2.2.1.map AV.z)),(1000000002,.arr 4 (r.2.2.2.2.map (e_TFiber .u)))]) r):=by
 refine okM_of_body (lr:=[500000257,1000000000,1000000001,1000000002]) hmix m138M1 rfl rfl ?_
 unfold M_df at h
 simp only [ZC,A138M1,V138M1]
 obtain ⟨rZ1,hrZ1,h⟩:=bind_s h
 refine ZF trivial ?_
 refine ZW trivial (w_a _ _ hrZ1) (h2:=by first | exact nm_ok [1000000000] rfl (by decide +kernel) | exact nm_ok2 [1000000000] [] rfl (by decide +kernel) ZQ | exact ZQ) (hk:=?_)
 refine ZG ?_
 obtain ⟨lZ2,hlZ2,h⟩:=bnd_s h
 have eZ3:Row.arr 1 [(.i rZ1.1:AV)]=Row.arr 1 (lZ2.map AV.i):=by rw [← hlZ2]; rfl
 have jjZ4:lZ2.length=1:=by rw [← hlZ2]; rfl
 obtain ⟨rZ5,hrZ5,h⟩:=bind_s h
 refine ZF (ZA eZ3 jjZ4) ?_
 refine ZW (ZA eZ3 jjZ4) (w_a _ _ hrZ5) (h2:=by first | exact nm_ok [1000000000] rfl (by decide +kernel) | exact nm_ok2 [1000000000] [] rfl (by decide +kernel) ZQ | exact ZQ) (hk:=?_)
 refine ZG ?_
 obtain ⟨oZ54,hoZ54,h⟩:=bind_s h
 try refine ZF (ZA eZ3 jjZ4) ?_
 refine join_rule0 (blk_rule0 (loop_rule (w_u aaZ0 abZ0 acZ0 adZ0 afZ0 agZ0 rZ1) hoZ54 ?_)) ?_
 · exact ZK (ZA S_u.eq_1 (ZA SX_u.eq_1 (ZA hlZ2.symm jjZ4)))
 · simp only [ZC,SX_u,A138M1R5]
   cases h
   exact ZL (ZA eZ3 jjZ4) (ZA V138M1.eq_1 jjZ4)
theorem w_by (aaZ0:Nat) (abZ0:Nat) (acZ0:Nat) (adZ0:Nat) (aeZ0:Tl1Cur) (afZ0:List ByteArray) (agZ0:List TFiber) {r:Int×List Int×Tl1Cur×List ByteArray×List TFiber} (h:M_by aaZ0 abZ0 acZ0 adZ0 aeZ0 afZ0 agZ0=some r):OkM Try.prog 110 [.pt 1000000000 0 0,.agg [.sl 1000000001 aaZ0 abZ0,.sl 1000000002 acZ0 adZ0]] [(1000000000,.var (.agg [.lst .o 1 (((aeZ0).code).map AV.u8),.i ((aeZ0).atF),.sc (.int .u64 ((aeZ0).seed))])),(1000000001,.arr 1 (afZ0.map AV.z)),(1000000002,.arr 4 (agZ0.map (e_TFiber .u)))] ((fun (r:Int×List Int×Tl1Cur×List ByteArray×List TFiber)=>.agg [.i r.1,.sl 500000257 0 r.2.1.length]) r) ((fun (r:Int×List Int×Tl1Cur×List ByteArray×List TFiber)=>[(500000257,.arr 1 (r.2.1.map AV.i)),(1000000000,.var (.agg [.lst .o 1 (((r.2.2.1).code).map AV.u8),.i ((r.2.2.1).atF),.sc (.int .u64 ((r.2.2.1).seed))])),(1000000001,.arr 1 (r.2.2.2.1.map AV.z)),(1000000002,.arr 4 (r.2.2.2.2.map (e_TFiber .u)))]) r):=by
 refine okM_of_body (lr:=[500000257,1000000000,1000000001,1000000002]) hmix m110M1 rfl rfl ?_
 unfold M_by at h
 simp only [ZC,A110M1,V110M1]
 obtain ⟨rZ1,hrZ1,h⟩:=bind_s h
 refine ZF trivial ?_
 refine ZW trivial (w_df _ _ _ _ _ _ _ hrZ1) (h2:=by first | exact nm_ok [500000257,1000000000,1000000001,1000000002] rfl (by decide +kernel) | exact nm_ok2 [500000257,1000000000,1000000001,1000000002] [500900257] rfl (by decide +kernel) ZQ | exact ZQ) (hk:=?_)
 refine ZG ?_
 obtain ⟨rZ2,hrZ2,h⟩:=bind_s h
 refine ZF trivial ?_
 refine ZW trivial (w_a _ _ hrZ2) (h2:=by first | exact nm_ok [1000000000] rfl (by decide +kernel) | exact nm_ok2 [1000000000] [] rfl (by decide +kernel) ZQ | exact ZQ) (hk:=?_)
 refine ZG ?_
 obtain ⟨cZ3,h⟩ | ⟨cZ3,h⟩:=cond_s h
 · obtain ⟨rZ4,hrZ4,h⟩:=bind_s h
   refine ZF cZ3 ?_
   refine ZW cZ3 (w_a _ _ hrZ4) (h2:=by first | exact nm_ok [1000000000] rfl (by decide +kernel) | exact nm_ok2 [1000000000] [] rfl (by decide +kernel) ZQ | exact ZQ) (hk:=?_)
   refine ZG ?_
   cases h
   exact ZL cZ3 V110M1.eq_1
 · obtain ⟨cZ5,h⟩ | ⟨cZ5,h⟩:=cond_s h
   · obtain ⟨rZ6,hrZ6,h⟩:=bind_s h
     refine ZF (ZA cZ3 cZ5) ?_
     refine ZW (ZA cZ3 cZ5) (w_a _ _ hrZ6) (h2:=by first | exact nm_ok [1000000000] rfl (by decide +kernel) | exact nm_ok2 [1000000000] [] rfl (by decide +kernel) ZQ | exact ZQ) (hk:=?_)
     refine ZG ?_
     obtain ⟨lZ7,hlZ7,h⟩:=bnd_s h
     have eZ8:Row.arr 1 [(.i (IntKind.wrap .i64 (rZ6.1 - 1)):AV)]=Row.arr 1 (lZ7.map AV.i):=by rw [← hlZ7]; rfl
     have jjZ9:lZ7.length=1:=by rw [← hlZ7]; rfl
     obtain ⟨uZ10,huZ10,h⟩:=bind_s h
     have huZ10g:=grd_s huZ10
     obtain ⟨lZ11,hlZ11,h⟩:=bnd_s h
     have eZ12:rZ1.2.1.map AV.i++lZ7.map AV.i=lZ11.map AV.i:=by rw [← hlZ11,List.map_append]
     have eZ13:rZ1.2.1.length+1=lZ11.length:=by simp [← hlZ7,← hlZ11] <;> omega
     rw [eZ13] at huZ10g
     cases h
     exact ZL (ZA cZ3 (ZA cZ5 (ZA eZ8 (ZA jjZ9 (ZA huZ10g (ZA eZ12 eZ13)))))) (ZA V110M1.eq_1 (ZA hlZ7.symm (ZA hlZ11.symm jjZ9)))
   · obtain ⟨cZ14,h⟩ | ⟨cZ14,h⟩:=cond_s h
     · cases h
       exact ZL (ZA cZ3 (ZA cZ5 cZ14)) V110M1.eq_1
     · obtain ⟨cZ15,h⟩ | ⟨cZ15,h⟩:=cond_s h
       · obtain ⟨cZ16,h⟩ | ⟨cZ16,h⟩:=cond_s h
         · obtain ⟨kZ17,hkZ17,h⟩:=bind_s h
           obtain ⟨hkZ17a,hkZ17b⟩:=grd_s hkZ17
           obtain ⟨yZ18,hyZ18,h⟩:=bind_s h
           obtain ⟨lZ19,hlZ19,h⟩:=bnd_s h
           have eZ20:Row.arr 1 [(.i yZ18:AV)]=Row.arr 1 (lZ19.map AV.i):=by rw [← hlZ19]; rfl
           have jjZ21:lZ19.length=1:=by rw [← hlZ19]; rfl
           obtain ⟨uZ22,huZ22,h⟩:=bind_s h
           have huZ22g:=grd_s huZ22
           obtain ⟨lZ23,hlZ23,h⟩:=bnd_s h
           have eZ24:rZ1.2.1.map AV.i++lZ19.map AV.i=lZ23.map AV.i:=by rw [← hlZ23,List.map_append]
           have eZ25:rZ1.2.1.length+1=lZ23.length:=by simp [← hlZ19,← hlZ23] <;> omega
           rw [eZ25] at huZ22g
           cases h
           exact ZL (ZA cZ3 (ZA cZ5 (ZA cZ14 (ZA cZ15 (ZA cZ16 (ZA hkZ17a (ZA hkZ17b (ZA hyZ18 (ZA eZ20 (ZA jjZ21 (ZA huZ22g (ZA eZ24 eZ25)))))))))))) (ZA V110M1.eq_1 (ZA hlZ19.symm (ZA hlZ23.symm jjZ21)))
         · cases h
           exact ZL (ZA cZ3 (ZA cZ5 (ZA cZ14 (ZA cZ15 cZ16)))) V110M1.eq_1
       · cases h
         exact ZL (ZA cZ3 (ZA cZ5 (ZA cZ14 cZ15))) V110M1.eq_1
theorem w_dg (codeZ0:List Int) {r:TNetwork×TOutage×TRoute×TRoute} (h:M_dg codeZ0=some r):Ok Try.prog 57 [.lst .o 1 (codeZ0.map AV.u8)] ((fun r=>.tup [.agg [.lst .u 1 (r.1.Nodes.map AV.z),.lst .u 4 (r.1.Fibers.map (e_TFiber .u))],.agg [.i r.2.1.Unit,.lst .u 1 (r.2.1.Down.map AV.i)],.agg [.i r.2.2.1.Start,.lst .u 1 (r.2.2.1.Fibers.map AV.i)],.agg [.i r.2.2.2.Start,.lst .u 1 (r.2.2.2.Fibers.map AV.i)]]) r):=by
 refine ok_of_body hmix m57 rfl ?_
 unfold M_dg at h
 simp only [ZC,A57,V57,body_eq]
 obtain ⟨rZ1,hrZ1,h⟩:=bind_s h
 refine ZF trivial ?_
 refine ZW trivial (w_cr _ hrZ1) (h2:=by first | exact nm_ok [500000128,500000129,500000193,1000000000] rfl (by decide +kernel) | exact nm_ok2 [500000128,500000129,500000193,1000000000] [501600128,501600129,501600193] rfl (by decide +kernel) ZQ | exact ZQ) (hk:=?_)
 refine ZG ?_
 obtain ⟨rZ2,hrZ2,h⟩:=bind_s h
 refine ZF trivial ?_
 refine ZW trivial (w_by _ _ _ _ _ _ _ hrZ2) (h2:=by first | exact nm_ok [500000257,1000000000,1000000001,1000000002] rfl (by decide +kernel) | exact nm_ok2 [500000257,1000000000,1000000001,1000000002] [502100257] rfl (by decide +kernel) ZQ | exact ZQ) (hk:=?_)
 refine ZG ?_
 obtain ⟨rZ3,hrZ3,h⟩:=bind_s h
 refine ZF trivial ?_
 refine ZW trivial (w_by _ _ _ _ _ _ _ hrZ3) (h2:=by first | exact nm_ok [500000257,1000000000,1000000001,1000000002] rfl (by decide +kernel) | exact nm_ok2 [500000257,1000000000,1000000001,1000000002] [502700257] rfl (by decide +kernel) ZQ | exact ZQ) (hk:=?_)
 refine ZG ?_
 obtain ⟨lZ4,hlZ4,h⟩:=bnd_s h
 have eZ5:sub (rZ3.2.2.2.1.map AV.z) rZ1.1 rZ1.2.1=lZ4.map AV.z:=by rw [sub_mapT,hlZ4]
 obtain ⟨lZ6,hlZ6,h⟩:=bnd_s h
 have eZ7:sub (rZ3.2.2.2.2.map (e_TFiber .u)) rZ1.2.2.1 rZ1.2.2.2.1=lZ6.map (e_TFiber .u):=by rw [sub_mapT,hlZ6]
 cases h
 exact ZL (ZA eZ5 eZ7) V57.eq_1
theorem w_e (nZ0:Int) (lowZ0:Int) (highZ0:Int) {r:Bool} (h:M_e nZ0 lowZ0 highZ0=some r):Ok Try.prog 66 [.i nZ0,.i lowZ0,.i highZ0] ((fun r=>.b r) r):=by
 refine ok_of_body hmix m66 rfl ?_
 unfold M_e at h
 simp only [ZC,A66,V66,body_eq]
 obtain ⟨cZ1,h⟩ | ⟨cZ1,h⟩:=cond_s h
 · cases h
   exact ZL cZ1 V66.eq_1
 · cases h
   exact ZL cZ1 V66.eq_1
def S_v (sZ0:ByteArray) (v:Int):St:=⟨[(0,.z sZ0),(7,.i (sZ0.size:Int)),(8,.i v)],[]⟩
def SX_v (sZ0:ByteArray) (v:Unit):St:=⟨[(0,.z sZ0)],[]⟩
theorem w_v (sZ0:ByteArray) (sZ1:Int) (o:Int ⊕ (Unit ⊕ Bool)) (h:M_v sZ0 sZ1=some o):AWP (OkS Try.prog) A113L2 (qL [0,7,8] [] (S_v sZ0) (qS (qX 0 [0] [] (SX_v sZ0)) (qR V113 (fun r=>.b r))) o) (S_v sZ0 sZ1):=by
 unfold M_v at h
 simp only [ZC,S_v,A113L2]
 obtain ⟨cZ2,h⟩ | ⟨cZ2,h⟩:=cond_s h
 · obtain ⟨oZ7,hoZ7,h⟩:=bind_s h
   try refine ZF cZ2 ?_
   refine join_rule0 (sh:=(fun v=>⟨[(0,.z sZ0),(3,.i sZ1),(4,.b v.1),(5,.b v.2),(7,.i (sZ0.size:Int)),(8,.i sZ1)],[]⟩)) (s:=oZ7) ?_ ?_
   · replace h:=hoZ7
     obtain ⟨yZ3,hyZ3,h⟩:=bind_s h
     obtain ⟨hyZ3a,hyZ3b⟩:=getz_s hyZ3
     obtain ⟨cZ4,h⟩ | ⟨cZ4,h⟩:=cond_s h
     · obtain ⟨cZ5,h⟩ | ⟨cZ5,h⟩:=cond_s h
       · cases h
         exact ZL (ZA cZ2 (ZA hyZ3a (ZA hyZ3b (ZA cZ4 cZ5)))) trivial
       · cases h
         exact ZL (ZA cZ2 (ZA hyZ3a (ZA hyZ3b (ZA cZ4 cZ5)))) trivial
     · obtain ⟨cZ6,h⟩ | ⟨cZ6,h⟩:=cond_s h
       · cases h
         exact ZL (ZA cZ2 (ZA hyZ3a (ZA hyZ3b (ZA cZ4 cZ6)))) trivial
       · cases h
         exact ZL (ZA cZ2 (ZA hyZ3a (ZA hyZ3b (ZA cZ4 cZ6)))) trivial
   · simp only [ZC,A113R1]
     obtain ⟨cZ8,h⟩ | ⟨cZ8,h⟩:=cond_s h
     · obtain ⟨cZ9,h⟩ | ⟨cZ9,h⟩:=cond_s h
       · cases h
         exact ZL (ZA cZ2 (ZA cZ8 cZ9)) V113.eq_1
       · obtain ⟨cZ10,h⟩ | ⟨cZ10,h⟩:=cond_s h
         · cases h
           exact ZL (ZA cZ2 (ZA cZ8 (ZA cZ9 cZ10))) V113.eq_1
         · cases h
           exact ZL (ZA cZ2 (ZA cZ8 (ZA cZ9 cZ10))) (ZA S_v.eq_1 SX_v.eq_1)
     · cases h
       exact ZL (ZA cZ2 cZ8) (ZA S_v.eq_1 SX_v.eq_1)
 · cases h
   exact ZL cZ2 (ZA S_v.eq_1 SX_v.eq_1)
theorem w_dh (sZ0:ByteArray) {r:Bool} (h:M_dh sZ0=some r):Ok Try.prog 113 [.z sZ0] ((fun r=>.b r) r):=by
 refine ok_of_body hmix m113 rfl ?_
 unfold M_dh at h
 simp only [ZC,A113,V113,body_eq]
 obtain ⟨oZ11,hoZ11,h⟩:=bind_s h
 try refine ZF trivial ?_
 refine join_rule (o:=oZ11) (blk_rule sideR (loop_rule (w_v sZ0) hoZ11 ?_)) (fun vZ12 hv=>?_) (fun xZ13 hv e τ hne hq=>?_)
 · exact ZK (ZA S_v.eq_1 SX_v.eq_1)
 · subst hv
   simp only [] at h
   simp only [ZC,SX_v,A113R3]
   obtain ⟨rZ14,hrZ14,h⟩:=bind_s h
   refine ZF trivial ?_
   refine ZS trivial (w_e _ _ _ hrZ14) ?_
   refine ZG ?_
   cases h
   exact ZL trivial V113.eq_1
 · subst hv
   simp only [] at h
   obtain ⟨rfl,qZ15⟩:=hq
   cases h
   exact qZ15
def S_ar (sZ0:List ByteArray) (vZ0:ByteArray) (v:Int):St:=⟨[(0,.lst .o 1 (sZ0.map AV.z)),(1,.z vZ0),(7,.i (sZ0.length:Int)),(8,.i v)],[]⟩
def SX_ar (v:Unit):St:=⟨[],[]⟩
theorem w_ar (sZ0:List ByteArray) (vZ0:ByteArray) (sZ1:Int) (o:Int ⊕ (Unit ⊕ Int)) (h:M_ar sZ0 vZ0 sZ1=some o):AWP (OkS Try.prog) A139L1 (qL [0,1,7,8] [] (S_ar sZ0 vZ0) (qS (qX 0 [] [] (SX_ar)) (qR V139 (fun r=>.i r))) o) (S_ar sZ0 vZ0 sZ1):=by
 unfold M_ar at h
 simp only [ZC,S_ar,A139L1]
 obtain ⟨cZ2,h⟩ | ⟨cZ2,h⟩:=cond_s h
 · obtain ⟨yZ3,hyZ3,h⟩:=bind_s h
   obtain ⟨hyZ3a,hyZ3b⟩:=geti_s hyZ3
   obtain ⟨cZ4,h⟩ | ⟨cZ4,h⟩:=cond_s h
   · cases h
     exact ZL (ZA cZ2 (ZA hyZ3a (ZA hyZ3b cZ4))) V139.eq_1
   · cases h
     exact ZL (ZA cZ2 (ZA hyZ3a (ZA hyZ3b cZ4))) (ZA S_ar.eq_1 SX_ar.eq_1)
 · cases h
   exact ZL cZ2 (ZA S_ar.eq_1 SX_ar.eq_1)
theorem w_dy (sZ0:List ByteArray) (vZ0:ByteArray) {r:Int} (h:M_dy sZ0 vZ0=some r):Ok Try.prog 139 [.lst .o 1 (sZ0.map AV.z),.z vZ0] ((fun r=>.i r) r):=by
 refine ok_of_body hmix m139 rfl ?_
 unfold M_dy at h
 simp only [ZC,A139,V139,body_eq]
 obtain ⟨oZ5,hoZ5,h⟩:=bind_s h
 try refine ZF trivial ?_
 refine join_rule (o:=oZ5) (blk_rule sideR (loop_rule (w_ar sZ0 vZ0) hoZ5 ?_)) (fun vZ6 hv=>?_) (fun xZ7 hv e τ hne hq=>?_)
 · exact ZK (ZA S_ar.eq_1 SX_ar.eq_1)
 · subst hv
   simp only [] at h
   simp only [ZC,SX_ar,A139R2]
   cases h
   exact ZL trivial V139.eq_1
 · subst hv
   simp only [] at h
   obtain ⟨rfl,qZ8⟩:=hq
   cases h
   exact qZ8
theorem w_di (sZ0:List ByteArray) (vZ0:ByteArray) {r:Bool} (h:M_di sZ0 vZ0=some r):Ok Try.prog 114 [.lst .o 1 (sZ0.map AV.z),.z vZ0] ((fun r=>.b r) r):=by
 refine ok_of_body hmix m114 rfl ?_
 unfold M_di at h
 simp only [ZC,A114,V114,body_eq]
 obtain ⟨rZ1,hrZ1,h⟩:=bind_s h
 refine ZF trivial ?_
 refine ZS trivial (w_dy _ _ hrZ1) ?_
 refine ZG ?_
 cases h
 exact ZL trivial V114.eq_1
theorem w_bf (xZ0:Int) {r:Bool} (h:M_bf xZ0=some r):Ok Try.prog 151 [.i xZ0] ((fun r=>.b r) r):=by
 refine ok_of_body hmix m151 rfl ?_
 unfold M_bf at h
 simp only [ZC,A151,V151,body_eq]
 cases h
 exact ZL trivial V151.eq_1
theorem w_bg (xZ0:Int) (yZ0:Int) {r:Int} (h:M_bg xZ0 yZ0=some r):Ok Try.prog 141 [.i xZ0,.i yZ0] ((fun r=>.i r) r):=by
 refine ok_of_body hmix m141 rfl ?_
 unfold M_bg at h
 simp only [ZC,A141,V141,body_eq]
 obtain ⟨rZ1,hrZ1,h⟩:=bind_s h
 refine ZF trivial ?_
 refine ZS trivial (w_bf _ hrZ1) ?_
 refine ZG ?_
 obtain ⟨rZ2,hrZ2,h⟩:=bind_s h
 refine ZF trivial ?_
 refine ZS trivial (w_bf _ hrZ2) ?_
 refine ZG ?_
 obtain ⟨cZ3,h⟩ | ⟨cZ3,h⟩:=cond_s h
 · obtain ⟨cZ4,h⟩ | ⟨cZ4,h⟩:=cond_s h
   · cases h
     exact ZL (ZA cZ3 cZ4) V141.eq_1
   · cases h
     exact ZL (ZA cZ3 cZ4) V141.eq_1
 · obtain ⟨cZ5,h⟩ | ⟨cZ5,h⟩:=cond_s h
   · cases h
     exact ZL (ZA cZ3 cZ5) V141.eq_1
   · obtain ⟨cZ6,h⟩ | ⟨cZ6,h⟩:=cond_s h
     · cases h
       exact ZL (ZA cZ3 (ZA cZ5 cZ6)) V141.eq_1
     · obtain ⟨cZ7,h⟩ | ⟨cZ7,h⟩:=cond_s h
       · cases h
         exact ZL (ZA cZ3 (ZA cZ5 (ZA cZ6 cZ7))) V141.eq_1
       · cases h
         exact ZL (ZA cZ3 (ZA cZ5 (ZA cZ6 cZ7))) V141.eq_1
def S_as (valsZ0:List Int) (v:Int):St:=⟨[(3,.i 0),(6,.lst .o 1 (valsZ0.map AV.i)),(7,.i (valsZ0.length:Int)),(8,.i v)],[]⟩
def SX_as (v:Unit):St:=⟨[(3,.i 0)],[]⟩
theorem w_as (valsZ0:List Int) (sZ1:Int) (o:Int ⊕ (Unit ⊕ Int)) (h:M_as valsZ0 sZ1=some o):AWP (OkS Try.prog) A140L1 (qL [3,6,7,8] [] (S_as valsZ0) (qS (qX 0 [3] [] (SX_as)) (qR V140 (fun r=>.i r))) o) (S_as valsZ0 sZ1):=by
 unfold M_as at h
 simp only [ZC,S_as,A140L1]
 obtain ⟨cZ2,h⟩ | ⟨cZ2,h⟩:=cond_s h
 · obtain ⟨yZ3,hyZ3,h⟩:=bind_s h
   obtain ⟨hyZ3a,hyZ3b⟩:=geti_s hyZ3
   obtain ⟨cZ4,h⟩ | ⟨cZ4,h⟩:=cond_s h
   · cases h
     exact ZL (ZA cZ2 (ZA hyZ3a (ZA hyZ3b cZ4))) V140.eq_1
   · cases h
     exact ZL (ZA cZ2 (ZA hyZ3a (ZA hyZ3b cZ4))) (ZA S_as.eq_1 SX_as.eq_1)
 · cases h
   exact ZL cZ2 (ZA S_as.eq_1 SX_as.eq_1)
theorem w_dz (valsZ0:List Int) {r:Int} (h:M_dz valsZ0=some r):Ok Try.prog 140 [.lst .o 1 (valsZ0.map AV.i)] ((fun r=>.i r) r):=by
 refine ok_of_body hmix m140 rfl ?_
 unfold M_dz at h
 simp only [ZC,A140,V140,body_eq]
 obtain ⟨oZ5,hoZ5,h⟩:=bind_s h
 try refine ZF trivial ?_
 refine join_rule (o:=oZ5) (blk_rule sideR (loop_rule (w_as valsZ0) hoZ5 ?_)) (fun vZ6 hv=>?_) (fun xZ7 hv e τ hne hq=>?_)
 · exact ZK (ZA S_as.eq_1 SX_as.eq_1)
 · subst hv
   simp only [] at h
   simp only [ZC,SX_as,A140R2]
   cases h
   exact ZL trivial V140.eq_1
 · subst hv
   simp only [] at h
   obtain ⟨rfl,qZ8⟩:=hq
   cases h
   exact qZ8
theorem w_dj (aZ0:TFiber) (bZ0:TFiber) {r:Int} (h:M_dj aZ0 bZ0=some r):Ok Try.prog 115 [.agg [.i aZ0.A,.i aZ0.B,.i aZ0.Length,.i aZ0.Risk],.agg [.i bZ0.A,.i bZ0.B,.i bZ0.Length,.i bZ0.Risk]] ((fun r=>.i r) r):=by
 refine ok_of_body hmix m115 rfl ?_
 unfold M_dj at h
 simp only [ZC,A115,V115,body_eq]
 obtain ⟨rZ1,hrZ1,h⟩:=bind_s h
 refine ZF trivial ?_
 refine ZS trivial (w_bg _ _ hrZ1) ?_
 refine ZG ?_
 obtain ⟨rZ2,hrZ2,h⟩:=bind_s h
 refine ZF trivial ?_
 refine ZS trivial (w_bg _ _ hrZ2) ?_
 refine ZG ?_
 obtain ⟨rZ3,hrZ3,h⟩:=bind_s h
 refine ZF trivial ?_
 refine ZS trivial (w_bg _ _ hrZ3) ?_
 refine ZG ?_
 obtain ⟨rZ4,hrZ4,h⟩:=bind_s h
 refine ZF trivial ?_
 refine ZS trivial (w_bg _ _ hrZ4) ?_
 refine ZG ?_
 obtain ⟨lZ5,hlZ5,h⟩:=bnd_s h
 have eZ6:Row.arr 1 [(.i rZ1:AV),(.i rZ2:AV),(.i rZ3:AV),(.i rZ4:AV)]=Row.arr 1 (lZ5.map AV.i):=by rw [← hlZ5]; rfl
 have jjZ7:lZ5.length=4:=by rw [← hlZ5]; rfl
 have nZ8:sub (lZ5.map AV.i) 0 4=lZ5.map AV.i:=sub_n _ (by simp [← hlZ5])
 obtain ⟨rZ9,hrZ9,h⟩:=bind_s h
 refine ZF (ZA eZ6 (ZA jjZ7 nZ8)) ?_
 refine ZS (ZA eZ6 (ZA jjZ7 nZ8)) (w_dz _ hrZ9) ?_
 refine ZG ?_
 cases h
 exact ZL (ZA eZ6 (ZA jjZ7 nZ8)) (ZA V115.eq_1 (ZA hlZ5.symm jjZ7))
def S_at (nZ0:TNetwork) (v:Int):St:=⟨[(1,.pt 1 0 0),(8,.lst .o 1 (nZ0.Nodes.map AV.z)),(9,.i (nZ0.Nodes.length:Int)),(10,.i v)],[(1,.var (.agg [.lst .o 1 (nZ0.Nodes.map AV.z),.lst .o 4 (nZ0.Fibers.map (e_TFiber .o))]))]⟩
def SX_at (nZ0:TNetwork) (v:Unit):St:=⟨[(1,.pt 1 0 0)],[(1,.var (.agg [.lst .o 1 (nZ0.Nodes.map AV.z),.lst .o 4 (nZ0.Fibers.map (e_TFiber .o))]))]⟩
theorem w_at (nZ0:TNetwork) (sZ1:Int) (o:Int ⊕ (Unit ⊕ Bool)) (h:M_at nZ0 sZ1=some o):AWP (OkS Try.prog) A65L1 (qL [1,8,9,10] [1] (S_at nZ0) (qS (qX 0 [1] [1] (SX_at nZ0)) (qR V65 (fun r=>.b r))) o) (S_at nZ0 sZ1):=by
 unfold M_at at h
 simp only [ZC,S_at,A65L1]
 obtain ⟨cZ2,h⟩ | ⟨cZ2,h⟩:=cond_s h
 · obtain ⟨yZ3,hyZ3,h⟩:=bind_s h
   obtain ⟨hyZ3a,hyZ3b⟩:=geti_s hyZ3
   obtain ⟨rZ4,hrZ4,h⟩:=bind_s h
   refine ZF (ZA cZ2 (ZA hyZ3a hyZ3b)) ?_
   refine ZS (ZA cZ2 (ZA hyZ3a hyZ3b)) (w_dh _ hrZ4) ?_
   refine ZG ?_
   obtain ⟨cZ5,h⟩ | ⟨cZ5,h⟩:=cond_s h
   · cases h
     exact ZL (ZA cZ2 (ZA hyZ3a (ZA hyZ3b cZ5))) V65.eq_1
   · obtain ⟨lZ6,hlZ6,h⟩:=bind_s h
     obtain ⟨hlZ6a,hlZ6b,hlZ6c,hlZ6d,hlZ6e⟩:=slT_s AV.z hlZ6
     obtain ⟨rZ7,hrZ7,h⟩:=bind_s h
     refine ZF (ZA cZ2 (ZA hyZ3a (ZA hyZ3b (ZA cZ5 (ZA hlZ6a (ZA hlZ6b (ZA hlZ6c (ZA hlZ6d hlZ6e)))))))) ?_
     refine ZS (ZA cZ2 (ZA hyZ3a (ZA hyZ3b (ZA cZ5 (ZA hlZ6a (ZA hlZ6b (ZA hlZ6c (ZA hlZ6d hlZ6e)))))))) (w_di _ _ hrZ7) ?_
     refine ZG ?_
     obtain ⟨cZ8,h⟩ | ⟨cZ8,h⟩:=cond_s h
     · cases h
       exact ZL (ZA cZ2 (ZA hyZ3a (ZA hyZ3b (ZA cZ5 (ZA hlZ6a (ZA hlZ6b (ZA hlZ6c (ZA hlZ6d (ZA hlZ6e cZ8))))))))) V65.eq_1
     · cases h
       exact ZL (ZA cZ2 (ZA hyZ3a (ZA hyZ3b (ZA cZ5 (ZA hlZ6a (ZA hlZ6b (ZA hlZ6c (ZA hlZ6d (ZA hlZ6e cZ8))))))))) (ZA S_at.eq_1 SX_at.eq_1)
 · cases h
   exact ZL cZ2 (ZA S_at.eq_1 SX_at.eq_1)
def S_w (nZ0:TNetwork) (v:Int):St:=⟨[(1,.pt 1 0 0),(28,.lst .o 4 (nZ0.Fibers.map (e_TFiber .o))),(29,.i (nZ0.Fibers.length:Int)),(30,.i v)],[(1,.var (.agg [.lst .o 1 (nZ0.Nodes.map AV.z),.lst .o 4 (nZ0.Fibers.map (e_TFiber .o))]))]⟩
def SX_w (nZ0:TNetwork) (v:Unit):St:=⟨[(1,.pt 1 0 0)],[(1,.var (.agg [.lst .o 1 (nZ0.Nodes.map AV.z),.lst .o 4 (nZ0.Fibers.map (e_TFiber .o))]))]⟩
theorem w_w (nZ0:TNetwork) (sZ12:Int) (o:Int ⊕ (Unit ⊕ Bool)) (h:M_w nZ0 sZ12=some o):AWP (OkS Try.prog) A65L3 (qL [1,28,29,30] [1] (S_w nZ0) (qS (qX 2 [1] [1] (SX_w nZ0)) (qR V65 (fun r=>.b r))) o) (S_w nZ0 sZ12):=by
 unfold M_w at h
 simp only [ZC,S_w,A65L3]
 obtain ⟨cZ13,h⟩ | ⟨cZ13,h⟩:=cond_s h
 · obtain ⟨yZ14,hyZ14,h⟩:=bind_s h
   obtain ⟨hyZ14a,hyZ14b⟩:=geti_s hyZ14
   obtain ⟨cZ15,h⟩ | ⟨cZ15,h⟩:=cond_s h
   · cases h
     exact ZL (ZA cZ13 (ZA hyZ14a (ZA hyZ14b cZ15))) V65.eq_1
   · obtain ⟨cZ16,h⟩ | ⟨cZ16,h⟩:=cond_s h
     · cases h
       exact ZL (ZA cZ13 (ZA hyZ14a (ZA hyZ14b (ZA cZ15 cZ16)))) V65.eq_1
     · obtain ⟨cZ17,h⟩ | ⟨cZ17,h⟩:=cond_s h
       · cases h
         exact ZL (ZA cZ13 (ZA hyZ14a (ZA hyZ14b (ZA cZ15 (ZA cZ16 cZ17))))) V65.eq_1
       · obtain ⟨rZ18,hrZ18,h⟩:=bind_s h
         refine ZF (ZA cZ13 (ZA hyZ14a (ZA hyZ14b (ZA cZ15 (ZA cZ16 cZ17))))) ?_
         refine ZS (ZA cZ13 (ZA hyZ14a (ZA hyZ14b (ZA cZ15 (ZA cZ16 cZ17))))) (w_e _ _ _ hrZ18) ?_
         refine ZG ?_
         obtain ⟨cZ19,h⟩ | ⟨cZ19,h⟩:=cond_s h
         · cases h
           exact ZL (ZA cZ13 (ZA hyZ14a (ZA hyZ14b (ZA cZ15 (ZA cZ16 (ZA cZ17 cZ19)))))) V65.eq_1
         · obtain ⟨rZ20,hrZ20,h⟩:=bind_s h
           refine ZF (ZA cZ13 (ZA hyZ14a (ZA hyZ14b (ZA cZ15 (ZA cZ16 (ZA cZ17 cZ19)))))) ?_
           refine ZS (ZA cZ13 (ZA hyZ14a (ZA hyZ14b (ZA cZ15 (ZA cZ16 (ZA cZ17 cZ19)))))) (w_e _ _ _ hrZ20) ?_
           refine ZG ?_
           obtain ⟨cZ21,h⟩ | ⟨cZ21,h⟩:=cond_s h
           · cases h
             exact ZL (ZA cZ13 (ZA hyZ14a (ZA hyZ14b (ZA cZ15 (ZA cZ16 (ZA cZ17 (ZA cZ19 cZ21))))))) V65.eq_1
           · obtain ⟨cZ22,h⟩ | ⟨cZ22,h⟩:=cond_s h
             · obtain ⟨yZ23,hyZ23,h⟩:=bind_s h
               obtain ⟨hyZ23a,hyZ23b⟩:=geti_s hyZ23
               obtain ⟨rZ24,hrZ24,h⟩:=bind_s h
               refine ZF (ZA cZ13 (ZA hyZ14a (ZA hyZ14b (ZA cZ15 (ZA cZ16 (ZA cZ17 (ZA cZ19 (ZA cZ21 (ZA cZ22 (ZA hyZ23a hyZ23b)))))))))) ?_
               refine ZS (ZA cZ13 (ZA hyZ14a (ZA hyZ14b (ZA cZ15 (ZA cZ16 (ZA cZ17 (ZA cZ19 (ZA cZ21 (ZA cZ22 (ZA hyZ23a hyZ23b)))))))))) (w_dj _ _ hrZ24) ?_
               refine ZG ?_
               obtain ⟨cZ25,h⟩ | ⟨cZ25,h⟩:=cond_s h
               · cases h
                 exact ZL (ZA cZ13 (ZA hyZ14a (ZA hyZ14b (ZA cZ15 (ZA cZ16 (ZA cZ17 (ZA cZ19 (ZA cZ21 (ZA cZ22 (ZA hyZ23a (ZA hyZ23b cZ25))))))))))) V65.eq_1
               · cases h
                 exact ZL (ZA cZ13 (ZA hyZ14a (ZA hyZ14b (ZA cZ15 (ZA cZ16 (ZA cZ17 (ZA cZ19 (ZA cZ21 (ZA cZ22 (ZA hyZ23a (ZA hyZ23b cZ25))))))))))) (ZA S_w.eq_1 SX_w.eq_1)
             · cases h
               exact ZL (ZA cZ13 (ZA hyZ14a (ZA hyZ14b (ZA cZ15 (ZA cZ16 (ZA cZ17 (ZA cZ19 (ZA cZ21 cZ22)))))))) (ZA S_w.eq_1 SX_w.eq_1)
 · cases h
   exact ZL cZ13 (ZA S_w.eq_1 SX_w.eq_1)
theorem w_bn (nZ0:TNetwork) {r:Bool} (h:M_bn nZ0=some r):Ok Try.prog 65 [.agg [.lst .o 1 (nZ0.Nodes.map AV.z),.lst .o 4 (nZ0.Fibers.map (e_TFiber .o))]] ((fun r=>.b r) r):=by
 refine ok_of_body hmix m65 rfl ?_
 unfold M_bn at h
 simp only [ZC,A65,V65,body_eq]
 obtain ⟨oZ9,hoZ9,h⟩:=bind_s h
 try refine ZF trivial ?_
 refine join_rule (o:=oZ9) (blk_rule sideR (loop_rule (w_at nZ0) hoZ9 ?_)) (fun vZ10 hv=>?_) (fun xZ11 hv e τ hne hq=>?_)
 · exact ZK (ZA S_at.eq_1 SX_at.eq_1)
 · subst hv
   simp only [] at h
   simp only [ZC,SX_at,A65R2]
   obtain ⟨oZ26,hoZ26,h⟩:=bind_s h
   try refine ZF trivial ?_
   refine join_rule (o:=oZ26) (blk_rule sideR (loop_rule (w_w nZ0) hoZ26 ?_)) (fun vZ27 hv=>?_) (fun xZ28 hv e τ hne hq=>?_)
   · exact ZK (ZA S_w.eq_1 SX_w.eq_1)
   · subst hv
     simp only [] at h
     simp only [ZC,SX_w,A65R4]
     obtain ⟨rZ29,hrZ29,h⟩:=bind_s h
     refine ZF trivial ?_
     refine ZS trivial (w_e _ _ _ hrZ29) ?_
     refine ZG ?_
     obtain ⟨cZ30,h⟩ | ⟨cZ30,h⟩:=cond_s h
     · cases h
       exact ZL cZ30 V65.eq_1
     · cases h
       exact ZL cZ30 V65.eq_1
   · subst hv
     simp only [] at h
     obtain ⟨rfl,qZ31⟩:=hq
     cases h
     exact qZ31
 · subst hv
   simp only [] at h
   obtain ⟨rfl,qZ32⟩:=hq
   cases h
   exact qZ32
def S_x (nZ0:TNetwork) (sZ1:Int×List (List Int)) (v:Int×List Int):St:=⟨[(1,.pt 1 0 0),(3,.sl 3 0 sZ1.2.length),(4,.i sZ1.1),(5,.sl 5 0 v.2.length),(17,.lst .o 4 (nZ0.Fibers.map (e_TFiber .o))),(18,.i (nZ0.Fibers.length:Int)),(19,.i v.1)],[(1,.var (.agg [.lst .o 1 (nZ0.Nodes.map AV.z),.lst .o 4 (nZ0.Fibers.map (e_TFiber .o))])),(3,.arr 1 (sZ1.2.map (e_Li .u))),(5,.arr 1 (v.2.map AV.i))]⟩
def SX_x (nZ0:TNetwork) (sZ1:Int×List (List Int)) (v:List Int):St:=⟨[(1,.pt 1 0 0),(3,.sl 3 0 sZ1.2.length),(4,.i sZ1.1),(5,.sl 5 0 v.length)],[(1,.var (.agg [.lst .o 1 (nZ0.Nodes.map AV.z),.lst .o 4 (nZ0.Fibers.map (e_TFiber .o))])),(3,.arr 1 (sZ1.2.map (e_Li .u))),(5,.arr 1 (v.map AV.i))]⟩
theorem w_x (nZ0:TNetwork) (sZ1:Int×List (List Int)) (sZ3:Int×List Int) (o:(Int×List Int) ⊕ (List Int)) (h:M_x nZ0 sZ1 sZ3=some o):AWP (OkS Try.prog) A67L1 (qL [1,3,4,5,17,18,19] [1,3,5] (S_x nZ0 sZ1) (qX 2 [1,3,4,5] [1,3,5] (SX_x nZ0 sZ1)) o) (S_x nZ0 sZ1 sZ3):=by
 unfold M_x at h
 simp only [ZC,S_x,A67L1]
 obtain ⟨cZ4,h⟩ | ⟨cZ4,h⟩:=cond_s h
 · obtain ⟨yZ5,hyZ5,h⟩:=bind_s h
   obtain ⟨hyZ5a,hyZ5b⟩:=geti_s hyZ5
   obtain ⟨cZ6,h⟩ | ⟨cZ6,h⟩:=cond_s h
   · obtain ⟨lZ7,hlZ7,h⟩:=bnd_s h
     have eZ8:Row.arr 1 [(.i sZ3.1:AV)]=Row.arr 1 (lZ7.map AV.i):=by rw [← hlZ7]; rfl
     have jjZ9:lZ7.length=1:=by rw [← hlZ7]; rfl
     obtain ⟨uZ10,huZ10,h⟩:=bind_s h
     have huZ10g:=grd_s huZ10
     obtain ⟨lZ11,hlZ11,h⟩:=bnd_s h
     have eZ12:sZ3.2.map AV.i++lZ7.map AV.i=lZ11.map AV.i:=by rw [← hlZ11,List.map_append]
     have eZ13:sZ3.2.length+1=lZ11.length:=by simp [← hlZ7,← hlZ11] <;> omega
     rw [eZ13] at huZ10g
     cases h
     exact ZL (ZA cZ4 (ZA hyZ5a (ZA hyZ5b (ZA cZ6 (ZA eZ8 (ZA jjZ9 (ZA huZ10g (ZA eZ12 eZ13)))))))) (ZA S_x.eq_1 (ZA SX_x.eq_1 (ZA hlZ7.symm (ZA hlZ11.symm jjZ9))))
   · cases h
     exact ZL (ZA cZ4 (ZA hyZ5a (ZA hyZ5b cZ6))) (ZA S_x.eq_1 SX_x.eq_1)
 · cases h
   exact ZL cZ4 (ZA S_x.eq_1 SX_x.eq_1)
def S_y (nZ0:TNetwork) (v:Int×List (List Int)):St:=⟨[(1,.pt 1 0 0),(3,.sl 3 0 v.2.length),(4,.i v.1)],[(1,.var (.agg [.lst .o 1 (nZ0.Nodes.map AV.z),.lst .o 4 (nZ0.Fibers.map (e_TFiber .o))])),(3,.arr 1 (v.2.map (e_Li .u)))]⟩
def SX_y (nZ0:TNetwork) (v:List (List Int)):St:=⟨[(1,.pt 1 0 0),(3,.sl 3 0 v.length)],[(1,.var (.agg [.lst .o 1 (nZ0.Nodes.map AV.z),.lst .o 4 (nZ0.Fibers.map (e_TFiber .o))])),(3,.arr 1 (v.map (e_Li .u)))]⟩
theorem w_y (nZ0:TNetwork) (sZ1:Int×List (List Int)) (o:(Int×List (List Int)) ⊕ (List (List Int))) (h:M_y nZ0 sZ1=some o):AWP (OkS Try.prog) A67L3 (qL [1,3,4] [1,3] (S_y nZ0) (qX 0 [1,3] [1,3] (SX_y nZ0)) o) (S_y nZ0 sZ1):=by
 unfold M_y at h
 simp only [ZC,S_y,A67L3]
 obtain ⟨cZ2,h⟩ | ⟨cZ2,h⟩:=cond_s h
 · obtain ⟨oZ14,hoZ14,h⟩:=bind_s h
   try refine ZF cZ2 ?_
   refine join_rule0 (blk_rule0 (loop_rule (w_x nZ0 sZ1) hoZ14 ?_)) ?_
   · exact ZK (ZA S_x.eq_1 SX_x.eq_1)
   · simp only [ZC,SX_x,A67R2]
     obtain ⟨cZ15,h⟩ | ⟨cZ15,h⟩:=cond_s h
     · obtain ⟨lZ16,hlZ16,h⟩:=bnd_s h
       have eZ17:Row.arr 1 [(.lst .u 1 (oZ14.map AV.i):AV)]=Row.arr 1 (lZ16.map (e_Li .u)):=by rw [← hlZ16]; rfl
       have jjZ18:lZ16.length=1:=by rw [← hlZ16]; rfl
       obtain ⟨uZ19,huZ19,h⟩:=bind_s h
       have huZ19g:=grd_s huZ19
       obtain ⟨lZ20,hlZ20,h⟩:=bnd_s h
       have eZ21:sZ1.2.map (e_Li .u)++lZ16.map (e_Li .u)=lZ20.map (e_Li .u):=by rw [← hlZ20,List.map_append]
       have eZ22:sZ1.2.length+1=lZ20.length:=by simp [← hlZ16,← hlZ20] <;> omega
       rw [eZ22] at huZ19g
       cases h
       exact ZL (ZA cZ2 (ZA cZ15 (ZA eZ17 (ZA jjZ18 (ZA huZ19g (ZA eZ21 eZ22)))))) (ZA S_y.eq_1 (ZA SX_y.eq_1 (ZA hlZ16.symm (ZA hlZ20.symm jjZ18))))
     · cases h
       exact ZL (ZA cZ2 cZ15) (ZA S_y.eq_1 SX_y.eq_1)
 · cases h
   exact ZL cZ2 (ZA S_y.eq_1 SX_y.eq_1)
def S_z (nZ0:TNetwork) (v:Int×List (List Int)):St:=⟨[(3,.sl 3 0 v.2.length),(41,.lst .o 4 (nZ0.Fibers.map (e_TFiber .o))),(42,.i (nZ0.Fibers.length:Int)),(43,.i v.1)],[(3,.arr 1 (v.2.map (e_Li .u)))]⟩
def SX_z (v:List (List Int)):St:=⟨[(3,.sl 3 0 v.length)],[(3,.arr 1 (v.map (e_Li .u)))]⟩
theorem w_z (nZ0:TNetwork) (sZ24:Int×List (List Int)) (o:(Int×List (List Int)) ⊕ (List (List Int))) (h:M_z nZ0 sZ24=some o):AWP (OkS Try.prog) A67L5 (qL [3,41,42,43] [3] (S_z nZ0) (qX 4 [3] [3] (SX_z)) o) (S_z nZ0 sZ24):=by
 unfold M_z at h
 simp only [ZC,S_z,A67L5]
 obtain ⟨cZ25,h⟩ | ⟨cZ25,h⟩:=cond_s h
 · obtain ⟨yZ26,hyZ26,h⟩:=bind_s h
   obtain ⟨hyZ26a,hyZ26b⟩:=geti_s hyZ26
   obtain ⟨cZ27,h⟩ | ⟨cZ27,h⟩:=cond_s h
   · obtain ⟨lZ28,hlZ28,h⟩:=bnd_s h
     have eZ29:Row.arr 1 [(.i sZ24.1:AV)]=Row.arr 1 (lZ28.map AV.i):=by rw [← hlZ28]; rfl
     have jjZ30:lZ28.length=1:=by rw [← hlZ28]; rfl
     have nZ31:sub (lZ28.map AV.i) 0 1=lZ28.map AV.i:=sub_n _ (by simp [← hlZ28])
     obtain ⟨lZ32,hlZ32,h⟩:=bnd_s h
     have eZ33:Row.arr 1 [(.lst .u 1 (lZ28.map AV.i):AV)]=Row.arr 1 (lZ32.map (e_Li .u)):=by rw [← hlZ32]; rfl
     have jjZ34:lZ32.length=1:=by rw [← hlZ32]; rfl
     obtain ⟨uZ35,huZ35,h⟩:=bind_s h
     have huZ35g:=grd_s huZ35
     obtain ⟨lZ36,hlZ36,h⟩:=bnd_s h
     have eZ37:sZ24.2.map (e_Li .u)++lZ32.map (e_Li .u)=lZ36.map (e_Li .u):=by rw [← hlZ36,List.map_append]
     have eZ38:sZ24.2.length+1=lZ36.length:=by simp [← hlZ28,← hlZ32,← hlZ36] <;> omega
     rw [eZ38] at huZ35g
     cases h
     exact ZL (ZA cZ25 (ZA hyZ26a (ZA hyZ26b (ZA cZ27 (ZA eZ29 (ZA jjZ30 (ZA nZ31 (ZA eZ33 (ZA jjZ34 (ZA huZ35g (ZA eZ37 eZ38))))))))))) (ZA S_z.eq_1 (ZA SX_z.eq_1 (ZA hlZ28.symm (ZA hlZ32.symm (ZA hlZ36.symm (ZA jjZ30 jjZ34))))))
   · cases h
     exact ZL (ZA cZ25 (ZA hyZ26a (ZA hyZ26b cZ27))) (ZA S_z.eq_1 SX_z.eq_1)
 · cases h
   exact ZL cZ25 (ZA S_z.eq_1 SX_z.eq_1)
theorem w_bz (nZ0:TNetwork) {r:List (List Int)} (h:M_bz nZ0=some r):Ok Try.prog 67 [.agg [.lst .o 1 (nZ0.Nodes.map AV.z),.lst .o 4 (nZ0.Fibers.map (e_TFiber .o))]] ((fun r=>.lst .u 1 (r.map (e_Li .u))) r):=by
 refine ok_of_body hmix m67 rfl ?_
 unfold M_bz at h
 simp only [ZC,A67,V67,body_eq]
 obtain ⟨oZ23,hoZ23,h⟩:=bind_s h
 try refine ZF trivial ?_
 refine join_rule0 (blk_rule0 (loop_rule (w_y nZ0) hoZ23 ?_)) ?_
 · exact ZK (ZA S_y.eq_1 SX_y.eq_1)
 · simp only [ZC,SX_y,A67R4]
   obtain ⟨oZ39,hoZ39,h⟩:=bind_s h
   try refine ZF trivial ?_
   refine join_rule0 (blk_rule0 (loop_rule (w_z nZ0) hoZ39 ?_)) ?_
   · exact ZK (ZA S_z.eq_1 SX_z.eq_1)
   · simp only [ZC,SX_z,A67R6]
     cases h
     exact ZL trivial V67.eq_1
theorem w_dk (dZ0:Int) (p1Z0:TOutage) {r:Bool} (h:M_dk dZ0 p1Z0=some r):Ok Try.prog 69 [.i dZ0,.bp .o (.agg [.i p1Z0.Unit,.lst .o 1 (p1Z0.Down.map AV.i)]) 0] ((fun r=>.b r) r):=by
 refine ok_of_body hmix m69 rfl ?_
 unfold M_dk at h
 simp only [ZC,A69,V69,body_eq]
 obtain ⟨rZ1,hrZ1,h⟩:=bind_s h
 refine ZF trivial ?_
 refine ZS trivial (w_e _ _ _ hrZ1) ?_
 refine ZG ?_
 cases h
 exact ZL trivial V69.eq_1
def S_au (sZ0:List Int) (F_fZ0:Nat) (C_fZ0:List AV) (v:Int):St:=⟨[(0,.lst .o 1 (sZ0.map AV.i)),(1,.fn F_fZ0 C_fZ0),(7,.i (sZ0.length:Int)),(8,.i v)],[]⟩
def SX_au (v:Unit):St:=⟨[],[]⟩
theorem w_au (sZ0:List Int) (fZ0:Int→Option Bool) (F_fZ0:Nat) (C_fZ0:List AV) (hC_fZ0:Fixed C_fZ0) (hf_fZ0:∀ (x0:Int) (r:Bool),fZ0 x0=some r→Ok Try.prog F_fZ0 ((.i x0)::C_fZ0) (.b r)) (sZ1:Int) (o:Int ⊕ (Unit ⊕ Int)) (h:M_au sZ0 fZ0 sZ1=some o):AWP (OkS Try.prog) A116L1 (qL [0,1,7,8] [] (S_au sZ0 F_fZ0 C_fZ0) (qS (qX 0 [] [] (SX_au)) (qR V116 (fun r=>.i r))) o) (S_au sZ0 F_fZ0 C_fZ0 sZ1):=by
 unfold M_au at h
 simp only [ZC,S_au,A116L1]
 obtain ⟨cZ2,h⟩ | ⟨cZ2,h⟩:=cond_s h
 · obtain ⟨yZ3,hyZ3,h⟩:=bind_s h
   obtain ⟨hyZ3a,hyZ3b⟩:=geti_s hyZ3
   obtain ⟨rZ4,hrZ4,h⟩:=bind_s h
   refine ZF (ZA cZ2 (ZA hyZ3a hyZ3b)) ?_
   refine ZS (ZA cZ2 (ZA hyZ3a (ZA hyZ3b hC_fZ0.1))) (hf_fZ0 _ _ hrZ4) ?_
   refine ZG ?_
   obtain ⟨cZ5,h⟩ | ⟨cZ5,h⟩:=cond_s h
   · cases h
     exact ZL (ZA cZ2 (ZA hyZ3a (ZA hyZ3b cZ5))) (ZA V116.eq_1 (ZA hC_fZ0.2 ((fixed_ren hC_fZ0))))
   · cases h
     exact ZL (ZA cZ2 (ZA hyZ3a (ZA hyZ3b cZ5))) (ZA S_au.eq_1 (ZA SX_au.eq_1 (ZA hC_fZ0.2 ((fixed_ren hC_fZ0)))))
 · cases h
   exact ZL cZ2 (ZA S_au.eq_1 (ZA SX_au.eq_1 (ZA hC_fZ0.2 ((fixed_ren hC_fZ0)))))
theorem w_ea (sZ0:List Int) (fZ0:Int→Option Bool) {r:Int} (h:M_ea sZ0 fZ0=some r) (F_fZ0:Nat) (C_fZ0:List AV) (hC_fZ0:Fixed C_fZ0) (hf_fZ0:∀ (x0:Int) (r:Bool),fZ0 x0=some r→Ok Try.prog F_fZ0 ((.i x0)::C_fZ0) (.b r)):Ok Try.prog 116 [.lst .o 1 (sZ0.map AV.i),.fn F_fZ0 C_fZ0] ((fun r=>.i r) r):=by
 refine ok_of_body hmix m116 rfl ?_
 unfold M_ea at h
 simp only [ZC,A116,V116,body_eq]
 obtain ⟨oZ6,hoZ6,h⟩:=bind_s h
 try refine ZF trivial ?_
 refine join_rule (o:=oZ6) (blk_rule sideR (loop_rule (w_au sZ0 fZ0 F_fZ0 C_fZ0 hC_fZ0 hf_fZ0) hoZ6 ?_)) (fun vZ7 hv=>?_) (fun xZ8 hv e τ hne hq=>?_)
 · exact ZK (ZA S_au.eq_1 (ZA SX_au.eq_1 (ZA hC_fZ0.2 ((fixed_ren hC_fZ0)))))
 · subst hv
   simp only [] at h
   simp only [ZC,SX_au,A116R2]
   cases h
   exact ZL trivial (ZA V116.eq_1 (ZA hC_fZ0.2 ((fixed_ren hC_fZ0))))
 · subst hv
   simp only [] at h
   obtain ⟨rfl,qZ9⟩:=hq
   cases h
   exact qZ9
theorem w_ca (sZ0:List Int) (fZ0:Int→Option Bool) {r:Bool} (h:M_ca sZ0 fZ0=some r) (F_fZ0:Nat) (C_fZ0:List AV) (hC_fZ0:Fixed C_fZ0) (hf_fZ0:∀ (x0:Int) (r:Bool),fZ0 x0=some r→Ok Try.prog F_fZ0 ((.i x0)::C_fZ0) (.b r)):Ok Try.prog 68 [.lst .o 1 (sZ0.map AV.i),.fn F_fZ0 C_fZ0] ((fun r=>.b r) r):=by
 refine ok_of_body hmix m68 rfl ?_
 unfold M_ca at h
 simp only [ZC,A68,V68,body_eq]
 obtain ⟨rZ1,hrZ1,h⟩:=bind_s h
 refine ZF trivial ?_
 refine ZS hC_fZ0.1 (w_ea _ _ hrZ1 F_fZ0 C_fZ0 hC_fZ0 hf_fZ0) ?_
 refine ZG ?_
 cases h
 exact ZL trivial (ZA V68.eq_1 (ZA hC_fZ0.2 ((fixed_ren hC_fZ0))))
theorem w_bc (nZ0:TNetwork) (oZ0:TOutage) {r:Bool} (h:M_bc nZ0 oZ0=some r):Ok Try.prog 20 [.agg [.lst .o 1 (nZ0.Nodes.map AV.z),.lst .o 4 (nZ0.Fibers.map (e_TFiber .o))],.agg [.i oZ0.Unit,.lst .o 1 (oZ0.Down.map AV.i)]] ((fun r=>.b r) r):=by
 refine ok_of_body hmix m20 rfl ?_
 unfold M_bc at h
 simp only [ZC,A20,V20,body_eq]
 obtain ⟨rZ1,hrZ1,h⟩:=bind_s h
 refine ZF trivial ?_
 refine ZS trivial (w_bn _ hrZ1) ?_
 refine ZG ?_
 obtain ⟨cZ2,h⟩ | ⟨cZ2,h⟩:=cond_s h
 · obtain ⟨rZ3,hrZ3,h⟩:=bind_s h
   refine ZF cZ2 ?_
   refine ZS cZ2 (w_e _ _ _ hrZ3) ?_
   refine ZG ?_
   obtain ⟨cZ4,h⟩ | ⟨cZ4,h⟩:=cond_s h
   · obtain ⟨rZ5,hrZ5,h⟩:=bind_s h
     refine ZF (ZA cZ2 cZ4) ?_
     refine ZU (ZA cZ2 cZ4) (w_bz _ hrZ5) ?_
     refine ZG ?_
     obtain ⟨cZ6,h⟩ | ⟨cZ6,h⟩:=cond_s h
     · obtain ⟨rZ7,hrZ7,h⟩:=bind_s h
       refine ZF (ZA cZ2 (ZA cZ4 cZ6)) ?_
       refine ZS (ZA cZ2 (ZA cZ4 cZ6)) (w_ca _ _ hrZ7 69 [.bp .o (.agg [.i oZ0.Unit,.lst .o 1 (oZ0.Down.map AV.i)]) 0] ⟨fun ρ k=>by simp only [VS1,VS2,VS3,VS4,VS5,VS6,VT1,VT2,finM_ret,finM_nrm,decide_true,decide_false,List.nodup_nil,List.nodup_cons,oks_p,oks_m,oks_h,ne_eq,not_false_eq_true,Int.reduceEq,Int.reduceNe,true_and,false_and,Nat.reduceSub,Nat.reduceMul,↓reduceIte,reduceCtorEq,Nat.reduceEqDiff,Nat.reduceAdd,Nat.reduceLeDiff,Int.reduceLE],by simp [mentsL,AV.ments]⟩ (fun _ _ h=>w_dk _ _ h)) ?_
       refine ZG ?_
       cases h
       exact ZL (ZA cZ2 (ZA cZ4 cZ6)) V20.eq_1
     · cases h
       exact ZL (ZA cZ2 (ZA cZ4 cZ6)) V20.eq_1
   · cases h
     exact ZL (ZA cZ2 cZ4) V20.eq_1
 · cases h
   exact ZL cZ2 V20.eq_1
theorem w_co (fZ0:TFiber) (nodeZ0:Int) {r:Int} (h:M_co fZ0 nodeZ0=some r):Ok Try.prog 165 [.agg [.i fZ0.A,.i fZ0.B,.i fZ0.Length,.i fZ0.Risk],.i nodeZ0] ((fun r=>.i r) r):=by
 refine ok_of_body hmix m165 rfl ?_
 unfold M_co at h
 simp only [ZC,A165,V165,body_eq]
 obtain ⟨cZ1,h⟩ | ⟨cZ1,h⟩:=cond_s h
 · cases h
   exact ZL cZ1 V165.eq_1
 · obtain ⟨cZ2,h⟩ | ⟨cZ2,h⟩:=cond_s h
   · cases h
     exact ZL (ZA cZ1 cZ2) V165.eq_1
   · cases h
     exact ZL (ZA cZ1 cZ2) V165.eq_1
def S_av (sZ0:List Int) (vZ0:Int) (v:Int):St:=⟨[(0,.lst .o 1 (sZ0.map AV.i)),(1,.i vZ0),(7,.i (sZ0.length:Int)),(8,.i v)],[]⟩
def SX_av (v:Unit):St:=⟨[],[]⟩
theorem w_av (sZ0:List Int) (vZ0:Int) (sZ1:Int) (o:Int ⊕ (Unit ⊕ Int)) (h:M_av sZ0 vZ0 sZ1=some o):AWP (OkS Try.prog) A142L1 (qL [0,1,7,8] [] (S_av sZ0 vZ0) (qS (qX 0 [] [] (SX_av)) (qR V142 (fun r=>.i r))) o) (S_av sZ0 vZ0 sZ1):=by
 unfold M_av at h
 simp only [ZC,S_av,A142L1]
 obtain ⟨cZ2,h⟩ | ⟨cZ2,h⟩:=cond_s h
 · obtain ⟨yZ3,hyZ3,h⟩:=bind_s h
   obtain ⟨hyZ3a,hyZ3b⟩:=geti_s hyZ3
   obtain ⟨cZ4,h⟩ | ⟨cZ4,h⟩:=cond_s h
   · cases h
     exact ZL (ZA cZ2 (ZA hyZ3a (ZA hyZ3b cZ4))) V142.eq_1
   · cases h
     exact ZL (ZA cZ2 (ZA hyZ3a (ZA hyZ3b cZ4))) (ZA S_av.eq_1 SX_av.eq_1)
 · cases h
   exact ZL cZ2 (ZA S_av.eq_1 SX_av.eq_1)
theorem w_eb (sZ0:List Int) (vZ0:Int) {r:Int} (h:M_eb sZ0 vZ0=some r):Ok Try.prog 142 [.lst .o 1 (sZ0.map AV.i),.i vZ0] ((fun r=>.i r) r):=by
 refine ok_of_body hmix m142 rfl ?_
 unfold M_eb at h
 simp only [ZC,A142,V142,body_eq]
 obtain ⟨oZ5,hoZ5,h⟩:=bind_s h
 try refine ZF trivial ?_
 refine join_rule (o:=oZ5) (blk_rule sideR (loop_rule (w_av sZ0 vZ0) hoZ5 ?_)) (fun vZ6 hv=>?_) (fun xZ7 hv e τ hne hq=>?_)
 · exact ZK (ZA S_av.eq_1 SX_av.eq_1)
 · subst hv
   simp only [] at h
   simp only [ZC,SX_av,A142R2]
   cases h
   exact ZL trivial V142.eq_1
 · subst hv
   simp only [] at h
   obtain ⟨rfl,qZ8⟩:=hq
   cases h
   exact qZ8
theorem w_bo (sZ0:List Int) (vZ0:Int) {r:Bool} (h:M_bo sZ0 vZ0=some r):Ok Try.prog 118 [.lst .o 1 (sZ0.map AV.i),.i vZ0] ((fun r=>.b r) r):=by
 refine ok_of_body hmix m118 rfl ?_
 unfold M_bo at h
 simp only [ZC,A118,V118,body_eq]
 obtain ⟨rZ1,hrZ1,h⟩:=bind_s h
 refine ZF trivial ?_
 refine ZS trivial (w_eb _ _ hrZ1) ?_
 refine ZG ?_
 cases h
 exact ZL trivial V118.eq_1
def S_aw (nZ0:TNetwork) (rZ0:TRoute) (v:Int×Int×List Int):St:=⟨[(2,.pt 2 0 0),(6,.sl 6 0 v.2.2.length),(7,.i v.1),(30,.lst .o 1 (rZ0.Fibers.map AV.i)),(31,.i (rZ0.Fibers.length:Int)),(32,.i v.2.1)],[(2,.var (.agg [.lst .o 1 (nZ0.Nodes.map AV.z),.lst .o 4 (nZ0.Fibers.map (e_TFiber .o))])),(6,.arr 1 (v.2.2.map AV.i))]⟩
def SX_aw (v:List Int):St:=⟨[(6,.sl 6 0 v.length)],[(6,.arr 1 (v.map AV.i))]⟩
theorem w_aw (nZ0:TNetwork) (rZ0:TRoute) (sZ8:Int×Int×List Int) (o:(Int×Int×List Int) ⊕ ((List Int) ⊕ (List Int×Bool))) (h:M_aw nZ0 rZ0 sZ8=some o):AWP (OkS Try.prog) A150L3 (qL [2,6,7,30,31,32] [2,6] (S_aw nZ0 rZ0) (qS (qX 0 [6] [6] (SX_aw)) (qR V150 (fun r=>.tup [.lst .u 1 (r.1.map AV.i),.b r.2]))) o) (S_aw nZ0 rZ0 sZ8):=by
 unfold M_aw at h
 simp only [ZC,S_aw,A150L3]
 obtain ⟨cZ9,h⟩ | ⟨cZ9,h⟩:=cond_s h
 · obtain ⟨yZ10,hyZ10,h⟩:=bind_s h
   obtain ⟨hyZ10a,hyZ10b⟩:=geti_s hyZ10
   obtain ⟨rZ11,hrZ11,h⟩:=bind_s h
   refine ZF (ZA cZ9 (ZA hyZ10a hyZ10b)) ?_
   refine ZS (ZA cZ9 (ZA hyZ10a hyZ10b)) (w_e _ _ _ hrZ11) ?_
   refine ZG ?_
   obtain ⟨cZ12,h⟩ | ⟨cZ12,h⟩:=cond_s h
   · cases h
     exact ZL (ZA cZ9 (ZA hyZ10a (ZA hyZ10b cZ12))) V150.eq_1
   · obtain ⟨yZ13,hyZ13,h⟩:=bind_s h
     obtain ⟨hyZ13a,hyZ13b⟩:=geti_s hyZ13
     obtain ⟨rZ14,hrZ14,h⟩:=bind_s h
     refine ZF (ZA cZ9 (ZA hyZ10a (ZA hyZ10b (ZA cZ12 (ZA hyZ13a hyZ13b))))) ?_
     refine ZS (ZA cZ9 (ZA hyZ10a (ZA hyZ10b (ZA cZ12 (ZA hyZ13a hyZ13b))))) (w_co _ _ hrZ14) ?_
     refine ZG ?_
     obtain ⟨oZ17,hoZ17,h⟩:=bind_s h
     try refine ZF (ZA cZ9 (ZA hyZ10a (ZA hyZ10b (ZA cZ12 (ZA hyZ13a hyZ13b))))) ?_
     refine join_rule0 (sh:=(fun v=>⟨[(2,.pt 2 0 0),(6,.sl 6 0 sZ8.2.2.length),(7,.i rZ14),(30,.lst .o 1 (rZ0.Fibers.map AV.i)),(31,.i (rZ0.Fibers.length:Int)),(32,.i sZ8.2.1),(56,.b v)],[(2,.var (.agg [.lst .o 1 (nZ0.Nodes.map AV.z),.lst .o 4 (nZ0.Fibers.map (e_TFiber .o))])),(6,.arr 1 (sZ8.2.2.map AV.i))]⟩)) (s:=oZ17) ?_ ?_
     · replace h:=hoZ17
       obtain ⟨cZ15,h⟩ | ⟨cZ15,h⟩:=cond_s h
       · cases h
         exact ZL (ZA cZ9 (ZA hyZ10a (ZA hyZ10b (ZA cZ12 (ZA hyZ13a (ZA hyZ13b cZ15)))))) trivial
       · obtain ⟨rZ16,hrZ16,h⟩:=bind_s h
         refine ZF (ZA cZ9 (ZA hyZ10a (ZA hyZ10b (ZA cZ12 (ZA hyZ13a (ZA hyZ13b cZ15)))))) ?_
         refine ZS (ZA cZ9 (ZA hyZ10a (ZA hyZ10b (ZA cZ12 (ZA hyZ13a (ZA hyZ13b cZ15)))))) (w_bo _ _ hrZ16) ?_
         refine ZG ?_
         cases h
         exact ZL (ZA cZ9 (ZA hyZ10a (ZA hyZ10b (ZA cZ12 (ZA hyZ13a (ZA hyZ13b cZ15)))))) trivial
     · simp only [ZC,A150R2]
       obtain ⟨cZ18,h⟩ | ⟨cZ18,h⟩:=cond_s h
       · cases h
         exact ZL (ZA cZ9 (ZA hyZ10a (ZA hyZ10b (ZA cZ12 (ZA hyZ13a (ZA hyZ13b cZ18)))))) V150.eq_1
       · obtain ⟨lZ19,hlZ19,h⟩:=bnd_s h
         have eZ20:Row.arr 1 [(.i rZ14:AV)]=Row.arr 1 (lZ19.map AV.i):=by rw [← hlZ19]; rfl
         have jjZ21:lZ19.length=1:=by rw [← hlZ19]; rfl
         obtain ⟨uZ22,huZ22,h⟩:=bind_s h
         have huZ22g:=grd_s huZ22
         obtain ⟨lZ23,hlZ23,h⟩:=bnd_s h
         have eZ24:sZ8.2.2.map AV.i++lZ19.map AV.i=lZ23.map AV.i:=by rw [← hlZ23,List.map_append]
         have eZ25:sZ8.2.2.length+1=lZ23.length:=by simp [← hlZ19,← hlZ23] <;> omega
         rw [eZ25] at huZ22g
         cases h
         exact ZL (ZA cZ9 (ZA hyZ10a (ZA hyZ10b (ZA cZ12 (ZA hyZ13a (ZA hyZ13b (ZA cZ18 (ZA eZ20 (ZA jjZ21 (ZA huZ22g (ZA eZ24 eZ25))))))))))) (ZA S_aw.eq_1 (ZA SX_aw.eq_1 (ZA hlZ19.symm (ZA hlZ23.symm jjZ21))))
 · cases h
   exact ZL cZ9 (ZA S_aw.eq_1 SX_aw.eq_1)
theorem w_dl (nZ0:TNetwork) (rZ0:TRoute) {r:List Int×Bool} (h:M_dl nZ0 rZ0=some r):Ok Try.prog 150 [.agg [.lst .o 1 (nZ0.Nodes.map AV.z),.lst .o 4 (nZ0.Fibers.map (e_TFiber .o))],.agg [.i rZ0.Start,.lst .o 1 (rZ0.Fibers.map AV.i)]] ((fun r=>.tup [.lst .u 1 (r.1.map AV.i),.b r.2]) r):=by
 refine ok_of_body hmix m150 rfl ?_
 unfold M_dl at h
 simp only [ZC,A150,V150,body_eq]
 obtain ⟨oZ3,hoZ3,h⟩:=bind_s h
 try refine ZF trivial ?_
 refine join_rule0 (sh:=(fun v=>⟨[(2,.pt 2 0 0),(3,.pt 3 0 0),(23,.b v)],[(2,.var (.agg [.lst .o 1 (nZ0.Nodes.map AV.z),.lst .o 4 (nZ0.Fibers.map (e_TFiber .o))])),(3,.var (.agg [.i rZ0.Start,.lst .o 1 (rZ0.Fibers.map AV.i)]))]⟩)) (s:=oZ3) ?_ ?_
 · replace h:=hoZ3
   obtain ⟨rZ1,hrZ1,h⟩:=bind_s h
   refine ZF trivial ?_
   refine ZS trivial (w_e _ _ _ hrZ1) ?_
   refine ZG ?_
   obtain ⟨cZ2,h⟩ | ⟨cZ2,h⟩:=cond_s h
   · cases h
     exact ZL cZ2 trivial
   · cases h
     exact ZL cZ2 trivial
 · simp only [ZC,A150R1]
   obtain ⟨cZ4,h⟩ | ⟨cZ4,h⟩:=cond_s h
   · cases h
     exact ZL cZ4 V150.eq_1
   · obtain ⟨lZ5,hlZ5,h⟩:=bnd_s h
     have eZ6:Row.arr 1 [(.i rZ0.Start:AV)]=Row.arr 1 (lZ5.map AV.i):=by rw [← hlZ5]; rfl
     have jjZ7:lZ5.length=1:=by rw [← hlZ5]; rfl
     obtain ⟨oZ26,hoZ26,h⟩:=bind_s h
     try refine ZF (ZA cZ4 (ZA eZ6 jjZ7)) ?_
     refine join_rule (o:=oZ26) (blk_rule sideR (loop_rule (w_aw nZ0 rZ0) hoZ26 ?_)) (fun vZ27 hv=>?_) (fun xZ28 hv e τ hne hq=>?_)
     · exact ZK (ZA S_aw.eq_1 (ZA SX_aw.eq_1 (ZA hlZ5.symm jjZ7)))
     · subst hv
       simp only [] at h
       simp only [ZC,SX_aw,A150R4]
       cases h
       exact ZL (ZA cZ4 (ZA eZ6 jjZ7)) (ZA V150.eq_1 jjZ7)
     · subst hv
       simp only [] at h
       obtain ⟨rfl,qZ29⟩:=hq
       cases h
       exact qZ29
theorem w_ec (nZ0:TNetwork) (rZ0:TRoute) {r:List Int×Bool} (h:M_ec nZ0 rZ0=some r):Ok Try.prog 137 [.agg [.lst .o 1 (nZ0.Nodes.map AV.z),.lst .o 4 (nZ0.Fibers.map (e_TFiber .o))],.agg [.i rZ0.Start,.lst .o 1 (rZ0.Fibers.map AV.i)]] ((fun r=>.tup [.lst .u 1 (r.1.map AV.i),.b r.2]) r):=by
 refine ok_of_body hmix m137 rfl ?_
 unfold M_ec at h
 simp only [ZC,A137,V137,body_eq]
 obtain ⟨rZ1,hrZ1,h⟩:=bind_s h
 refine ZF trivial ?_
 refine ZS trivial (w_bn _ hrZ1) ?_
 refine ZG ?_
 obtain ⟨cZ2,h⟩ | ⟨cZ2,h⟩:=cond_s h
 · cases h
   exact ZL cZ2 V137.eq_1
 · obtain ⟨rZ3,hrZ3,h⟩:=bind_s h
   refine ZF cZ2 ?_
   refine ZU cZ2 (w_dl _ _ hrZ3) ?_
   refine ZG ?_
   cases h
   exact ZL cZ2 V137.eq_1
theorem w_bp (nZ0:TNetwork) (rZ0:TRoute) {r:Bool} (h:M_bp nZ0 rZ0=some r):Ok Try.prog 108 [.agg [.lst .o 1 (nZ0.Nodes.map AV.z),.lst .o 4 (nZ0.Fibers.map (e_TFiber .o))],.agg [.i rZ0.Start,.lst .o 1 (rZ0.Fibers.map AV.i)]] ((fun r=>.b r) r):=by
 refine ok_of_body hmix m108 rfl ?_
 unfold M_bp at h
 simp only [ZC,A108,V108,body_eq]
 obtain ⟨rZ1,hrZ1,h⟩:=bind_s h
 refine ZF trivial ?_
 refine ZU trivial (w_ec _ _ hrZ1) ?_
 refine ZG ?_
 cases h
 exact ZL trivial V108.eq_1
theorem w_dw (nZ0:TNetwork) (aZ0:TRoute) (bZ0:TRoute) {r:Bool} (h:M_dw nZ0 aZ0 bZ0=some r):Ok Try.prog 105 [.agg [.lst .o 1 (nZ0.Nodes.map AV.z),.lst .o 4 (nZ0.Fibers.map (e_TFiber .o))],.agg [.i aZ0.Start,.lst .o 1 (aZ0.Fibers.map AV.i)],.agg [.i bZ0.Start,.lst .o 1 (bZ0.Fibers.map AV.i)]] ((fun r=>.b r) r):=by
 refine ok_of_body hmix m105 rfl ?_
 unfold M_dw at h
 simp only [ZC,A105,V105,body_eq]
 obtain ⟨rZ1,hrZ1,h⟩:=bind_s h
 refine ZF trivial ?_
 refine ZS trivial (w_bp _ _ hrZ1) ?_
 refine ZG ?_
 obtain ⟨cZ2,h⟩ | ⟨cZ2,h⟩:=cond_s h
 · obtain ⟨rZ3,hrZ3,h⟩:=bind_s h
   refine ZF cZ2 ?_
   refine ZS cZ2 (w_bp _ _ hrZ3) ?_
   refine ZG ?_
   cases h
   exact ZL cZ2 V105.eq_1
 · cases h
   exact ZL cZ2 V105.eq_1
theorem w_eg (xZ0:Int) {r:Int} (h:M_eg xZ0=some r):Ok Try.prog 164 [.sc (.int .u64 xZ0)] ((fun r=>.i r) r):=by
 refine ok_of_body hmix m164 rfl ?_
 unfold M_eg at h
 simp only [ZC,A164,V164,body_eq]
 obtain ⟨oZ2,hoZ2,h⟩:=bind_s h
 try refine ZF trivial ?_
 refine join_rule0 (sh:=(fun v=>⟨[(0,.sc (.int .u64 v.1)),(2,.i v.2)],[]⟩)) (s:=oZ2) ?_ ?_
 · replace h:=hoZ2
   obtain ⟨cZ1,h⟩ | ⟨cZ1,h⟩:=cond_s h
   · cases h
     exact ZL cZ1 trivial
   · cases h
     exact ZL cZ1 trivial
 · simp only [ZC,A164R1]
   obtain ⟨oZ4,hoZ4,h⟩:=bind_s h
   try refine ZF trivial ?_
   refine join_rule0 (sh:=(fun v=>⟨[(0,.sc (.int .u64 v.1)),(2,.i v.2)],[]⟩)) (s:=oZ4) ?_ ?_
   · replace h:=hoZ4
     obtain ⟨cZ3,h⟩ | ⟨cZ3,h⟩:=cond_s h
     · cases h
       exact ZL cZ3 trivial
     · cases h
       exact ZL cZ3 trivial
   · simp only [ZC,A164R2]
     obtain ⟨oZ6,hoZ6,h⟩:=bind_s h
     try refine ZF trivial ?_
     refine join_rule0 (sh:=(fun v=>⟨[(0,.sc (.int .u64 v.1)),(2,.i v.2)],[]⟩)) (s:=oZ6) ?_ ?_
     · replace h:=hoZ6
       obtain ⟨cZ5,h⟩ | ⟨cZ5,h⟩:=cond_s h
       · cases h
         exact ZL cZ5 trivial
       · cases h
         exact ZL cZ5 trivial
     · simp only [ZC,A164R3]
       obtain ⟨yZ7,hyZ7,h⟩:=bind_s h
       obtain ⟨hyZ7a,hyZ7b⟩:=getz_s hyZ7
       cases h
       exact ZL (ZA hyZ7a hyZ7b) V164.eq_1
theorem w_dm (xZ0:Int) {r:Int} (h:M_dm xZ0=some r):Ok Try.prog 149 [.sc (.int .u64 xZ0)] ((fun r=>.i r) r):=by
 refine ok_of_body hmix m149 rfl ?_
 unfold M_dm at h
 simp only [ZC,A149,V149,body_eq]
 obtain ⟨rZ1,hrZ1,h⟩:=bind_s h
 refine ZF trivial ?_
 refine ZS trivial (w_eg _ hrZ1) ?_
 refine ZG ?_
 cases h
 exact ZL trivial V149.eq_1
theorem w_dn (xZ0:Int) (yZ0:Int) {r:Bool} (h:M_dn xZ0 yZ0=some r):Ok Try.prog 160 [.i xZ0,.i yZ0] ((fun r=>.b r) r):=by
 refine ok_of_body hmix m160 rfl ?_
 unfold M_dn at h
 simp only [ZC,A160,V160,body_eq]
 obtain ⟨rZ1,hrZ1,h⟩:=bind_s h
 refine ZF trivial ?_
 refine ZS trivial (w_bf _ hrZ1) ?_
 refine ZG ?_
 obtain ⟨cZ2,h⟩ | ⟨cZ2,h⟩:=cond_s h
 · obtain ⟨rZ3,hrZ3,h⟩:=bind_s h
   refine ZF cZ2 ?_
   refine ZS cZ2 (w_bf _ hrZ3) ?_
   refine ZG ?_
   obtain ⟨cZ4,h⟩ | ⟨cZ4,h⟩:=cond_s h
   · cases h
     exact ZL (ZA cZ2 cZ4) V160.eq_1
   · cases h
     exact ZL (ZA cZ2 cZ4) V160.eq_1
 · cases h
   exact ZL cZ2 V160.eq_1
def S_p (aaZ0:Int) (abZ0:Int) (sZ1:Int×List Int) (v:Int×List Int):St:=⟨[(0,.sl 1000000000 0 v.2.length),(1,.i aaZ0),(2,.i abZ0),(6,.i sZ1.1),(7,.i v.1)],[(1000000000,.arr 1 (v.2.map AV.i))]⟩
def SX_p (aaZ0:Int) (abZ0:Int) (sZ1:Int×List Int) (v:List Int):St:=⟨[(0,.sl 1000000000 0 v.length),(1,.i aaZ0),(2,.i abZ0),(6,.i sZ1.1)],[(1000000000,.arr 1 (v.map AV.i))]⟩
theorem w_p (aaZ0:Int) (abZ0:Int) (sZ1:Int×List Int) (sZ3:Int×List Int) (o:(Int×List Int) ⊕ (List Int)) (h:M_p aaZ0 sZ3=some o):AWP (OkS Try.prog) A154M1L2 (qL [0,1,2,6,7] [1000000000] (S_p aaZ0 abZ0 sZ1) (qX 2 [0,1,2,6] [1000000000] (SX_p aaZ0 abZ0 sZ1)) o) (S_p aaZ0 abZ0 sZ1 sZ3):=by
 unfold M_p at h
 simp only [ZC,S_p,A154M1L2]
 obtain ⟨oZ10,hoZ10,h⟩:=bind_s h
 try refine ZF trivial ?_
 refine join_rule0 (sh:=(fun v=>⟨[(0,.sl 1000000000 0 sZ3.2.length),(1,.i aaZ0),(2,.i abZ0),(6,.i sZ1.1),(7,.i sZ3.1),(30,.b v)],[(1000000000,.arr 1 (sZ3.2.map AV.i))]⟩)) (s:=oZ10) ?_ ?_
 · replace h:=hoZ10
   obtain ⟨cZ4,h⟩ | ⟨cZ4,h⟩:=cond_s h
   · obtain ⟨kZ5,hkZ5,h⟩:=bind_s h
     obtain ⟨hkZ5a,hkZ5b⟩:=grd_s hkZ5
     obtain ⟨yZ6,hyZ6,h⟩:=bind_s h
     obtain ⟨kZ7,hkZ7,h⟩:=bind_s h
     obtain ⟨hkZ7a,hkZ7b⟩:=grd_s hkZ7
     obtain ⟨yZ8,hyZ8,h⟩:=bind_s h
     obtain ⟨rZ9,hrZ9,h⟩:=bind_s h
     refine ZF (ZA cZ4 (ZA hkZ5a (ZA hkZ5b (ZA hyZ6 (ZA hkZ7a (ZA hkZ7b hyZ8)))))) ?_
     refine ZS (ZA cZ4 (ZA hkZ5a (ZA hkZ5b (ZA hyZ6 (ZA hkZ7a (ZA hkZ7b hyZ8)))))) (w_dn _ _ hrZ9) ?_
     refine ZG ?_
     cases h
     exact ZL (ZA cZ4 (ZA hkZ5a (ZA hkZ5b (ZA hyZ6 (ZA hkZ7a (ZA hkZ7b hyZ8)))))) trivial
   · cases h
     exact ZL cZ4 trivial
 · simp only [ZC,A154M1R1]
   obtain ⟨cZ11,h⟩ | ⟨cZ11,h⟩:=cond_s h
   · obtain ⟨kZ12,hkZ12,h⟩:=bind_s h
     obtain ⟨hkZ12a,hkZ12b⟩:=grd_s hkZ12
     obtain ⟨yZ13,hyZ13,h⟩:=bind_s h
     obtain ⟨kZ14,hkZ14,h⟩:=bind_s h
     obtain ⟨hkZ14a,hkZ14b⟩:=grd_s hkZ14
     obtain ⟨yZ15,hyZ15,h⟩:=bind_s h
     obtain ⟨lZ16,hlZ16,h⟩:=bnd_s h
     have eZ17:(sZ3.2.map AV.i).set (Int.toNat sZ3.1) (.i yZ13)=lZ16.map AV.i:=by rw [← hlZ16,List.map_set]
     obtain ⟨yZ18,hyZ18,h⟩:=bind_s h
     obtain ⟨lZ19,hlZ19,h⟩:=bnd_s h
     have eZ20:(lZ16.map AV.i).set (Int.toNat (IntKind.wrap .i64 (sZ3.1 - 1))) (.i yZ15)=lZ19.map AV.i:=by rw [← hlZ19,List.map_set]
     cases h
     exact ZL (ZA cZ11 (ZA hkZ12a (ZA hkZ12b (ZA hyZ13 (ZA hkZ14a (ZA hkZ14b (ZA hyZ15 (ZA eZ17 (ZA hyZ18 eZ20))))))))) (ZA S_p.eq_1 (ZA SX_p.eq_1 (ZA hlZ16.symm hlZ19.symm)))
   · cases h
     exact ZL cZ11 (ZA S_p.eq_1 SX_p.eq_1)
def S_ac (aaZ0:Int) (abZ0:Int) (v:Int×List Int):St:=⟨[(0,.sl 1000000000 0 v.2.length),(1,.i aaZ0),(2,.i abZ0),(6,.i v.1)],[(1000000000,.arr 1 (v.2.map AV.i))]⟩
def SX_ac (v:List Int):St:=⟨[],[(1000000000,.arr 1 (v.map AV.i))]⟩
theorem w_ac (aaZ0:Int) (abZ0:Int) (sZ1:Int×List Int) (o:(Int×List Int) ⊕ (List Int)) (h:M_ac aaZ0 abZ0 sZ1=some o):AWP (OkS Try.prog) A154M1L4 (qL [0,1,2,6] [1000000000] (S_ac aaZ0 abZ0) (qX 0 [] [1000000000] (SX_ac)) o) (S_ac aaZ0 abZ0 sZ1):=by
 unfold M_ac at h
 simp only [ZC,S_ac,A154M1L4]
 obtain ⟨cZ2,h⟩ | ⟨cZ2,h⟩:=cond_s h
 · obtain ⟨oZ23,hoZ23,h⟩:=bind_s h
   try refine ZF cZ2 ?_
   refine join_rule0 (sh:=(fun v=>⟨[(0,.sl 1000000000 0 v.length),(1,.i aaZ0),(2,.i abZ0),(6,.i sZ1.1)],[(1000000000,.arr 1 (v.map AV.i))]⟩)) (s:=oZ23) ?_ ?_
   · replace h:=hoZ23
     obtain ⟨oZ21,hoZ21,h⟩:=bind_s h
     try refine ZF cZ2 ?_
     first | refine tail_rule0 (blk_rule0 (loop_rule (w_p aaZ0 abZ0 sZ1) hoZ21 ?_)) (fun τ qZ22=>?_) | refine tail_blk0 (loop_rule (w_p aaZ0 abZ0 sZ1) hoZ21 ?_) (fun τ qZ22=>?_)
     · exact ZK (ZA S_p.eq_1 SX_p.eq_1)
     · cases h
       try refine ZF trivial ?_
       refine ⟨rfl,Shp.sub qZ22 (by decide) (by decide) ?_⟩
       exact ZK SX_p.eq_1
   · simp only [ZC,A154M1R3]
     cases h
     exact ZL cZ2 (ZA S_ac.eq_1 SX_ac.eq_1)
 · cases h
   exact ZL cZ2 (ZA S_ac.eq_1 SX_ac.eq_1)
theorem w_do (aaZ0:Int) (abZ0:Int) (acZ0:List Int) {r:List Int} (h:M_do aaZ0 abZ0 acZ0=some r):OkM Try.prog 154 [.sl 1000000000 0 acZ0.length,.i aaZ0,.i abZ0] [(1000000000,.arr 1 (acZ0.map AV.i))] ((fun (r:List Int)=>.tup []) r) ((fun (r:List Int)=>[(1000000000,.arr 1 (r.map AV.i))]) r):=by
 refine okM_of_body (lr:=[1000000000]) hmix m154M1 rfl rfl ?_
 unfold M_do at h
 simp only [ZC,A154M1,V154M1]
 obtain ⟨oZ24,hoZ24,h⟩:=bind_s h
 try refine ZF trivial ?_
 first | refine tail_rule0 (blk_rule0 (loop_rule (w_ac aaZ0 abZ0) hoZ24 ?_)) (fun τ qZ25=>?_) | refine tail_blk0 (loop_rule (w_ac aaZ0 abZ0) hoZ24 ?_) (fun τ qZ25=>?_)
 · exact ZK (ZA S_ac.eq_1 SX_ac.eq_1)
 · cases h
   refine finM_shp qZ25 (by decide) ?_ rfl
   exact ZK (ZA V154M1.eq_1 SX_ac.eq_1)
def S_bd (aaZ0:Int) (abZ0:Int) (acZ0:Int) (adZ0:List Int) (v:Unit):St:=⟨[(0,.sl 1000000000 0 adZ0.length),(1,.i aaZ0),(2,.i abZ0),(3,.i acZ0),(8,.b true),(9,.b true)],[(1000000000,.arr 1 (adZ0.map AV.i))]⟩
def SX_bd (v:Empty):St:=⟨[],[]⟩
theorem w_bd (aaZ0:Int) (abZ0:Int) (acZ0:Int) (adZ0:List Int) (sZ1:Unit) (o:Unit ⊕ (Empty ⊕ (List Int))) (h:M_bd aaZ0 abZ0 acZ0 adZ0 sZ1=some o):AWP (OkS Try.prog) A148M1L1 (qL [0,1,2,3,8,9] [1000000000] (S_bd aaZ0 abZ0 acZ0 adZ0) (qS (qX 0 [] [] (SX_bd)) (qM V148M1 [1000000000] (fun (r:List Int)=>.tup []) (fun (r:List Int)=>[(1000000000,.arr 1 (r.map AV.i))]))) o) (S_bd aaZ0 abZ0 acZ0 adZ0 sZ1):=by
 unfold M_bd at h
 simp only [ZC,S_bd,A148M1L1]
 obtain ⟨cZ2,h⟩ | ⟨cZ2,h⟩:=cond_s h
 · obtain ⟨rZ3,hrZ3,h⟩:=bind_s h
   refine ZF cZ2 ?_
   refine ZW cZ2 (w_do _ _ _ hrZ3) (h2:=by first | exact nm_ok [1000000000] rfl (by decide +kernel) | exact nm_ok2 [1000000000] [] rfl (by decide +kernel) ZQ | exact ZQ) (hk:=?_)
   refine ZG ?_
   cases h
   exact ZL cZ2 V148M1.eq_1
 · obtain ⟨cZ4,h⟩ | ⟨cZ4,h⟩:=cond_s h
   · cases h
   · cases h
theorem w_ed (aaZ0:Int) (abZ0:Int) (acZ0:Int) (adZ0:List Int) {r:List Int} (h:M_ed aaZ0 abZ0 acZ0 adZ0=some r):OkM Try.prog 148 [.sl 1000000000 0 adZ0.length,.i aaZ0,.i abZ0,.i acZ0] [(1000000000,.arr 1 (adZ0.map AV.i))] ((fun (r:List Int)=>.tup []) r) ((fun (r:List Int)=>[(1000000000,.arr 1 (r.map AV.i))]) r):=by
 refine okM_of_body (lr:=[1000000000]) hmix m148M1 rfl rfl ?_
 unfold M_ed at h
 simp only [ZC,A148M1,V148M1]
 obtain ⟨oZ5,hoZ5,h⟩:=bind_s h
 try refine ZF trivial ?_
 first | refine tail_rule (o:=oZ5) (blk_rule sideM (loop_rule (w_bd aaZ0 abZ0 acZ0 adZ0) hoZ5 ?_)) (fun vZ6 hv τ qZ8=>?_) (fun xZ7 hv e τ hne hq=>?_) | refine tail_blk (o:=oZ5) sideM (loop_rule (w_bd aaZ0 abZ0 acZ0 adZ0) hoZ5 ?_) (fun vZ6 hv τ qZ8=>?_) (fun xZ7 hv e τ hne hq=>?_)
 · exact ZK (ZA S_bd.eq_1 SX_bd.eq_1)
 · exact vZ6.elim
 · subst hv
   simp only [] at h
   obtain ⟨rfl,qZ9⟩:=hq
   cases h
   exact qZ9
theorem w_dp (aaZ0:List Int) {r:List Int} (h:M_dp aaZ0=some r):OkM Try.prog 135 [.sl 1000000000 0 aaZ0.length] [(1000000000,.arr 1 (aaZ0.map AV.i))] ((fun (r:List Int)=>.tup []) r) ((fun (r:List Int)=>[(1000000000,.arr 1 (r.map AV.i))]) r):=by
 refine okM_of_body (lr:=[1000000000]) hmix m135M1 rfl rfl ?_
 unfold M_dp at h
 simp only [ZC,A135M1,V135M1]
 obtain ⟨rZ1,hrZ1,h⟩:=bind_s h
 refine ZF trivial ?_
 refine ZS trivial (w_dm _ hrZ1) ?_
 refine ZG ?_
 obtain ⟨rZ2,hrZ2,h⟩:=bind_s h
 refine ZF trivial ?_
 refine ZW trivial (w_ed _ _ _ _ hrZ2) (h2:=by first | exact nm_ok [1000000000] rfl (by decide +kernel) | exact nm_ok2 [1000000000] [] rfl (by decide +kernel) ZQ | exact ZQ) (hk:=?_)
 refine ZG ?_
 cases h
 exact ZL trivial V135M1.eq_1
def S_bb (aaZ0:Nat) (abZ0:Nat) (sZ2:Int) (v:Int×Int×List Int):St:=⟨[(0,.sl 1000000000 aaZ0 abZ0),(3,.i v.1),(4,.sl 1000000000 (aaZ0+(Int.toNat sZ2)) (abZ0 - (Int.toNat sZ2))),(5,.i v.2.1)],[(1000000000,.arr 1 (v.2.2.map AV.i))]⟩
def SX_bb (aaZ0:Nat) (abZ0:Nat) (v:Int×List Int):St:=⟨[(0,.sl 1000000000 aaZ0 abZ0),(3,.i v.1)],[(1000000000,.arr 1 (v.2.map AV.i))]⟩
theorem w_bb (aaZ0:Nat) (abZ0:Nat) (sZ2:Int) (sZ10:Int×Int×List Int) (o:(Int×Int×List Int) ⊕ (Int×List Int)) (h:M_bb aaZ0 abZ0 sZ2 sZ10=some o):AWP (OkS Try.prog) A136M1L1 (qL [0,3,4,5] [1000000000] (S_bb aaZ0 abZ0 sZ2) (qX 2 [0,3] [1000000000] (SX_bb aaZ0 abZ0)) o) (S_bb aaZ0 abZ0 sZ2 sZ10):=by
 unfold M_bb at h
 simp only [ZC,S_bb,A136M1L1]
 obtain ⟨cZ11,h⟩ | ⟨cZ11,h⟩:=cond_s h
 · obtain ⟨kZ12,hkZ12,h⟩:=bind_s h
   obtain ⟨hkZ12a,hkZ12b⟩:=grd_s hkZ12
   obtain ⟨yZ13,hyZ13,h⟩:=bind_s h
   obtain ⟨kZ14,hkZ14,h⟩:=bind_s h
   obtain ⟨hkZ14a,hkZ14b⟩:=grd_s hkZ14
   obtain ⟨yZ15,hyZ15,h⟩:=bind_s h
   obtain ⟨cZ16,h⟩ | ⟨cZ16,h⟩:=cond_s h
   · obtain ⟨kZ17,hkZ17,h⟩:=bind_s h
     obtain ⟨hkZ17a,hkZ17b⟩:=grd_s hkZ17
     obtain ⟨yZ18,hyZ18,h⟩:=bind_s h
     obtain ⟨lZ19,hlZ19,h⟩:=bnd_s h
     have eZ20:(sZ10.2.2.map AV.i).set (aaZ0+(Int.toNat sZ10.1)) (.i yZ13)=lZ19.map AV.i:=by rw [← hlZ19,List.map_set]
     cases h
     exact ZL (ZA cZ11 (ZA hkZ12a (ZA hkZ12b (ZA hyZ13 (ZA hkZ14a (ZA hkZ14b (ZA hyZ15 (ZA cZ16 (ZA hkZ17a (ZA hkZ17b (ZA hyZ18 eZ20))))))))))) (ZA S_bb.eq_1 (ZA SX_bb.eq_1 hlZ19.symm))
   · cases h
     exact ZL (ZA cZ11 (ZA hkZ12a (ZA hkZ12b (ZA hyZ13 (ZA hkZ14a (ZA hkZ14b (ZA hyZ15 cZ16))))))) (ZA S_bb.eq_1 SX_bb.eq_1)
 · cases h
   exact ZL cZ11 (ZA S_bb.eq_1 SX_bb.eq_1)
def S_aj (aaZ0:Nat) (abZ0:Nat) (acZ0:List Int) (v:Int):St:=⟨[(0,.sl 1000000000 aaZ0 abZ0),(3,.i v)],[(1000000000,.arr 1 (acZ0.map AV.i))]⟩
def SX_aj (aaZ0:Nat) (abZ0:Nat) (acZ0:List Int) (v:Unit):St:=⟨[(0,.sl 1000000000 aaZ0 abZ0)],[(1000000000,.arr 1 (acZ0.map AV.i))]⟩
theorem w_aj (aaZ0:Nat) (abZ0:Nat) (acZ0:List Int) (sZ2:Int) (o:Int ⊕ (Unit ⊕ (Nat×Nat×List Int))) (h:M_aj aaZ0 abZ0 acZ0 sZ2=some o):AWP (OkS Try.prog) A136M1L3 (qL [0,3] [1000000000] (S_aj aaZ0 abZ0 acZ0) (qS (qX 0 [0] [1000000000] (SX_aj aaZ0 abZ0 acZ0)) (qM V136M1 [1000000000] (fun (r:Nat×Nat×List Int)=>.sl 1000000000 r.1 r.2.1) (fun (r:Nat×Nat×List Int)=>[(1000000000,.arr 1 (r.2.2.map AV.i))]))) o) (S_aj aaZ0 abZ0 acZ0 sZ2):=by
 unfold M_aj at h
 simp only [ZC,S_aj,A136M1L3]
 obtain ⟨cZ3,h⟩ | ⟨cZ3,h⟩:=cond_s h
 · obtain ⟨kZ4,hkZ4,h⟩:=bind_s h
   obtain ⟨hkZ4a,hkZ4b⟩:=grd_s hkZ4
   obtain ⟨yZ5,hyZ5,h⟩:=bind_s h
   obtain ⟨kZ6,hkZ6,h⟩:=bind_s h
   obtain ⟨hkZ6a,hkZ6b⟩:=grd_s hkZ6
   obtain ⟨yZ7,hyZ7,h⟩:=bind_s h
   obtain ⟨cZ8,h⟩ | ⟨cZ8,h⟩:=cond_s h
   · obtain ⟨uZ9,huZ9,h⟩:=bind_s h
     obtain ⟨huZ9a,huZ9b,huZ9c,huZ9d⟩:=grd_s huZ9
     obtain ⟨oZ21,hoZ21,h⟩:=bind_s h
     try refine ZF (ZA cZ3 (ZA hkZ4a (ZA hkZ4b (ZA hyZ5 (ZA hkZ6a (ZA hkZ6b (ZA hyZ7 (ZA cZ8 (ZA huZ9a (ZA huZ9b (ZA huZ9c huZ9d))))))))))) ?_
     refine join_rule0 (blk_rule0 (loop_rule (w_bb aaZ0 abZ0 sZ2) hoZ21 ?_)) ?_
     · exact ZK (ZA S_bb.eq_1 SX_bb.eq_1)
     · simp only [ZC,SX_bb,A136M1R2]
       obtain ⟨uZ22,huZ22,h⟩:=bind_s h
       obtain ⟨huZ22a,huZ22b,huZ22c,huZ22d⟩:=grd_s huZ22
       obtain ⟨lZ23,hlZ23,h⟩:=bnd_s h
       have eZ24:over (oZ21.2.map AV.i) (aaZ0+(Int.toNat oZ21.1)) (List.replicate (abZ0 - (Int.toNat oZ21.1)) (.i 0:AV))=lZ23.map AV.i:=by rw [← hlZ23,← over_map] <;> simp [List.map_take]
       try simp only [Int.toNat_natCast] at eZ24
       have eZ25:lZ23.length=oZ21.2.length:=by rw [← hlZ23]; exact over_length _ _ _
       obtain ⟨uZ26,huZ26,h⟩:=bind_s h
       obtain ⟨huZ26a,huZ26b,huZ26c,huZ26d⟩:=grd_s huZ26
       cases h
       exact ZL (ZA cZ3 (ZA hkZ4a (ZA hkZ4b (ZA hyZ5 (ZA hkZ6a (ZA hkZ6b (ZA hyZ7 (ZA cZ8 (ZA huZ9a (ZA huZ9b (ZA huZ9c (ZA huZ9d (ZA huZ22a (ZA huZ22b (ZA huZ22c (ZA huZ22d (ZA eZ24 (ZA huZ26a (ZA huZ26b (ZA huZ26c huZ26d)))))))))))))))))))) (ZA V136M1.eq_1 eZ25)
   · cases h
     exact ZL (ZA cZ3 (ZA hkZ4a (ZA hkZ4b (ZA hyZ5 (ZA hkZ6a (ZA hkZ6b (ZA hyZ7 cZ8))))))) (ZA S_aj.eq_1 SX_aj.eq_1)
 · cases h
   exact ZL cZ3 (ZA S_aj.eq_1 SX_aj.eq_1)
theorem w_ct (aaZ0:Nat) (abZ0:Nat) (acZ0:List Int) {r:Nat×Nat×List Int} (h:M_ct aaZ0 abZ0 acZ0=some r):OkM Try.prog 136 [.sl 1000000000 aaZ0 abZ0] [(1000000000,.arr 1 (acZ0.map AV.i))] ((fun (r:Nat×Nat×List Int)=>.sl 1000000000 r.1 r.2.1) r) ((fun (r:Nat×Nat×List Int)=>[(1000000000,.arr 1 (r.2.2.map AV.i))]) r):=by
 refine okM_of_body (lr:=[1000000000]) hmix m136M1 rfl rfl ?_
 unfold M_ct at h
 simp only [ZC,A136M1,V136M1]
 obtain ⟨cZ1,h⟩ | ⟨cZ1,h⟩:=cond_s h
 · cases h
   exact ZL cZ1 V136M1.eq_1
 · obtain ⟨oZ27,hoZ27,h⟩:=bind_s h
   try refine ZF cZ1 ?_
   refine join_rule (o:=oZ27) (blk_rule sideM (loop_rule (w_aj aaZ0 abZ0 acZ0) hoZ27 ?_)) (fun vZ28 hv=>?_) (fun xZ29 hv e τ hne hq=>?_)
   · exact ZK (ZA S_aj.eq_1 SX_aj.eq_1)
   · subst hv
     simp only [] at h
     simp only [ZC,SX_aj,A136M1R4]
     cases h
     exact ZL cZ1 V136M1.eq_1
   · subst hv
     simp only [] at h
     obtain ⟨rfl,qZ30⟩:=hq
     cases h
     exact qZ30
def S_i (aZ0:List Int) (bZ0:List Int) (v:Int×List Int):St:=⟨[(1,.lst .o 1 (bZ0.map AV.i)),(5,.sl 5 0 v.2.length),(9,.lst .o 1 (aZ0.map AV.i)),(10,.i (aZ0.length:Int)),(11,.i v.1)],[(5,.arr 1 (v.2.map AV.i))]⟩
def SX_i (v:List Int):St:=⟨[(5,.sl 5 0 v.length)],[(5,.arr 1 (v.map AV.i))]⟩
theorem w_i (aZ0:List Int) (bZ0:List Int) (sZ1:Int×List Int) (o:(Int×List Int) ⊕ (List Int)) (h:M_i aZ0 bZ0 sZ1=some o):AWP (OkS Try.prog) A107L1 (qL [1,5,9,10,11] [5] (S_i aZ0 bZ0) (qX 0 [5] [5] (SX_i)) o) (S_i aZ0 bZ0 sZ1):=by
 unfold M_i at h
 simp only [ZC,S_i,A107L1]
 obtain ⟨cZ2,h⟩ | ⟨cZ2,h⟩:=cond_s h
 · obtain ⟨yZ3,hyZ3,h⟩:=bind_s h
   obtain ⟨hyZ3a,hyZ3b⟩:=geti_s hyZ3
   obtain ⟨rZ4,hrZ4,h⟩:=bind_s h
   refine ZF (ZA cZ2 (ZA hyZ3a hyZ3b)) ?_
   refine ZS (ZA cZ2 (ZA hyZ3a hyZ3b)) (w_bo _ _ hrZ4) ?_
   refine ZG ?_
   obtain ⟨cZ5,h⟩ | ⟨cZ5,h⟩:=cond_s h
   · obtain ⟨lZ6,hlZ6,h⟩:=bnd_s h
     have eZ7:Row.arr 1 [(.i yZ3:AV)]=Row.arr 1 (lZ6.map AV.i):=by rw [← hlZ6]; rfl
     have jjZ8:lZ6.length=1:=by rw [← hlZ6]; rfl
     obtain ⟨uZ9,huZ9,h⟩:=bind_s h
     have huZ9g:=grd_s huZ9
     obtain ⟨lZ10,hlZ10,h⟩:=bnd_s h
     have eZ11:sZ1.2.map AV.i++lZ6.map AV.i=lZ10.map AV.i:=by rw [← hlZ10,List.map_append]
     have eZ12:sZ1.2.length+1=lZ10.length:=by simp [← hlZ6,← hlZ10] <;> omega
     rw [eZ12] at huZ9g
     cases h
     exact ZL (ZA cZ2 (ZA hyZ3a (ZA hyZ3b (ZA cZ5 (ZA eZ7 (ZA jjZ8 (ZA huZ9g (ZA eZ11 eZ12)))))))) (ZA S_i.eq_1 (ZA SX_i.eq_1 (ZA hlZ6.symm (ZA hlZ10.symm jjZ8))))
   · cases h
     exact ZL (ZA cZ2 (ZA hyZ3a (ZA hyZ3b cZ5))) (ZA S_i.eq_1 SX_i.eq_1)
 · cases h
   exact ZL cZ2 (ZA S_i.eq_1 SX_i.eq_1)
theorem w_bi (aZ0:List Int) (bZ0:List Int) {r:List Int} (h:M_bi aZ0 bZ0=some r):Ok Try.prog 107 [.lst .o 1 (aZ0.map AV.i),.lst .o 1 (bZ0.map AV.i)] ((fun r=>.lst .u 1 (r.map AV.i)) r):=by
 refine ok_of_body hmix m107 rfl ?_
 unfold M_bi at h
 simp only [ZC,A107,V107,body_eq]
 obtain ⟨oZ13,hoZ13,h⟩:=bind_s h
 try refine ZF trivial ?_
 refine join_rule0 (blk_rule0 (loop_rule (w_i aZ0 bZ0) hoZ13 ?_)) ?_
 · exact ZK (ZA S_i.eq_1 SX_i.eq_1)
 · simp only [ZC,SX_i,A107R2]
   obtain ⟨rZ14,hrZ14,h⟩:=bind_s h
   refine ZF trivial ?_
   refine ZW trivial (w_dp _ hrZ14) (h2:=by first | exact nm_ok [1000000000] rfl (by decide +kernel) | exact nm_ok2 [1000000000] [] rfl (by decide +kernel) ZQ | exact ZQ) (hk:=?_)
   refine ZG ?_
   obtain ⟨rZ15,hrZ15,h⟩:=bind_s h
   refine ZF trivial ?_
   refine ZW trivial (w_ct _ _ _ hrZ15) (h2:=by first | exact nm_ok [1000000000] rfl (by decide +kernel) | exact nm_ok2 [1000000000] [] rfl (by decide +kernel) ZQ | exact ZQ) (hk:=?_)
   refine ZG ?_
   obtain ⟨lZ16,hlZ16,h⟩:=bnd_s h
   have eZ17:sub (rZ15.2.2.map AV.i) rZ15.1 rZ15.2.1=lZ16.map AV.i:=by rw [sub_mapT,hlZ16]
   cases h
   exact ZL eZ17 V107.eq_1
theorem w_cd (goneZ0:List Int) (p1Z0:TRoute) (p2Z0:TRoute) {r:Bool} (h:M_cd goneZ0 p1Z0 p2Z0=some r):Ok Try.prog 106 [.lst .o 1 (goneZ0.map AV.i),.bp .o (.agg [.i p1Z0.Start,.lst .o 1 (p1Z0.Fibers.map AV.i)]) 0,.bp .o (.agg [.i p2Z0.Start,.lst .o 1 (p2Z0.Fibers.map AV.i)]) 0] ((fun r=>.b r) r):=by
 refine ok_of_body hmix m106 rfl ?_
 unfold M_cd at h
 simp only [ZC,A106,V106,body_eq]
 obtain ⟨rZ1,hrZ1,h⟩:=bind_s h
 refine ZF trivial ?_
 refine ZU trivial (w_bi _ _ hrZ1) ?_
 refine ZG ?_
 obtain ⟨cZ2,h⟩ | ⟨cZ2,h⟩:=cond_s h
 · cases h
   exact ZL cZ2 V106.eq_1
 · obtain ⟨rZ3,hrZ3,h⟩:=bind_s h
   refine ZF cZ2 ?_
   refine ZU cZ2 (w_bi _ _ hrZ3) ?_
   refine ZG ?_
   cases h
   exact ZL cZ2 V106.eq_1
def S_k (oZ0:TOutage) (setZ0:Int) (v:Int×Int):St:=⟨[(1,.i setZ0),(2,.pt 2 0 0),(5,.i v.1),(9,.lst .o 1 (oZ0.Down.map AV.i)),(10,.i (oZ0.Down.length:Int)),(11,.i v.2)],[(2,.var (.agg [.i oZ0.Unit,.lst .o 1 (oZ0.Down.map AV.i)]))]⟩
def SX_k (v:Int):St:=⟨[(5,.i v)],[]⟩
theorem w_k (oZ0:TOutage) (setZ0:Int) (sZ1:Int×Int) (o:(Int×Int) ⊕ Int) (h:M_k oZ0 setZ0 sZ1=some o):AWP (OkS Try.prog) A79L1 (qL [1,2,5,9,10,11] [2] (S_k oZ0 setZ0) (qX 0 [5] [] (SX_k)) o) (S_k oZ0 setZ0 sZ1):=by
 unfold M_k at h
 simp only [ZC,S_k,A79L1]
 obtain ⟨cZ2,h⟩ | ⟨cZ2,h⟩:=cond_s h
 · obtain ⟨yZ3,hyZ3,h⟩:=bind_s h
   obtain ⟨hyZ3a,hyZ3b⟩:=geti_s hyZ3
   obtain ⟨uZ4,huZ4,h⟩:=bind_s h
   have huZ4g:=grd_s huZ4
   obtain ⟨cZ5,h⟩ | ⟨cZ5,h⟩:=cond_s h
   · cases h
     exact ZL (ZA cZ2 (ZA hyZ3a (ZA hyZ3b (ZA huZ4g cZ5)))) (ZA S_k.eq_1 SX_k.eq_1)
   · cases h
     exact ZL (ZA cZ2 (ZA hyZ3a (ZA hyZ3b (ZA huZ4g cZ5)))) (ZA S_k.eq_1 SX_k.eq_1)
 · cases h
   exact ZL cZ2 (ZA S_k.eq_1 SX_k.eq_1)
theorem w_bu (oZ0:TOutage) (setZ0:Int) {r:Int} (h:M_bu oZ0 setZ0=some r):Ok Try.prog 79 [.agg [.i oZ0.Unit,.lst .o 1 (oZ0.Down.map AV.i)],.i setZ0] ((fun r=>.i r) r):=by
 refine ok_of_body hmix m79 rfl ?_
 unfold M_bu at h
 simp only [ZC,A79,V79,body_eq]
 obtain ⟨oZ6,hoZ6,h⟩:=bind_s h
 try refine ZF trivial ?_
 refine join_rule0 (blk_rule0 (loop_rule (w_k oZ0 setZ0) hoZ6 ?_)) ?_
 · exact ZK (ZA S_k.eq_1 SX_k.eq_1)
 · simp only [ZC,SX_k,A79R2]
   cases h
   exact ZL trivial V79.eq_1
def S_g (oZ0:TOutage) (F_holdsZ0:Nat) (C_holdsZ0:List AV) (rZ1:List (List Int)) (sZ3:Int×Int) (rZ5:Int) (v:Int×List Int):St:=⟨[(2,.fn F_holdsZ0 C_holdsZ0),(3,.pt 3 0 0),(7,.i sZ3.1),(8,.sl 8 0 rZ1.length),(9,.i sZ3.2),(10,.i rZ5),(11,.sl 11 0 v.2.length),(18,.i (IntKind.wrap .i64 (1 * 2 ^ (min rZ1.length (IntKind.bits .i64))))),(19,.i sZ3.2),(28,.sl 8 0 rZ1.length),(29,.i (rZ1.length:Int)),(30,.i v.1)],[(3,.var (.agg [.i oZ0.Unit,.lst .o 1 (oZ0.Down.map AV.i)])),(8,.arr 1 (rZ1.map (e_Li .u))),(11,.arr 1 (v.2.map AV.i))]⟩
def SX_g (oZ0:TOutage) (F_holdsZ0:Nat) (C_holdsZ0:List AV) (rZ1:List (List Int)) (sZ3:Int×Int) (rZ5:Int) (v:List Int):St:=⟨[(2,.fn F_holdsZ0 C_holdsZ0),(3,.pt 3 0 0),(7,.i sZ3.1),(8,.sl 8 0 rZ1.length),(10,.i rZ5),(11,.sl 11 0 v.length),(18,.i (IntKind.wrap .i64 (1 * 2 ^ (min rZ1.length (IntKind.bits .i64))))),(19,.i sZ3.2)],[(3,.var (.agg [.i oZ0.Unit,.lst .o 1 (oZ0.Down.map AV.i)])),(8,.arr 1 (rZ1.map (e_Li .u))),(11,.arr 1 (v.map AV.i))]⟩
theorem w_g (oZ0:TOutage) (holdsZ0:(List Int)→Option Bool) (F_holdsZ0:Nat) (C_holdsZ0:List AV) (rZ1:List (List Int)) (sZ3:Int×Int) (rZ5:Int) (hC_holdsZ0:Fixed C_holdsZ0) (hf_holdsZ0:∀ (x0:List Int) (r:Bool),holdsZ0 x0=some r→Ok Try.prog F_holdsZ0 ((.lst .o 1 (x0.map AV.i))::C_holdsZ0) (.b r)) (sZ7:Int×List Int) (o:(Int×List Int) ⊕ (List Int)) (h:M_g rZ1 sZ3 sZ7=some o):AWP (OkS Try.prog) A81L1 (qL [2,3,7,8,9,10,11,18,19,28,29,30] [3,8,11] (S_g oZ0 F_holdsZ0 C_holdsZ0 rZ1 sZ3 rZ5) (qX 2 [2,3,7,8,10,11,18,19] [3,8,11] (SX_g oZ0 F_holdsZ0 C_holdsZ0 rZ1 sZ3 rZ5)) o) (S_g oZ0 F_holdsZ0 C_holdsZ0 rZ1 sZ3 rZ5 sZ7):=by
 unfold M_g at h
 simp only [ZC,S_g,A81L1]
 obtain ⟨cZ8,h⟩ | ⟨cZ8,h⟩:=cond_s h
 · obtain ⟨kZ9,hkZ9,h⟩:=bind_s h
   obtain ⟨hkZ9a,hkZ9b⟩:=grd_s hkZ9
   obtain ⟨yZ10,hyZ10,h⟩:=bind_s h
   obtain ⟨uZ11,huZ11,h⟩:=bind_s h
   have huZ11g:=grd_s huZ11
   obtain ⟨cZ12,h⟩ | ⟨cZ12,h⟩:=cond_s h
   · obtain ⟨uZ13,huZ13,h⟩:=bind_s h
     have huZ13g:=grd_s huZ13
     obtain ⟨lZ14,hlZ14,h⟩:=bnd_s h
     have eZ15:sZ7.2.map AV.i++yZ10.map AV.i=lZ14.map AV.i:=by rw [← hlZ14,List.map_append]
     have eZ16:sZ7.2.length+yZ10.length=lZ14.length:=by simp [← hlZ14] <;> omega
     rw [eZ16] at huZ13g
     cases h
     exact ZL (ZA cZ8 (ZA hkZ9a (ZA hkZ9b (ZA hyZ10 (ZA huZ11g (ZA cZ12 (ZA huZ13g (ZA eZ15 eZ16)))))))) (ZA S_g.eq_1 (ZA SX_g.eq_1 (ZA hlZ14.symm (ZA hC_holdsZ0.2 ((fixed_ren hC_holdsZ0))))))
   · cases h
     exact ZL (ZA cZ8 (ZA hkZ9a (ZA hkZ9b (ZA hyZ10 (ZA huZ11g cZ12))))) (ZA S_g.eq_1 (ZA SX_g.eq_1 (ZA hC_holdsZ0.2 ((fixed_ren hC_holdsZ0)))))
 · cases h
   exact ZL cZ8 (ZA S_g.eq_1 (ZA SX_g.eq_1 (ZA hC_holdsZ0.2 ((fixed_ren hC_holdsZ0)))))
def S_b (oZ0:TOutage) (F_holdsZ0:Nat) (C_holdsZ0:List AV) (rZ1:List (List Int)) (v:Int×Int):St:=⟨[(2,.fn F_holdsZ0 C_holdsZ0),(3,.pt 3 0 0),(7,.i v.1),(8,.sl 8 0 rZ1.length),(18,.i (IntKind.wrap .i64 (1 * 2 ^ (min rZ1.length (IntKind.bits .i64))))),(19,.i v.2)],[(3,.var (.agg [.i oZ0.Unit,.lst .o 1 (oZ0.Down.map AV.i)])),(8,.arr 1 (rZ1.map (e_Li .u)))]⟩
def SX_b (v:Int):St:=⟨[(7,.i v)],[]⟩
theorem w_b (oZ0:TOutage) (holdsZ0:(List Int)→Option Bool) (F_holdsZ0:Nat) (C_holdsZ0:List AV) (rZ1:List (List Int)) (hC_holdsZ0:Fixed C_holdsZ0) (hf_holdsZ0:∀ (x0:List Int) (r:Bool),holdsZ0 x0=some r→Ok Try.prog F_holdsZ0 ((.lst .o 1 (x0.map AV.i))::C_holdsZ0) (.b r)) (sZ3:Int×Int) (o:(Int×Int) ⊕ Int) (h:M_b oZ0 holdsZ0 rZ1 sZ3=some o):AWP (OkS Try.prog) A81L3 (qL [2,3,7,8,18,19] [3,8] (S_b oZ0 F_holdsZ0 C_holdsZ0 rZ1) (qX 0 [7] [] (SX_b)) o) (S_b oZ0 F_holdsZ0 C_holdsZ0 rZ1 sZ3):=by
 unfold M_b at h
 simp only [ZC,S_b,A81L3]
 obtain ⟨cZ4,h⟩ | ⟨cZ4,h⟩:=cond_s h
 · obtain ⟨rZ5,hrZ5,h⟩:=bind_s h
   refine ZF cZ4 ?_
   refine ZS cZ4 (w_bu _ _ hrZ5) ?_
   refine ZG ?_
   obtain ⟨cZ6,h⟩ | ⟨cZ6,h⟩:=cond_s h
   · cases h
     exact ZL (ZA cZ4 cZ6) (ZA S_b.eq_1 (ZA SX_b.eq_1 (ZA hC_holdsZ0.2 ((fixed_ren hC_holdsZ0)))))
   · obtain ⟨oZ17,hoZ17,h⟩:=bind_s h
     try refine ZF (ZA cZ4 cZ6) ?_
     refine join_rule0 (blk_rule0 (loop_rule (w_g oZ0 holdsZ0 F_holdsZ0 C_holdsZ0 rZ1 sZ3 rZ5 hC_holdsZ0 hf_holdsZ0) hoZ17 ?_)) ?_
     · exact ZK (ZA S_g.eq_1 (ZA SX_g.eq_1 (ZA hC_holdsZ0.2 ((fixed_ren hC_holdsZ0)))))
     · simp only [ZC,SX_g,A81R2]
       obtain ⟨rZ18,hrZ18,h⟩:=bind_s h
       refine ZF (ZA cZ4 cZ6) ?_
       refine ZS (ZA cZ4 (ZA cZ6 hC_holdsZ0.1)) (hf_holdsZ0 _ _ hrZ18) ?_
       refine ZG ?_
       obtain ⟨cZ19,h⟩ | ⟨cZ19,h⟩:=cond_s h
       · cases h
         exact ZL (ZA cZ4 (ZA cZ6 cZ19)) (ZA S_b.eq_1 (ZA SX_b.eq_1 (ZA hC_holdsZ0.2 ((fixed_ren hC_holdsZ0)))))
       · cases h
         exact ZL (ZA cZ4 (ZA cZ6 cZ19)) (ZA S_b.eq_1 (ZA SX_b.eq_1 (ZA hC_holdsZ0.2 ((fixed_ren hC_holdsZ0)))))
 · cases h
   exact ZL cZ4 (ZA S_b.eq_1 (ZA SX_b.eq_1 (ZA hC_holdsZ0.2 ((fixed_ren hC_holdsZ0)))))
theorem w_be (oZ0:TOutage) (nZ0:TNetwork) (holdsZ0:(List Int)→Option Bool) {r:Int} (h:M_be oZ0 nZ0 holdsZ0=some r) (F_holdsZ0:Nat) (C_holdsZ0:List AV) (hC_holdsZ0:Fixed C_holdsZ0) (hf_holdsZ0:∀ (x0:List Int) (r:Bool),holdsZ0 x0=some r→Ok Try.prog F_holdsZ0 ((.lst .o 1 (x0.map AV.i))::C_holdsZ0) (.b r)):Ok Try.prog 81 [.agg [.i oZ0.Unit,.lst .o 1 (oZ0.Down.map AV.i)],.agg [.lst .o 1 (nZ0.Nodes.map AV.z),.lst .o 4 (nZ0.Fibers.map (e_TFiber .o))],.fn F_holdsZ0 C_holdsZ0] ((fun r=>.i r) r):=by
 refine ok_of_body hmix m81 rfl ?_
 unfold M_be at h
 simp only [ZC,A81,V81,body_eq]
 obtain ⟨rZ1,hrZ1,h⟩:=bind_s h
 refine ZF trivial ?_
 refine ZU trivial (w_bz _ hrZ1) ?_
 refine ZG ?_
 obtain ⟨uZ2,huZ2,h⟩:=bind_s h
 have huZ2g:=grd_s huZ2
 obtain ⟨oZ20,hoZ20,h⟩:=bind_s h
 try refine ZF huZ2g ?_
 refine join_rule0 (blk_rule0 (loop_rule (w_b oZ0 holdsZ0 F_holdsZ0 C_holdsZ0 rZ1 hC_holdsZ0 hf_holdsZ0) hoZ20 ?_)) ?_
 · exact ZK (ZA S_b.eq_1 (ZA SX_b.eq_1 (ZA hC_holdsZ0.2 ((fixed_ren hC_holdsZ0)))))
 · simp only [ZC,SX_b,A81R4]
   cases h
   exact ZL huZ2g (ZA V81.eq_1 (ZA hC_holdsZ0.2 ((fixed_ren hC_holdsZ0))))
theorem w_cv (nZ0:TNetwork) (oZ0:TOutage) (aZ0:TRoute) (bZ0:TRoute) {r:Int×Bool} (h:M_cv nZ0 oZ0 aZ0 bZ0=some r):Ok Try.prog 53 [.agg [.lst .o 1 (nZ0.Nodes.map AV.z),.lst .o 4 (nZ0.Fibers.map (e_TFiber .o))],.agg [.i oZ0.Unit,.lst .o 1 (oZ0.Down.map AV.i)],.agg [.i aZ0.Start,.lst .o 1 (aZ0.Fibers.map AV.i)],.agg [.i bZ0.Start,.lst .o 1 (bZ0.Fibers.map AV.i)]] ((fun r=>.tup [.i r.1,.b r.2]) r):=by
 refine ok_of_body hmix m53 rfl ?_
 unfold M_cv at h
 simp only [ZC,A53,V53,body_eq]
 obtain ⟨oZ4,hoZ4,h⟩:=bind_s h
 try refine ZF trivial ?_
 refine join_rule0 (sh:=(fun v=>⟨[(4,.pt 4 0 0),(5,.pt 5 0 0),(6,.pt 6 0 0),(7,.pt 7 0 0),(20,.b v)],[(4,.var (.agg [.lst .o 1 (nZ0.Nodes.map AV.z),.lst .o 4 (nZ0.Fibers.map (e_TFiber .o))])),(5,.var (.agg [.i oZ0.Unit,.lst .o 1 (oZ0.Down.map AV.i)])),(6,.var (.agg [.i aZ0.Start,.lst .o 1 (aZ0.Fibers.map AV.i)])),(7,.var (.agg [.i bZ0.Start,.lst .o 1 (bZ0.Fibers.map AV.i)]))]⟩)) (s:=oZ4) ?_ ?_
 · replace h:=hoZ4
   obtain ⟨rZ1,hrZ1,h⟩:=bind_s h
   refine ZF trivial ?_
   refine ZS trivial (w_bc _ _ hrZ1) ?_
   refine ZG ?_
   obtain ⟨cZ2,h⟩ | ⟨cZ2,h⟩:=cond_s h
   · cases h
     exact ZL cZ2 trivial
   · obtain ⟨rZ3,hrZ3,h⟩:=bind_s h
     refine ZF cZ2 ?_
     refine ZS cZ2 (w_dw _ _ _ hrZ3) ?_
     refine ZG ?_
     cases h
     exact ZL cZ2 trivial
 · simp only [ZC,A53R1]
   obtain ⟨cZ5,h⟩ | ⟨cZ5,h⟩:=cond_s h
   · cases h
     exact ZL cZ5 V53.eq_1
   · obtain ⟨rZ6,hrZ6,h⟩:=bind_s h
     refine ZF cZ5 ?_
     refine ZS cZ5 (w_be _ _ _ hrZ6 106 [.bp .o (.agg [.i aZ0.Start,.lst .o 1 (aZ0.Fibers.map AV.i)]) 0,.bp .o (.agg [.i bZ0.Start,.lst .o 1 (bZ0.Fibers.map AV.i)]) 0] ⟨fun ρ k=>by simp only [VS1,VS2,VS3,VS4,VS5,VS6,VT1,VT2,finM_ret,finM_nrm,decide_true,decide_false,List.nodup_nil,List.nodup_cons,oks_p,oks_m,oks_h,ne_eq,not_false_eq_true,Int.reduceEq,Int.reduceNe,true_and,false_and,Nat.reduceSub,Nat.reduceMul,↓reduceIte,reduceCtorEq,Nat.reduceEqDiff,Nat.reduceAdd,Nat.reduceLeDiff,Int.reduceLE],by simp [mentsL,AV.ments]⟩ (fun _ _ h=>w_cd _ _ _ h)) ?_
     refine ZG ?_
     cases h
     exact ZL cZ5 V53.eq_1
def S_ax (oZ0:TOutage) (v:Int):St:=⟨[(3,.pt 3 0 0),(5,.i v)],[(3,.var (.agg [.i oZ0.Unit,.lst .o 1 (oZ0.Down.map AV.i)]))]⟩
def SX_ax (v:Unit):St:=⟨[],[]⟩
theorem w_ax (oZ0:TOutage) (sZ8:Int) (o:Int ⊕ (Unit ⊕ Bool)) (h:M_ax oZ0 sZ8=some o):AWP (OkS Try.prog) A62L2 (qL [3,5] [3] (S_ax oZ0) (qS (qX 0 [] [] (SX_ax)) (qR V62 (fun r=>.b r))) o) (S_ax oZ0 sZ8):=by
 unfold M_ax at h
 simp only [ZC,S_ax,A62L2]
 obtain ⟨cZ9,h⟩ | ⟨cZ9,h⟩:=cond_s h
 · obtain ⟨yZ10,hyZ10,h⟩:=bind_s h
   obtain ⟨hyZ10a,hyZ10b⟩:=geti_s hyZ10
   obtain ⟨rZ11,hrZ11,h⟩:=bind_s h
   refine ZF (ZA cZ9 (ZA hyZ10a hyZ10b)) ?_
   refine ZS (ZA cZ9 (ZA hyZ10a hyZ10b)) (w_c _ _ _ hrZ11) ?_
   refine ZG ?_
   obtain ⟨cZ12,h⟩ | ⟨cZ12,h⟩:=cond_s h
   · cases h
     exact ZL (ZA cZ9 (ZA hyZ10a (ZA hyZ10b cZ12))) V62.eq_1
   · cases h
     exact ZL (ZA cZ9 (ZA hyZ10a (ZA hyZ10b cZ12))) (ZA S_ax.eq_1 SX_ax.eq_1)
 · cases h
   exact ZL cZ9 (ZA S_ax.eq_1 SX_ax.eq_1)
theorem w_dq (nZ0:TNetwork) (oZ0:TOutage) {r:Bool} (h:M_dq nZ0 oZ0=some r):Ok Try.prog 62 [.agg [.lst .o 1 (nZ0.Nodes.map AV.z),.lst .o 4 (nZ0.Fibers.map (e_TFiber .o))],.agg [.i oZ0.Unit,.lst .o 1 (oZ0.Down.map AV.i)]] ((fun r=>.b r) r):=by
 refine ok_of_body hmix m62 rfl ?_
 unfold M_dq at h
 simp only [ZC,A62,V62,body_eq]
 obtain ⟨oZ6,hoZ6,h⟩:=bind_s h
 try refine ZF trivial ?_
 refine join_rule0 (sh:=(fun v=>⟨[(3,.pt 3 0 0),(23,.b v)],[(3,.var (.agg [.i oZ0.Unit,.lst .o 1 (oZ0.Down.map AV.i)]))]⟩)) (s:=oZ6) ?_ ?_
 · replace h:=hoZ6
   obtain ⟨rZ1,hrZ1,h⟩:=bind_s h
   refine ZF trivial ?_
   refine ZS trivial (w_bl _ hrZ1) ?_
   refine ZG ?_
   obtain ⟨cZ2,h⟩ | ⟨cZ2,h⟩:=cond_s h
   · cases h
     exact ZL cZ2 trivial
   · obtain ⟨rZ3,hrZ3,h⟩:=bind_s h
     refine ZF cZ2 ?_
     refine ZS cZ2 (w_c _ _ _ hrZ3) ?_
     refine ZG ?_
     obtain ⟨cZ4,h⟩ | ⟨cZ4,h⟩:=cond_s h
     · cases h
       exact ZL (ZA cZ2 cZ4) trivial
     · obtain ⟨rZ5,hrZ5,h⟩:=bind_s h
       refine ZF (ZA cZ2 cZ4) ?_
       refine ZU (ZA cZ2 cZ4) (w_bm _ hrZ5) ?_
       refine ZG ?_
       cases h
       exact ZL (ZA cZ2 cZ4) trivial
 · simp only [ZC,A62R1]
   obtain ⟨cZ7,h⟩ | ⟨cZ7,h⟩:=cond_s h
   · cases h
     exact ZL cZ7 V62.eq_1
   · obtain ⟨oZ13,hoZ13,h⟩:=bind_s h
     try refine ZF cZ7 ?_
     refine join_rule (o:=oZ13) (blk_rule sideR (loop_rule (w_ax oZ0) hoZ13 ?_)) (fun vZ14 hv=>?_) (fun xZ15 hv e τ hne hq=>?_)
     · exact ZK (ZA S_ax.eq_1 SX_ax.eq_1)
     · subst hv
       simp only [] at h
       simp only [ZC,SX_ax,A62R3]
       cases h
       exact ZL cZ7 V62.eq_1
     · subst hv
       simp only [] at h
       obtain ⟨rfl,qZ16⟩:=hq
       cases h
       exact qZ16
def S_ay (nZ0:TNetwork) (rZ0:TRoute) (v:Int×List Int):St:=⟨[(2,.pt 2 0 0),(3,.pt 3 0 0),(6,.sl 6 0 v.2.length),(7,.i v.1)],[(2,.var (.agg [.lst .o 1 (nZ0.Nodes.map AV.z),.lst .o 4 (nZ0.Fibers.map (e_TFiber .o))])),(3,.var (.agg [.i rZ0.Start,.lst .o 1 (rZ0.Fibers.map AV.i)])),(6,.arr 1 (v.2.map AV.i))]⟩
def SX_ay (v:List Int):St:=⟨[(6,.sl 6 0 v.length)],[(6,.arr 1 (v.map AV.i))]⟩
theorem w_ay (nZ0:TNetwork) (rZ0:TRoute) (sZ8:Int×List Int) (o:(Int×List Int) ⊕ ((List Int) ⊕ (List Int×Bool))) (h:M_ay nZ0 rZ0 sZ8=some o):AWP (OkS Try.prog) A134L3 (qL [2,3,6,7] [2,3,6] (S_ay nZ0 rZ0) (qS (qX 0 [6] [6] (SX_ay)) (qR V134 (fun r=>.tup [.lst .u 1 (r.1.map AV.i),.b r.2]))) o) (S_ay nZ0 rZ0 sZ8):=by
 unfold M_ay at h
 simp only [ZC,S_ay,A134L3]
 obtain ⟨cZ9,h⟩ | ⟨cZ9,h⟩:=cond_s h
 · obtain ⟨yZ10,hyZ10,h⟩:=bind_s h
   obtain ⟨hyZ10a,hyZ10b⟩:=geti_s hyZ10
   obtain ⟨rZ11,hrZ11,h⟩:=bind_s h
   refine ZF (ZA cZ9 (ZA hyZ10a hyZ10b)) ?_
   refine ZS (ZA cZ9 (ZA hyZ10a hyZ10b)) (w_c _ _ _ hrZ11) ?_
   refine ZG ?_
   obtain ⟨cZ12,h⟩ | ⟨cZ12,h⟩:=cond_s h
   · cases h
     exact ZL (ZA cZ9 (ZA hyZ10a (ZA hyZ10b cZ12))) V134.eq_1
   · obtain ⟨kZ13,hkZ13,h⟩:=bind_s h
     obtain ⟨hkZ13a,hkZ13b⟩:=grd_s hkZ13
     obtain ⟨yZ14,hyZ14,h⟩:=bind_s h
     obtain ⟨rZ15,hrZ15,h⟩:=bind_s h
     refine ZF (ZA cZ9 (ZA hyZ10a (ZA hyZ10b (ZA cZ12 (ZA hkZ13a (ZA hkZ13b hyZ14)))))) ?_
     refine ZS (ZA cZ9 (ZA hyZ10a (ZA hyZ10b (ZA cZ12 (ZA hkZ13a (ZA hkZ13b hyZ14)))))) (w_bh _ _ _ hrZ15) ?_
     refine ZG ?_
     obtain ⟨oZ18,hoZ18,h⟩:=bind_s h
     try refine ZF (ZA cZ9 (ZA hyZ10a (ZA hyZ10b (ZA cZ12 (ZA hkZ13a (ZA hkZ13b hyZ14)))))) ?_
     refine join_rule0 (sh:=(fun v=>⟨[(2,.pt 2 0 0),(3,.pt 3 0 0),(6,.sl 6 0 sZ8.2.length),(7,.i sZ8.1),(8,.i rZ15),(65,.b v)],[(2,.var (.agg [.lst .o 1 (nZ0.Nodes.map AV.z),.lst .o 4 (nZ0.Fibers.map (e_TFiber .o))])),(3,.var (.agg [.i rZ0.Start,.lst .o 1 (rZ0.Fibers.map AV.i)])),(6,.arr 1 (sZ8.2.map AV.i))]⟩)) (s:=oZ18) ?_ ?_
     · replace h:=hoZ18
       obtain ⟨cZ16,h⟩ | ⟨cZ16,h⟩:=cond_s h
       · cases h
         exact ZL (ZA cZ9 (ZA hyZ10a (ZA hyZ10b (ZA cZ12 (ZA hkZ13a (ZA hkZ13b (ZA hyZ14 cZ16))))))) trivial
       · obtain ⟨rZ17,hrZ17,h⟩:=bind_s h
         refine ZF (ZA cZ9 (ZA hyZ10a (ZA hyZ10b (ZA cZ12 (ZA hkZ13a (ZA hkZ13b (ZA hyZ14 cZ16))))))) ?_
         refine ZS (ZA cZ9 (ZA hyZ10a (ZA hyZ10b (ZA cZ12 (ZA hkZ13a (ZA hkZ13b (ZA hyZ14 cZ16))))))) (w_br _ _ hrZ17) ?_
         refine ZG ?_
         cases h
         exact ZL (ZA cZ9 (ZA hyZ10a (ZA hyZ10b (ZA cZ12 (ZA hkZ13a (ZA hkZ13b (ZA hyZ14 cZ16))))))) trivial
     · simp only [ZC,A134R2]
       obtain ⟨cZ19,h⟩ | ⟨cZ19,h⟩:=cond_s h
       · cases h
         exact ZL (ZA cZ9 (ZA hyZ10a (ZA hyZ10b (ZA cZ12 (ZA hkZ13a (ZA hkZ13b (ZA hyZ14 cZ19))))))) V134.eq_1
       · obtain ⟨lZ20,hlZ20,h⟩:=bnd_s h
         have eZ21:Row.arr 1 [(.i rZ15:AV)]=Row.arr 1 (lZ20.map AV.i):=by rw [← hlZ20]; rfl
         have jjZ22:lZ20.length=1:=by rw [← hlZ20]; rfl
         obtain ⟨uZ23,huZ23,h⟩:=bind_s h
         have huZ23g:=grd_s huZ23
         obtain ⟨lZ24,hlZ24,h⟩:=bnd_s h
         have eZ25:sZ8.2.map AV.i++lZ20.map AV.i=lZ24.map AV.i:=by rw [← hlZ24,List.map_append]
         have eZ26:sZ8.2.length+1=lZ24.length:=by simp [← hlZ20,← hlZ24] <;> omega
         rw [eZ26] at huZ23g
         cases h
         exact ZL (ZA cZ9 (ZA hyZ10a (ZA hyZ10b (ZA cZ12 (ZA hkZ13a (ZA hkZ13b (ZA hyZ14 (ZA cZ19 (ZA eZ21 (ZA jjZ22 (ZA huZ23g (ZA eZ25 eZ26)))))))))))) (ZA S_ay.eq_1 (ZA SX_ay.eq_1 (ZA hlZ20.symm (ZA hlZ24.symm jjZ22))))
 · cases h
   exact ZL cZ9 (ZA S_ay.eq_1 SX_ay.eq_1)
theorem w_cb (nZ0:TNetwork) (rZ0:TRoute) {r:List Int×Bool} (h:M_cb nZ0 rZ0=some r):Ok Try.prog 134 [.agg [.lst .o 1 (nZ0.Nodes.map AV.z),.lst .o 4 (nZ0.Fibers.map (e_TFiber .o))],.agg [.i rZ0.Start,.lst .o 1 (rZ0.Fibers.map AV.i)]] ((fun r=>.tup [.lst .u 1 (r.1.map AV.i),.b r.2]) r):=by
 refine ok_of_body hmix m134 rfl ?_
 unfold M_cb at h
 simp only [ZC,A134,V134,body_eq]
 obtain ⟨lZ1,hlZ1,h⟩:=bnd_s h
 have eZ2:Row.arr 1 [(.i rZ0.Start:AV)]=Row.arr 1 (lZ1.map AV.i):=by rw [← hlZ1]; rfl
 have jjZ3:lZ1.length=1:=by rw [← hlZ1]; rfl
 obtain ⟨oZ6,hoZ6,h⟩:=bind_s h
 try refine ZF (ZA eZ2 jjZ3) ?_
 refine join_rule0 (sh:=(fun v=>⟨[(2,.pt 2 0 0),(3,.pt 3 0 0),(6,.sl 6 0 lZ1.length),(25,.b v)],[(2,.var (.agg [.lst .o 1 (nZ0.Nodes.map AV.z),.lst .o 4 (nZ0.Fibers.map (e_TFiber .o))])),(3,.var (.agg [.i rZ0.Start,.lst .o 1 (rZ0.Fibers.map AV.i)])),(6,.arr 1 (lZ1.map AV.i))]⟩)) (s:=oZ6) ?_ ?_
 · replace h:=hoZ6
   obtain ⟨rZ4,hrZ4,h⟩:=bind_s h
   refine ZF (ZA eZ2 jjZ3) ?_
   refine ZS (ZA eZ2 jjZ3) (w_c _ _ _ hrZ4) ?_
   refine ZG ?_
   obtain ⟨cZ5,h⟩ | ⟨cZ5,h⟩:=cond_s h
   · cases h
     exact ZL (ZA eZ2 (ZA jjZ3 cZ5)) (ZA hlZ1.symm jjZ3)
   · cases h
     exact ZL (ZA eZ2 (ZA jjZ3 cZ5)) (ZA hlZ1.symm jjZ3)
 · simp only [ZC,A134R1]
   obtain ⟨cZ7,h⟩ | ⟨cZ7,h⟩:=cond_s h
   · cases h
     exact ZL (ZA eZ2 (ZA jjZ3 cZ7)) (ZA V134.eq_1 jjZ3)
   · obtain ⟨oZ27,hoZ27,h⟩:=bind_s h
     try refine ZF (ZA eZ2 (ZA jjZ3 cZ7)) ?_
     refine join_rule (o:=oZ27) (blk_rule sideR (loop_rule (w_ay nZ0 rZ0) hoZ27 ?_)) (fun vZ28 hv=>?_) (fun xZ29 hv e τ hne hq=>?_)
     · exact ZK (ZA S_ay.eq_1 (ZA SX_ay.eq_1 jjZ3))
     · subst hv
       simp only [] at h
       simp only [ZC,SX_ay,A134R4]
       cases h
       exact ZL (ZA eZ2 (ZA jjZ3 cZ7)) (ZA V134.eq_1 jjZ3)
     · subst hv
       simp only [] at h
       obtain ⟨rfl,qZ30⟩:=hq
       cases h
       exact qZ30
theorem w_bq (nZ0:TNetwork) (rZ0:TRoute) {r:Bool} (h:M_bq nZ0 rZ0=some r):Ok Try.prog 104 [.agg [.lst .o 1 (nZ0.Nodes.map AV.z),.lst .o 4 (nZ0.Fibers.map (e_TFiber .o))],.agg [.i rZ0.Start,.lst .o 1 (rZ0.Fibers.map AV.i)]] ((fun r=>.b r) r):=by
 refine ok_of_body hmix m104 rfl ?_
 unfold M_bq at h
 simp only [ZC,A104,V104,body_eq]
 obtain ⟨rZ1,hrZ1,h⟩:=bind_s h
 refine ZF trivial ?_
 refine ZS trivial (w_bl _ hrZ1) ?_
 refine ZG ?_
 obtain ⟨cZ2,h⟩ | ⟨cZ2,h⟩:=cond_s h
 · cases h
   exact ZL cZ2 V104.eq_1
 · obtain ⟨rZ3,hrZ3,h⟩:=bind_s h
   refine ZF cZ2 ?_
   refine ZU cZ2 (w_cb _ _ hrZ3) ?_
   refine ZG ?_
   cases h
   exact ZL cZ2 V104.eq_1
def S_ab (listZ0:List Int) (v:Int×Int):St:=⟨[(0,.lst .o 1 (listZ0.map AV.i)),(3,.i v.1),(4,.i v.2)],[]⟩
def SX_ab (v:Int):St:=⟨[(3,.i v)],[]⟩
theorem w_ab (listZ0:List Int) (sZ1:Int×Int) (o:(Int×Int) ⊕ Int) (h:M_ab listZ0 sZ1=some o):AWP (OkS Try.prog) A77L1 (qL [0,3,4] [] (S_ab listZ0) (qX 0 [3] [] (SX_ab)) o) (S_ab listZ0 sZ1):=by
 unfold M_ab at h
 simp only [ZC,S_ab,A77L1]
 obtain ⟨cZ2,h⟩ | ⟨cZ2,h⟩:=cond_s h
 · obtain ⟨yZ3,hyZ3,h⟩:=bind_s h
   obtain ⟨hyZ3a,hyZ3b⟩:=geti_s hyZ3
   obtain ⟨uZ4,huZ4,h⟩:=bind_s h
   have huZ4g:=grd_s huZ4
   cases h
   exact ZL (ZA cZ2 (ZA hyZ3a (ZA hyZ3b huZ4g))) (ZA S_ab.eq_1 SX_ab.eq_1)
 · cases h
   exact ZL cZ2 (ZA S_ab.eq_1 SX_ab.eq_1)
theorem w_bj (listZ0:List Int) {r:Int} (h:M_bj listZ0=some r):Ok Try.prog 77 [.lst .o 1 (listZ0.map AV.i)] ((fun r=>.i r) r):=by
 refine ok_of_body hmix m77 rfl ?_
 unfold M_bj at h
 simp only [ZC,A77,V77,body_eq]
 obtain ⟨oZ5,hoZ5,h⟩:=bind_s h
 try refine ZF trivial ?_
 refine join_rule0 (blk_rule0 (loop_rule (w_ab listZ0) hoZ5 ?_)) ?_
 · exact ZK (ZA S_ab.eq_1 SX_ab.eq_1)
 · simp only [ZC,SX_ab,A77R2]
   cases h
   exact ZL trivial V77.eq_1
def S_h (groupsZ0:List (List Int)) (maskZ0:Int) (v:Int×Int):St:=⟨[(0,.lst .o 1 (groupsZ0.map (e_Li .o))),(1,.i maskZ0),(5,.i v.1),(6,.i v.2)],[]⟩
def SX_h (v:Int):St:=⟨[(5,.i v)],[]⟩
theorem w_h (groupsZ0:List (List Int)) (maskZ0:Int) (sZ1:Int×Int) (o:(Int×Int) ⊕ Int) (h:M_h groupsZ0 maskZ0 sZ1=some o):AWP (OkS Try.prog) A94L1 (qL [0,1,5,6] [] (S_h groupsZ0 maskZ0) (qX 0 [5] [] (SX_h)) o) (S_h groupsZ0 maskZ0 sZ1):=by
 unfold M_h at h
 simp only [ZC,S_h,A94L1]
 obtain ⟨cZ2,h⟩ | ⟨cZ2,h⟩:=cond_s h
 · obtain ⟨uZ3,huZ3,h⟩:=bind_s h
   have huZ3g:=grd_s huZ3
   obtain ⟨cZ4,h⟩ | ⟨cZ4,h⟩:=cond_s h
   · obtain ⟨yZ5,hyZ5,h⟩:=bind_s h
     obtain ⟨hyZ5a,hyZ5b⟩:=geti_s hyZ5
     obtain ⟨rZ6,hrZ6,h⟩:=bind_s h
     refine ZF (ZA cZ2 (ZA huZ3g (ZA cZ4 (ZA hyZ5a hyZ5b)))) ?_
     refine ZS (ZA cZ2 (ZA huZ3g (ZA cZ4 (ZA hyZ5a hyZ5b)))) (w_bj _ hrZ6) ?_
     refine ZG ?_
     cases h
     exact ZL (ZA cZ2 (ZA huZ3g (ZA cZ4 (ZA hyZ5a hyZ5b)))) (ZA S_h.eq_1 SX_h.eq_1)
   · cases h
     exact ZL (ZA cZ2 (ZA huZ3g cZ4)) (ZA S_h.eq_1 SX_h.eq_1)
 · cases h
   exact ZL cZ2 (ZA S_h.eq_1 SX_h.eq_1)
theorem w_cs (groupsZ0:List (List Int)) (maskZ0:Int) {r:Int} (h:M_cs groupsZ0 maskZ0=some r):Ok Try.prog 94 [.lst .o 1 (groupsZ0.map (e_Li .o)),.i maskZ0] ((fun r=>.i r) r):=by
 refine ok_of_body hmix m94 rfl ?_
 unfold M_cs at h
 simp only [ZC,A94,V94,body_eq]
 obtain ⟨oZ7,hoZ7,h⟩:=bind_s h
 try refine ZF trivial ?_
 refine join_rule0 (blk_rule0 (loop_rule (w_h groupsZ0 maskZ0) hoZ7 ?_)) ?_
 · exact ZK (ZA S_h.eq_1 SX_h.eq_1)
 · simp only [ZC,SX_h,A94R2]
   cases h
   exact ZL trivial V94.eq_1
def S_l (oZ0:TOutage) (maskZ0:Int) (v:Int×Int):St:=⟨[(1,.i maskZ0),(2,.pt 2 0 0),(5,.i v.1),(6,.i v.2)],[(2,.var (.agg [.i oZ0.Unit,.lst .o 1 (oZ0.Down.map AV.i)]))]⟩
def SX_l (v:Int):St:=⟨[(5,.i v)],[]⟩
theorem w_l (oZ0:TOutage) (maskZ0:Int) (sZ1:Int×Int) (o:(Int×Int) ⊕ Int) (h:M_l oZ0 maskZ0 sZ1=some o):AWP (OkS Try.prog) A76L1 (qL [1,2,5,6] [2] (S_l oZ0 maskZ0) (qX 0 [5] [] (SX_l)) o) (S_l oZ0 maskZ0 sZ1):=by
 unfold M_l at h
 simp only [ZC,S_l,A76L1]
 obtain ⟨cZ2,h⟩ | ⟨cZ2,h⟩:=cond_s h
 · obtain ⟨uZ3,huZ3,h⟩:=bind_s h
   have huZ3g:=grd_s huZ3
   obtain ⟨cZ4,h⟩ | ⟨cZ4,h⟩:=cond_s h
   · obtain ⟨yZ5,hyZ5,h⟩:=bind_s h
     obtain ⟨hyZ5a,hyZ5b⟩:=geti_s hyZ5
     cases h
     exact ZL (ZA cZ2 (ZA huZ3g (ZA cZ4 (ZA hyZ5a hyZ5b)))) (ZA S_l.eq_1 SX_l.eq_1)
   · obtain ⟨yZ6,hyZ6,h⟩:=bind_s h
     obtain ⟨hyZ6a,hyZ6b⟩:=geti_s hyZ6
     cases h
     exact ZL (ZA cZ2 (ZA huZ3g (ZA cZ4 (ZA hyZ6a hyZ6b)))) (ZA S_l.eq_1 SX_l.eq_1)
 · cases h
   exact ZL cZ2 (ZA S_l.eq_1 SX_l.eq_1)
theorem w_cx (oZ0:TOutage) (maskZ0:Int) {r:Int} (h:M_cx oZ0 maskZ0=some r):Ok Try.prog 76 [.agg [.i oZ0.Unit,.lst .o 1 (oZ0.Down.map AV.i)],.i maskZ0] ((fun r=>.i r) r):=by
 refine ok_of_body hmix m76 rfl ?_
 unfold M_cx at h
 simp only [ZC,A76,V76,body_eq]
 obtain ⟨oZ7,hoZ7,h⟩:=bind_s h
 try refine ZF trivial ?_
 refine join_rule0 (blk_rule0 (loop_rule (w_l oZ0 maskZ0) hoZ7 ?_)) ?_
 · exact ZK (ZA S_l.eq_1 SX_l.eq_1)
 · simp only [ZC,SX_l,A76R2]
   cases h
   exact ZL trivial V76.eq_1
def S_j (oZ0:TOutage) (aZ0:TRoute) (bZ0:TRoute) (rZ8:List (List Int)) (v:Int×Int):St:=⟨[(5,.pt 5 0 0),(6,.pt 6 0 0),(7,.pt 7 0 0),(10,.sl 10 0 rZ8.length),(11,.i v.1),(12,.i v.2)],[(5,.var (.agg [.i oZ0.Unit,.lst .o 1 (oZ0.Down.map AV.i)])),(6,.var (.agg [.i aZ0.Start,.lst .o 1 (aZ0.Fibers.map AV.i)])),(7,.var (.agg [.i bZ0.Start,.lst .o 1 (bZ0.Fibers.map AV.i)])),(10,.arr 1 (rZ8.map (e_Li .u)))]⟩
def SX_j (v:Int):St:=⟨[(11,.i v)],[]⟩
theorem w_j (oZ0:TOutage) (aZ0:TRoute) (bZ0:TRoute) (rZ8:List (List Int)) (sZ9:Int×Int) (o:(Int×Int) ⊕ Int) (h:M_j oZ0 aZ0 bZ0 rZ8 sZ9=some o):AWP (OkS Try.prog) A51L3 (qL [5,6,7,10,11,12] [5,6,7,10] (S_j oZ0 aZ0 bZ0 rZ8) (qX 0 [11] [] (SX_j)) o) (S_j oZ0 aZ0 bZ0 rZ8 sZ9):=by
 unfold M_j at h
 simp only [ZC,S_j,A51L3]
 obtain ⟨uZ10,huZ10,h⟩:=bind_s h
 have huZ10g:=grd_s huZ10
 obtain ⟨cZ11,h⟩ | ⟨cZ11,h⟩:=cond_s h
 · obtain ⟨rZ12,hrZ12,h⟩:=bind_s h
   refine ZF (ZA huZ10g cZ11) ?_
   refine ZS (ZA huZ10g cZ11) (w_cs _ _ hrZ12) ?_
   refine ZG ?_
   obtain ⟨oZ16,hoZ16,h⟩:=bind_s h
   try refine ZF (ZA huZ10g cZ11) ?_
   refine join_rule0 (sh:=(fun v=>⟨[(5,.pt 5 0 0),(6,.pt 6 0 0),(7,.pt 7 0 0),(10,.sl 10 0 rZ8.length),(11,.i sZ9.1),(12,.i sZ9.2),(56,.b v)],[(5,.var (.agg [.i oZ0.Unit,.lst .o 1 (oZ0.Down.map AV.i)])),(6,.var (.agg [.i aZ0.Start,.lst .o 1 (aZ0.Fibers.map AV.i)])),(7,.var (.agg [.i bZ0.Start,.lst .o 1 (bZ0.Fibers.map AV.i)])),(10,.arr 1 (rZ8.map (e_Li .u)))]⟩)) (s:=oZ16) ?_ ?_
   · replace h:=hoZ16
     obtain ⟨rZ13,hrZ13,h⟩:=bind_s h
     refine ZF (ZA huZ10g cZ11) ?_
     refine ZS (ZA huZ10g cZ11) (w_bj _ hrZ13) ?_
     refine ZG ?_
     obtain ⟨cZ14,h⟩ | ⟨cZ14,h⟩:=cond_s h
     · cases h
       exact ZL (ZA huZ10g (ZA cZ11 cZ14)) trivial
     · obtain ⟨rZ15,hrZ15,h⟩:=bind_s h
       refine ZF (ZA huZ10g (ZA cZ11 cZ14)) ?_
       refine ZS (ZA huZ10g (ZA cZ11 cZ14)) (w_bj _ hrZ15) ?_
       refine ZG ?_
       cases h
       exact ZL (ZA huZ10g (ZA cZ11 cZ14)) trivial
   · simp only [ZC,A51R2]
     obtain ⟨cZ17,h⟩ | ⟨cZ17,h⟩:=cond_s h
     · obtain ⟨rZ18,hrZ18,h⟩:=bind_s h
       refine ZF (ZA huZ10g (ZA cZ11 cZ17)) ?_
       refine ZS (ZA huZ10g (ZA cZ11 cZ17)) (w_cx _ _ hrZ18) ?_
       refine ZG ?_
       cases h
       exact ZL (ZA huZ10g (ZA cZ11 cZ17)) (ZA S_j.eq_1 SX_j.eq_1)
     · cases h
       exact ZL (ZA huZ10g (ZA cZ11 cZ17)) (ZA S_j.eq_1 SX_j.eq_1)
 · cases h
   exact ZL (ZA huZ10g cZ11) (ZA S_j.eq_1 SX_j.eq_1)
theorem w_cu (nZ0:TNetwork) (oZ0:TOutage) (aZ0:TRoute) (bZ0:TRoute) {r:Int×Bool} (h:M_cu nZ0 oZ0 aZ0 bZ0=some r):Ok Try.prog 51 [.agg [.lst .o 1 (nZ0.Nodes.map AV.z),.lst .o 4 (nZ0.Fibers.map (e_TFiber .o))],.agg [.i oZ0.Unit,.lst .o 1 (oZ0.Down.map AV.i)],.agg [.i aZ0.Start,.lst .o 1 (aZ0.Fibers.map AV.i)],.agg [.i bZ0.Start,.lst .o 1 (bZ0.Fibers.map AV.i)]] ((fun r=>.tup [.i r.1,.b r.2]) r):=by
 refine ok_of_body hmix m51 rfl ?_
 unfold M_cu at h
 simp only [ZC,A51,V51,body_eq]
 obtain ⟨oZ6,hoZ6,h⟩:=bind_s h
 try refine ZF trivial ?_
 refine join_rule0 (sh:=(fun v=>⟨[(4,.pt 4 0 0),(5,.pt 5 0 0),(6,.pt 6 0 0),(7,.pt 7 0 0),(29,.b v)],[(4,.var (.agg [.lst .o 1 (nZ0.Nodes.map AV.z),.lst .o 4 (nZ0.Fibers.map (e_TFiber .o))])),(5,.var (.agg [.i oZ0.Unit,.lst .o 1 (oZ0.Down.map AV.i)])),(6,.var (.agg [.i aZ0.Start,.lst .o 1 (aZ0.Fibers.map AV.i)])),(7,.var (.agg [.i bZ0.Start,.lst .o 1 (bZ0.Fibers.map AV.i)]))]⟩)) (s:=oZ6) ?_ ?_
 · replace h:=hoZ6
   obtain ⟨rZ1,hrZ1,h⟩:=bind_s h
   refine ZF trivial ?_
   refine ZS trivial (w_dq _ _ hrZ1) ?_
   refine ZG ?_
   obtain ⟨cZ2,h⟩ | ⟨cZ2,h⟩:=cond_s h
   · cases h
     exact ZL cZ2 trivial
   · obtain ⟨rZ3,hrZ3,h⟩:=bind_s h
     refine ZF cZ2 ?_
     refine ZS cZ2 (w_bq _ _ hrZ3) ?_
     refine ZG ?_
     obtain ⟨cZ4,h⟩ | ⟨cZ4,h⟩:=cond_s h
     · cases h
       exact ZL (ZA cZ2 cZ4) trivial
     · obtain ⟨rZ5,hrZ5,h⟩:=bind_s h
       refine ZF (ZA cZ2 cZ4) ?_
       refine ZS (ZA cZ2 cZ4) (w_bq _ _ hrZ5) ?_
       refine ZG ?_
       cases h
       exact ZL (ZA cZ2 cZ4) trivial
 · simp only [ZC,A51R1]
   obtain ⟨cZ7,h⟩ | ⟨cZ7,h⟩:=cond_s h
   · cases h
     exact ZL cZ7 V51.eq_1
   · obtain ⟨rZ8,hrZ8,h⟩:=bind_s h
     refine ZF cZ7 ?_
     refine ZU cZ7 (w_bm _ hrZ8) ?_
     refine ZG ?_
     obtain ⟨oZ19,hoZ19,h⟩:=bind_s h
     try refine ZF cZ7 ?_
     refine join_rule0 (blk_rule0 (loop_rule (w_j oZ0 aZ0 bZ0 rZ8) hoZ19 ?_)) ?_
     · exact ZK (ZA S_j.eq_1 SX_j.eq_1)
     · simp only [ZC,SX_j,A51R4]
       cases h
       exact ZL cZ7 V51.eq_1
theorem w_ce (goneZ0:List Int) (p1Z0:TRoute) {r:Bool} (h:M_ce goneZ0 p1Z0=some r):Ok Try.prog 109 [.lst .o 1 (goneZ0.map AV.i),.bp .o (.agg [.i p1Z0.Start,.lst .o 1 (p1Z0.Fibers.map AV.i)]) 0] ((fun r=>.b r) r):=by
 refine ok_of_body hmix m109 rfl ?_
 unfold M_ce at h
 simp only [ZC,A109,V109,body_eq]
 obtain ⟨rZ1,hrZ1,h⟩:=bind_s h
 refine ZF trivial ?_
 refine ZU trivial (w_bi _ _ hrZ1) ?_
 refine ZG ?_
 cases h
 exact ZL trivial V109.eq_1
theorem w_bs (nZ0:TNetwork) (oZ0:TOutage) (rZ0:TRoute) {r:Int×Bool} (h:M_bs nZ0 oZ0 rZ0=some r):Ok Try.prog 56 [.agg [.lst .o 1 (nZ0.Nodes.map AV.z),.lst .o 4 (nZ0.Fibers.map (e_TFiber .o))],.agg [.i oZ0.Unit,.lst .o 1 (oZ0.Down.map AV.i)],.agg [.i rZ0.Start,.lst .o 1 (rZ0.Fibers.map AV.i)]] ((fun r=>.tup [.i r.1,.b r.2]) r):=by
 refine ok_of_body hmix m56 rfl ?_
 unfold M_bs at h
 simp only [ZC,A56,V56,body_eq]
 obtain ⟨oZ4,hoZ4,h⟩:=bind_s h
 try refine ZF trivial ?_
 refine join_rule0 (sh:=(fun v=>⟨[(3,.pt 3 0 0),(4,.pt 4 0 0),(5,.pt 5 0 0),(17,.b v)],[(3,.var (.agg [.lst .o 1 (nZ0.Nodes.map AV.z),.lst .o 4 (nZ0.Fibers.map (e_TFiber .o))])),(4,.var (.agg [.i oZ0.Unit,.lst .o 1 (oZ0.Down.map AV.i)])),(5,.var (.agg [.i rZ0.Start,.lst .o 1 (rZ0.Fibers.map AV.i)]))]⟩)) (s:=oZ4) ?_ ?_
 · replace h:=hoZ4
   obtain ⟨rZ1,hrZ1,h⟩:=bind_s h
   refine ZF trivial ?_
   refine ZS trivial (w_bc _ _ hrZ1) ?_
   refine ZG ?_
   obtain ⟨cZ2,h⟩ | ⟨cZ2,h⟩:=cond_s h
   · cases h
     exact ZL cZ2 trivial
   · obtain ⟨rZ3,hrZ3,h⟩:=bind_s h
     refine ZF cZ2 ?_
     refine ZS cZ2 (w_bp _ _ hrZ3) ?_
     refine ZG ?_
     cases h
     exact ZL cZ2 trivial
 · simp only [ZC,A56R1]
   obtain ⟨cZ5,h⟩ | ⟨cZ5,h⟩:=cond_s h
   · cases h
     exact ZL cZ5 V56.eq_1
   · obtain ⟨rZ6,hrZ6,h⟩:=bind_s h
     refine ZF cZ5 ?_
     refine ZS cZ5 (w_be _ _ _ hrZ6 109 [.bp .o (.agg [.i rZ0.Start,.lst .o 1 (rZ0.Fibers.map AV.i)]) 0] ⟨fun ρ k=>by simp only [VS1,VS2,VS3,VS4,VS5,VS6,VT1,VT2,finM_ret,finM_nrm,decide_true,decide_false,List.nodup_nil,List.nodup_cons,oks_p,oks_m,oks_h,ne_eq,not_false_eq_true,Int.reduceEq,Int.reduceNe,true_and,false_and,Nat.reduceSub,Nat.reduceMul,↓reduceIte,reduceCtorEq,Nat.reduceEqDiff,Nat.reduceAdd,Nat.reduceLeDiff,Int.reduceLE],by simp [mentsL,AV.ments]⟩ (fun _ _ h=>w_ce _ _ h)) ?_
     refine ZG ?_
     cases h
     exact ZL cZ5 V56.eq_1
theorem w_ee (nZ0:TNetwork) (rZ0:TRoute) {r:List Int} (h:M_ee nZ0 rZ0=some r):Ok Try.prog 111 [.agg [.lst .o 1 (nZ0.Nodes.map AV.z),.lst .o 4 (nZ0.Fibers.map (e_TFiber .o))],.agg [.i rZ0.Start,.lst .o 1 (rZ0.Fibers.map AV.i)]] ((fun r=>.lst .u 1 (r.map AV.i)) r):=by
 refine ok_of_body hmix m111 rfl ?_
 unfold M_ee at h
 simp only [ZC,A111,V111,body_eq]
 obtain ⟨rZ1,hrZ1,h⟩:=bind_s h
 refine ZF trivial ?_
 refine ZU trivial (w_cb _ _ hrZ1) ?_
 refine ZG ?_
 cases h
 exact ZL trivial V111.eq_1
theorem w_dr (nZ0:TNetwork) (rZ0:TRoute) {r:List Int×Bool} (h:M_dr nZ0 rZ0=some r):Ok Try.prog 58 [.agg [.lst .o 1 (nZ0.Nodes.map AV.z),.lst .o 4 (nZ0.Fibers.map (e_TFiber .o))],.agg [.i rZ0.Start,.lst .o 1 (rZ0.Fibers.map AV.i)]] ((fun r=>.tup [.lst .u 1 (r.1.map AV.i),.b r.2]) r):=by
 refine ok_of_body hmix m58 rfl ?_
 unfold M_dr at h
 simp only [ZC,A58,V58,body_eq]
 obtain ⟨rZ1,hrZ1,h⟩:=bind_s h
 refine ZF trivial ?_
 refine ZS trivial (w_bq _ _ hrZ1) ?_
 refine ZG ?_
 obtain ⟨cZ2,h⟩ | ⟨cZ2,h⟩:=cond_s h
 · cases h
   exact ZL cZ2 V58.eq_1
 · obtain ⟨rZ3,hrZ3,h⟩:=bind_s h
   refine ZF cZ2 ?_
   refine ZU cZ2 (w_ee _ _ hrZ3) ?_
   refine ZG ?_
   cases h
   exact ZL cZ2 V58.eq_1
theorem w_cj (vZ0:Int) (p1Z0:TNetwork) {r:Bool} (h:M_cj vZ0 p1Z0=some r):Ok Try.prog 143 [.i vZ0,.bp .o (.agg [.lst .o 1 (p1Z0.Nodes.map AV.z),.lst .o 4 (p1Z0.Fibers.map (e_TFiber .o))]) 0] ((fun r=>.b r) r):=by
 refine ok_of_body hmix m143 rfl ?_
 unfold M_cj at h
 simp only [ZC,A143,V143,body_eq]
 obtain ⟨rZ1,hrZ1,h⟩:=bind_s h
 refine ZF trivial ?_
 refine ZS trivial (w_e _ _ _ hrZ1) ?_
 refine ZG ?_
 cases h
 exact ZL trivial V143.eq_1
theorem w_ci (nZ0:TNetwork) (nodesZ0:List Int) {r:Bool} (h:M_ci nZ0 nodesZ0=some r):Ok Try.prog 119 [.agg [.lst .o 1 (nZ0.Nodes.map AV.z),.lst .o 4 (nZ0.Fibers.map (e_TFiber .o))],.lst .o 1 (nodesZ0.map AV.i)] ((fun r=>.b r) r):=by
 refine ok_of_body hmix m119 rfl ?_
 unfold M_ci at h
 simp only [ZC,A119,V119,body_eq]
 obtain ⟨rZ1,hrZ1,h⟩:=bind_s h
 refine ZF trivial ?_
 refine ZS trivial (w_bn _ hrZ1) ?_
 refine ZG ?_
 obtain ⟨cZ2,h⟩ | ⟨cZ2,h⟩:=cond_s h
 · obtain ⟨rZ3,hrZ3,h⟩:=bind_s h
   refine ZF cZ2 ?_
   refine ZS cZ2 (w_ca _ _ hrZ3 143 [.bp .o (.agg [.lst .o 1 (nZ0.Nodes.map AV.z),.lst .o 4 (nZ0.Fibers.map (e_TFiber .o))]) 0] ⟨fun ρ k=>by simp only [VS1,VS2,VS3,VS4,VS5,VS6,VT1,VT2,finM_ret,finM_nrm,decide_true,decide_false,List.nodup_nil,List.nodup_cons,oks_p,oks_m,oks_h,ne_eq,not_false_eq_true,Int.reduceEq,Int.reduceNe,true_and,false_and,Nat.reduceSub,Nat.reduceMul,↓reduceIte,reduceCtorEq,Nat.reduceEqDiff,Nat.reduceAdd,Nat.reduceLeDiff,Int.reduceLE],by simp [mentsL,AV.ments]⟩ (fun _ _ h=>w_cj _ _ h)) ?_
   refine ZG ?_
   cases h
   exact ZL cZ2 V119.eq_1
 · cases h
   exact ZL cZ2 V119.eq_1
theorem w_ck (nZ0:TNetwork) (oZ0:TOutage) (fromZ0:Int) (toZ0:Int) {r:Bool} (h:M_ck nZ0 oZ0 fromZ0 toZ0=some r):Ok Try.prog 86 [.agg [.lst .o 1 (nZ0.Nodes.map AV.z),.lst .o 4 (nZ0.Fibers.map (e_TFiber .o))],.agg [.i oZ0.Unit,.lst .o 1 (oZ0.Down.map AV.i)],.i fromZ0,.i toZ0] ((fun r=>.b r) r):=by
 refine ok_of_body hmix m86 rfl ?_
 unfold M_ck at h
 simp only [ZC,A86,V86,body_eq]
 obtain ⟨rZ1,hrZ1,h⟩:=bind_s h
 refine ZF trivial ?_
 refine ZS trivial (w_bc _ _ hrZ1) ?_
 refine ZG ?_
 obtain ⟨cZ2,h⟩ | ⟨cZ2,h⟩:=cond_s h
 · obtain ⟨lZ3,hlZ3,h⟩:=bnd_s h
   have eZ4:Row.arr 1 [(.i fromZ0:AV),(.i toZ0:AV)]=Row.arr 1 (lZ3.map AV.i):=by rw [← hlZ3]; rfl
   have jjZ5:lZ3.length=2:=by rw [← hlZ3]; rfl
   have nZ6:sub (lZ3.map AV.i) 0 2=lZ3.map AV.i:=sub_n _ (by simp [← hlZ3])
   obtain ⟨rZ7,hrZ7,h⟩:=bind_s h
   refine ZF (ZA cZ2 (ZA eZ4 (ZA jjZ5 nZ6))) ?_
   refine ZS (ZA cZ2 (ZA eZ4 (ZA jjZ5 nZ6))) (w_ci _ _ hrZ7) ?_
   refine ZG ?_
   obtain ⟨cZ8,h⟩ | ⟨cZ8,h⟩:=cond_s h
   · cases h
     exact ZL (ZA cZ2 (ZA eZ4 (ZA jjZ5 (ZA nZ6 cZ8)))) (ZA V86.eq_1 (ZA hlZ3.symm jjZ5))
   · cases h
     exact ZL (ZA cZ2 (ZA eZ4 (ZA jjZ5 (ZA nZ6 cZ8)))) (ZA V86.eq_1 (ZA hlZ3.symm jjZ5))
 · cases h
   exact ZL cZ2 V86.eq_1
def S_ad (nZ0:TNetwork) (goneZ0:List Int) (v:Int×List Int):St:=⟨[(1,.lst .o 1 (goneZ0.map AV.i)),(2,.pt 2 0 0),(5,.sl 5 0 v.2.length),(13,.i (nZ0.Nodes.length:Int)),(14,.i v.1)],[(2,.var (.agg [.lst .o 1 (nZ0.Nodes.map AV.z),.lst .o 4 (nZ0.Fibers.map (e_TFiber .o))])),(5,.arr 1 (v.2.map AV.i))]⟩
def SX_ad (nZ0:TNetwork) (goneZ0:List Int) (v:List Int):St:=⟨[(1,.lst .o 1 (goneZ0.map AV.i)),(2,.pt 2 0 0),(5,.sl 5 0 v.length)],[(2,.var (.agg [.lst .o 1 (nZ0.Nodes.map AV.z),.lst .o 4 (nZ0.Fibers.map (e_TFiber .o))])),(5,.arr 1 (v.map AV.i))]⟩
theorem w_ad (nZ0:TNetwork) (goneZ0:List Int) (sZ1:Int×List Int) (o:(Int×List Int) ⊕ (List Int)) (h:M_ad nZ0 sZ1=some o):AWP (OkS Try.prog) A84L1 (qL [1,2,5,13,14] [2,5] (S_ad nZ0 goneZ0) (qX 0 [1,2,5] [2,5] (SX_ad nZ0 goneZ0)) o) (S_ad nZ0 goneZ0 sZ1):=by
 unfold M_ad at h
 simp only [ZC,S_ad,A84L1]
 obtain ⟨cZ2,h⟩ | ⟨cZ2,h⟩:=cond_s h
 · obtain ⟨lZ3,hlZ3,h⟩:=bnd_s h
   have eZ4:Row.arr 1 [(.i sZ1.1:AV)]=Row.arr 1 (lZ3.map AV.i):=by rw [← hlZ3]; rfl
   have jjZ5:lZ3.length=1:=by rw [← hlZ3]; rfl
   obtain ⟨uZ6,huZ6,h⟩:=bind_s h
   have huZ6g:=grd_s huZ6
   obtain ⟨lZ7,hlZ7,h⟩:=bnd_s h
   have eZ8:sZ1.2.map AV.i++lZ3.map AV.i=lZ7.map AV.i:=by rw [← hlZ7,List.map_append]
   have eZ9:sZ1.2.length+1=lZ7.length:=by simp [← hlZ3,← hlZ7] <;> omega
   rw [eZ9] at huZ6g
   cases h
   exact ZL (ZA cZ2 (ZA eZ4 (ZA jjZ5 (ZA huZ6g (ZA eZ8 eZ9))))) (ZA S_ad.eq_1 (ZA SX_ad.eq_1 (ZA hlZ3.symm (ZA hlZ7.symm jjZ5))))
 · cases h
   exact ZL cZ2 (ZA S_ad.eq_1 SX_ad.eq_1)
def S_f (nZ0:TNetwork) (goneZ0:List Int) (sZ11:Int×List Int) (v:Int×List Int):St:=⟨[(1,.lst .o 1 (goneZ0.map AV.i)),(2,.pt 2 0 0),(5,.sl 5 0 v.2.length),(24,.i (nZ0.Nodes.length:Int)),(25,.i sZ11.1),(28,.lst .o 4 (nZ0.Fibers.map (e_TFiber .o))),(29,.i (nZ0.Fibers.length:Int)),(30,.i v.1)],[(2,.var (.agg [.lst .o 1 (nZ0.Nodes.map AV.z),.lst .o 4 (nZ0.Fibers.map (e_TFiber .o))])),(5,.arr 1 (v.2.map AV.i))]⟩
def SX_f (nZ0:TNetwork) (goneZ0:List Int) (sZ11:Int×List Int) (v:List Int):St:=⟨[(1,.lst .o 1 (goneZ0.map AV.i)),(2,.pt 2 0 0),(5,.sl 5 0 v.length),(24,.i (nZ0.Nodes.length:Int)),(25,.i sZ11.1)],[(2,.var (.agg [.lst .o 1 (nZ0.Nodes.map AV.z),.lst .o 4 (nZ0.Fibers.map (e_TFiber .o))])),(5,.arr 1 (v.map AV.i))]⟩
theorem w_f (nZ0:TNetwork) (goneZ0:List Int) (sZ11:Int×List Int) (sZ13:Int×List Int) (o:(Int×List Int) ⊕ (List Int)) (h:M_f nZ0 goneZ0 sZ13=some o):AWP (OkS Try.prog) A84L3 (qL [1,2,5,24,25,28,29,30] [2,5] (S_f nZ0 goneZ0 sZ11) (qX 4 [1,2,5,24,25] [2,5] (SX_f nZ0 goneZ0 sZ11)) o) (S_f nZ0 goneZ0 sZ11 sZ13):=by
 unfold M_f at h
 simp only [ZC,S_f,A84L3]
 obtain ⟨cZ14,h⟩ | ⟨cZ14,h⟩:=cond_s h
 · obtain ⟨yZ15,hyZ15,h⟩:=bind_s h
   obtain ⟨hyZ15a,hyZ15b⟩:=geti_s hyZ15
   obtain ⟨rZ16,hrZ16,h⟩:=bind_s h
   refine ZF (ZA cZ14 (ZA hyZ15a hyZ15b)) ?_
   refine ZS (ZA cZ14 (ZA hyZ15a hyZ15b)) (w_bo _ _ hrZ16) ?_
   refine ZG ?_
   obtain ⟨cZ17,h⟩ | ⟨cZ17,h⟩:=cond_s h
   · obtain ⟨kZ18,hkZ18,h⟩:=bind_s h
     obtain ⟨hkZ18a,hkZ18b⟩:=grd_s hkZ18
     obtain ⟨yZ19,hyZ19,h⟩:=bind_s h
     obtain ⟨kZ20,hkZ20,h⟩:=bind_s h
     obtain ⟨hkZ20a,hkZ20b⟩:=grd_s hkZ20
     obtain ⟨yZ21,hyZ21,h⟩:=bind_s h
     obtain ⟨lZ22,hlZ22,h⟩:=bnd_s h
     have eZ23:(sZ13.2.map AV.i).set (Int.toNat yZ15.A) (.i (if yZ21 < yZ19 then yZ21 else yZ19))=lZ22.map AV.i:=by rw [← hlZ22,List.map_set]
     obtain ⟨yZ24,hyZ24,h⟩:=bind_s h
     obtain ⟨lZ25,hlZ25,h⟩:=bnd_s h
     have eZ26:(lZ22.map AV.i).set (Int.toNat yZ15.B) (.i (if yZ21 < yZ19 then yZ21 else yZ19))=lZ25.map AV.i:=by rw [← hlZ25,List.map_set]
     cases h
     exact ZL (ZA cZ14 (ZA hyZ15a (ZA hyZ15b (ZA cZ17 (ZA hkZ18a (ZA hkZ18b (ZA hyZ19 (ZA hkZ20a (ZA hkZ20b (ZA hyZ21 (ZA eZ23 (ZA hyZ24 eZ26)))))))))))) (ZA S_f.eq_1 (ZA SX_f.eq_1 (ZA hlZ22.symm hlZ25.symm)))
   · cases h
     exact ZL (ZA cZ14 (ZA hyZ15a (ZA hyZ15b cZ17))) (ZA S_f.eq_1 SX_f.eq_1)
 · cases h
   exact ZL cZ14 (ZA S_f.eq_1 SX_f.eq_1)
def S_ae (nZ0:TNetwork) (goneZ0:List Int) (v:Int×List Int):St:=⟨[(1,.lst .o 1 (goneZ0.map AV.i)),(2,.pt 2 0 0),(5,.sl 5 0 v.2.length),(24,.i (nZ0.Nodes.length:Int)),(25,.i v.1)],[(2,.var (.agg [.lst .o 1 (nZ0.Nodes.map AV.z),.lst .o 4 (nZ0.Fibers.map (e_TFiber .o))])),(5,.arr 1 (v.2.map AV.i))]⟩
def SX_ae (v:List Int):St:=⟨[(5,.sl 5 0 v.length)],[(5,.arr 1 (v.map AV.i))]⟩
theorem w_ae (nZ0:TNetwork) (goneZ0:List Int) (sZ11:Int×List Int) (o:(Int×List Int) ⊕ (List Int)) (h:M_ae nZ0 goneZ0 sZ11=some o):AWP (OkS Try.prog) A84L5 (qL [1,2,5,24,25] [2,5] (S_ae nZ0 goneZ0) (qX 2 [5] [5] (SX_ae)) o) (S_ae nZ0 goneZ0 sZ11):=by
 unfold M_ae at h
 simp only [ZC,S_ae,A84L5]
 obtain ⟨cZ12,h⟩ | ⟨cZ12,h⟩:=cond_s h
 · obtain ⟨oZ29,hoZ29,h⟩:=bind_s h
   try refine ZF cZ12 ?_
   refine join_rule0 (sh:=(fun v=>⟨[(1,.lst .o 1 (goneZ0.map AV.i)),(2,.pt 2 0 0),(5,.sl 5 0 v.length),(24,.i (nZ0.Nodes.length:Int)),(25,.i sZ11.1)],[(2,.var (.agg [.lst .o 1 (nZ0.Nodes.map AV.z),.lst .o 4 (nZ0.Fibers.map (e_TFiber .o))])),(5,.arr 1 (v.map AV.i))]⟩)) (s:=oZ29) ?_ ?_
   · replace h:=hoZ29
     obtain ⟨oZ27,hoZ27,h⟩:=bind_s h
     try refine ZF cZ12 ?_
     first | refine tail_rule0 (blk_rule0 (loop_rule (w_f nZ0 goneZ0 sZ11) hoZ27 ?_)) (fun τ qZ28=>?_) | refine tail_blk0 (loop_rule (w_f nZ0 goneZ0 sZ11) hoZ27 ?_) (fun τ qZ28=>?_)
     · exact ZK (ZA S_f.eq_1 SX_f.eq_1)
     · cases h
       try refine ZF trivial ?_
       refine ⟨rfl,Shp.sub qZ28 (by decide) (by decide) ?_⟩
       exact ZK SX_f.eq_1
   · simp only [ZC,A84R4]
     cases h
     exact ZL cZ12 (ZA S_ae.eq_1 SX_ae.eq_1)
 · cases h
   exact ZL cZ12 (ZA S_ae.eq_1 SX_ae.eq_1)
theorem w_cc (nZ0:TNetwork) (goneZ0:List Int) {r:List Int} (h:M_cc nZ0 goneZ0=some r):Ok Try.prog 84 [.agg [.lst .o 1 (nZ0.Nodes.map AV.z),.lst .o 4 (nZ0.Fibers.map (e_TFiber .o))],.lst .o 1 (goneZ0.map AV.i)] ((fun r=>.lst .u 1 (r.map AV.i)) r):=by
 refine ok_of_body hmix m84 rfl ?_
 unfold M_cc at h
 simp only [ZC,A84,V84,body_eq]
 obtain ⟨oZ10,hoZ10,h⟩:=bind_s h
 try refine ZF trivial ?_
 refine join_rule0 (blk_rule0 (loop_rule (w_ad nZ0 goneZ0) hoZ10 ?_)) ?_
 · exact ZK (ZA S_ad.eq_1 SX_ad.eq_1)
 · simp only [ZC,SX_ad,A84R2]
   obtain ⟨oZ30,hoZ30,h⟩:=bind_s h
   try refine ZF trivial ?_
   refine join_rule0 (blk_rule0 (loop_rule (w_ae nZ0 goneZ0) hoZ30 ?_)) ?_
   · exact ZK (ZA S_ae.eq_1 SX_ae.eq_1)
   · simp only [ZC,SX_ae,A84R6]
     cases h
     exact ZL trivial V84.eq_1
theorem w_cl (goneZ0:List Int) (p1Z0:TNetwork) (p2Z0:Int) (p3Z0:Int) {r:Bool} (h:M_cl goneZ0 p1Z0 p2Z0 p3Z0=some r):Ok Try.prog 120 [.lst .o 1 (goneZ0.map AV.i),.bp .o (.agg [.lst .o 1 (p1Z0.Nodes.map AV.z),.lst .o 4 (p1Z0.Fibers.map (e_TFiber .o))]) 0,.bp .o (.i p2Z0) 0,.bp .o (.i p3Z0) 0] ((fun r=>.b r) r):=by
 refine ok_of_body hmix m120 rfl ?_
 unfold M_cl at h
 simp only [ZC,A120,V120,body_eq]
 obtain ⟨rZ1,hrZ1,h⟩:=bind_s h
 refine ZF trivial ?_
 refine ZU trivial (w_cc _ _ hrZ1) ?_
 refine ZG ?_
 obtain ⟨kZ2,hkZ2,h⟩:=bind_s h
 obtain ⟨hkZ2a,hkZ2b⟩:=grd_s hkZ2
 obtain ⟨yZ3,hyZ3,h⟩:=bind_s h
 obtain ⟨kZ4,hkZ4,h⟩:=bind_s h
 obtain ⟨hkZ4a,hkZ4b⟩:=grd_s hkZ4
 obtain ⟨yZ5,hyZ5,h⟩:=bind_s h
 cases h
 exact ZL (ZA hkZ2a (ZA hkZ2b (ZA hyZ3 (ZA hkZ4a (ZA hkZ4b hyZ5))))) V120.eq_1
theorem w_cm (oZ0:TOutage) (nZ0:TNetwork) (fromZ0:Int) (toZ0:Int) {r:Int} (h:M_cm oZ0 nZ0 fromZ0 toZ0=some r):Ok Try.prog 87 [.agg [.i oZ0.Unit,.lst .o 1 (oZ0.Down.map AV.i)],.agg [.lst .o 1 (nZ0.Nodes.map AV.z),.lst .o 4 (nZ0.Fibers.map (e_TFiber .o))],.i fromZ0,.i toZ0] ((fun r=>.i r) r):=by
 refine ok_of_body hmix m87 rfl ?_
 unfold M_cm at h
 simp only [ZC,A87,V87,body_eq]
 obtain ⟨rZ1,hrZ1,h⟩:=bind_s h
 refine ZF trivial ?_
 refine ZS trivial (w_be _ _ _ hrZ1 120 [.bp .o (.agg [.lst .o 1 (nZ0.Nodes.map AV.z),.lst .o 4 (nZ0.Fibers.map (e_TFiber .o))]) 0,.bp .o (.i fromZ0) 0,.bp .o (.i toZ0) 0] ⟨fun ρ k=>by simp only [VS1,VS2,VS3,VS4,VS5,VS6,VT1,VT2,finM_ret,finM_nrm,decide_true,decide_false,List.nodup_nil,List.nodup_cons,oks_p,oks_m,oks_h,ne_eq,not_false_eq_true,Int.reduceEq,Int.reduceNe,true_and,false_and,Nat.reduceSub,Nat.reduceMul,↓reduceIte,reduceCtorEq,Nat.reduceEqDiff,Nat.reduceAdd,Nat.reduceLeDiff,Int.reduceLE],by simp [mentsL,AV.ments]⟩ (fun _ _ h=>w_cl _ _ _ _ h)) ?_
 refine ZG ?_
 cases h
 exact ZL trivial V87.eq_1
theorem w_cn (nZ0:TNetwork) (oZ0:TOutage) (fromZ0:Int) (toZ0:Int) {r:Int×Bool} (h:M_cn nZ0 oZ0 fromZ0 toZ0=some r):Ok Try.prog 32 [.agg [.lst .o 1 (nZ0.Nodes.map AV.z),.lst .o 4 (nZ0.Fibers.map (e_TFiber .o))],.agg [.i oZ0.Unit,.lst .o 1 (oZ0.Down.map AV.i)],.i fromZ0,.i toZ0] ((fun r=>.tup [.i r.1,.b r.2]) r):=by
 refine ok_of_body hmix m32 rfl ?_
 unfold M_cn at h
 simp only [ZC,A32,V32,body_eq]
 obtain ⟨rZ1,hrZ1,h⟩:=bind_s h
 refine ZF trivial ?_
 refine ZS trivial (w_ck _ _ _ _ hrZ1) ?_
 refine ZG ?_
 obtain ⟨cZ2,h⟩ | ⟨cZ2,h⟩:=cond_s h
 · cases h
   exact ZL cZ2 V32.eq_1
 · obtain ⟨rZ3,hrZ3,h⟩:=bind_s h
   refine ZF cZ2 ?_
   refine ZS cZ2 (w_cm _ _ _ _ hrZ3) ?_
   refine ZG ?_
   cases h
   exact ZL cZ2 V32.eq_1
def S_az (xZ0:List Int) (v:Int×Int):St:=⟨[(0,.lst .o 1 (xZ0.map AV.i)),(3,.i v.1),(4,.i v.2)],[]⟩
def SX_az (v:Int):St:=⟨[(3,.i v)],[]⟩
theorem w_az (xZ0:List Int) (sZ3:Int×Int) (o:(Int×Int) ⊕ Int) (h:M_az xZ0 sZ3=some o):AWP (OkS Try.prog) A83L1 (qL [0,3,4] [] (S_az xZ0) (qX 0 [3] [] (SX_az)) o) (S_az xZ0 sZ3):=by
 unfold M_az at h
 simp only [ZC,S_az,A83L1]
 obtain ⟨cZ4,h⟩ | ⟨cZ4,h⟩:=cond_s h
 · obtain ⟨yZ5,hyZ5,h⟩:=bind_s h
   obtain ⟨hyZ5a,hyZ5b⟩:=geti_s hyZ5
   cases h
   exact ZL (ZA cZ4 (ZA hyZ5a hyZ5b)) (ZA S_az.eq_1 SX_az.eq_1)
 · cases h
   exact ZL cZ4 (ZA S_az.eq_1 SX_az.eq_1)
theorem w_cg (xZ0:List Int) {r:Int} (h:M_cg xZ0=some r):Ok Try.prog 83 [.lst .o 1 (xZ0.map AV.i)] ((fun r=>.i r) r):=by
 refine ok_of_body hmix m83 rfl ?_
 unfold M_cg at h
 simp only [ZC,A83,V83,body_eq]
 obtain ⟨cZ1,h⟩ | ⟨cZ1,h⟩:=cond_s h
 · cases h
 · obtain ⟨yZ2,hyZ2,h⟩:=bind_s h
   obtain ⟨hyZ2a,hyZ2b⟩:=geti_s hyZ2
   obtain ⟨oZ6,hoZ6,h⟩:=bind_s h
   try refine ZF (ZA cZ1 (ZA hyZ2a hyZ2b)) ?_
   refine join_rule0 (blk_rule0 (loop_rule (w_az xZ0) hoZ6 ?_)) ?_
   · exact ZK (ZA S_az.eq_1 SX_az.eq_1)
   · simp only [ZC,SX_az,A83R2]
     cases h
     exact ZL (ZA cZ1 (ZA hyZ2a hyZ2b)) V83.eq_1
theorem w_ds (goneZ0:List Int) (p1Z0:TNetwork) {r:Bool} (h:M_ds goneZ0 p1Z0=some r):Ok Try.prog 82 [.lst .o 1 (goneZ0.map AV.i),.bp .o (.agg [.lst .o 1 (p1Z0.Nodes.map AV.z),.lst .o 4 (p1Z0.Fibers.map (e_TFiber .o))]) 0] ((fun r=>.b r) r):=by
 refine ok_of_body hmix m82 rfl ?_
 unfold M_ds at h
 simp only [ZC,A82,V82,body_eq]
 obtain ⟨rZ1,hrZ1,h⟩:=bind_s h
 refine ZF trivial ?_
 refine ZU trivial (w_cc _ _ hrZ1) ?_
 refine ZG ?_
 obtain ⟨rZ2,hrZ2,h⟩:=bind_s h
 refine ZF trivial ?_
 refine ZS trivial (w_cg _ hrZ2) ?_
 refine ZG ?_
 cases h
 exact ZL trivial V82.eq_1
theorem w_dt (nZ0:TNetwork) (oZ0:TOutage) {r:Int×Bool} (h:M_dt nZ0 oZ0=some r):Ok Try.prog 30 [.agg [.lst .o 1 (nZ0.Nodes.map AV.z),.lst .o 4 (nZ0.Fibers.map (e_TFiber .o))],.agg [.i oZ0.Unit,.lst .o 1 (oZ0.Down.map AV.i)]] ((fun r=>.tup [.i r.1,.b r.2]) r):=by
 refine ok_of_body hmix m30 rfl ?_
 unfold M_dt at h
 simp only [ZC,A30,V30,body_eq]
 obtain ⟨rZ1,hrZ1,h⟩:=bind_s h
 refine ZF trivial ?_
 refine ZS trivial (w_bc _ _ hrZ1) ?_
 refine ZG ?_
 obtain ⟨cZ2,h⟩ | ⟨cZ2,h⟩:=cond_s h
 · cases h
   exact ZL cZ2 V30.eq_1
 · obtain ⟨rZ3,hrZ3,h⟩:=bind_s h
   refine ZF cZ2 ?_
   refine ZS cZ2 (w_be _ _ _ hrZ3 82 [.bp .o (.agg [.lst .o 1 (nZ0.Nodes.map AV.z),.lst .o 4 (nZ0.Fibers.map (e_TFiber .o))]) 0] ⟨fun ρ k=>by simp only [VS1,VS2,VS3,VS4,VS5,VS6,VT1,VT2,finM_ret,finM_nrm,decide_true,decide_false,List.nodup_nil,List.nodup_cons,oks_p,oks_m,oks_h,ne_eq,not_false_eq_true,Int.reduceEq,Int.reduceNe,true_and,false_and,Nat.reduceSub,Nat.reduceMul,↓reduceIte,reduceCtorEq,Nat.reduceEqDiff,Nat.reduceAdd,Nat.reduceLeDiff,Int.reduceLE],by simp [mentsL,AV.ments]⟩ (fun _ _ h=>w_ds _ _ h)) ?_
   refine ZG ?_
   cases h
   exact ZL cZ2 V30.eq_1
def S_aa (lZ0:List Int) (nZ0:Int) (v:Int):St:=⟨[(0,.lst .o 1 (lZ0.map AV.i)),(1,.i nZ0),(7,.lst .o 1 (lZ0.map AV.i)),(8,.i (lZ0.length:Int)),(9,.i v)],[]⟩
def SX_aa (v:Unit):St:=⟨[],[]⟩
theorem w_aa (lZ0:List Int) (nZ0:Int) (sZ1:Int) (o:Int ⊕ (Unit ⊕ Bool)) (h:M_aa lZ0 nZ0 sZ1=some o):AWP (OkS Try.prog) A78L1 (qL [0,1,7,8,9] [] (S_aa lZ0 nZ0) (qS (qX 0 [] [] (SX_aa)) (qR V78 (fun r=>.b r))) o) (S_aa lZ0 nZ0 sZ1):=by
 unfold M_aa at h
 simp only [ZC,S_aa,A78L1]
 obtain ⟨cZ2,h⟩ | ⟨cZ2,h⟩:=cond_s h
 · obtain ⟨yZ3,hyZ3,h⟩:=bind_s h
   obtain ⟨hyZ3a,hyZ3b⟩:=geti_s hyZ3
   obtain ⟨rZ4,hrZ4,h⟩:=bind_s h
   refine ZF (ZA cZ2 (ZA hyZ3a hyZ3b)) ?_
   refine ZS (ZA cZ2 (ZA hyZ3a hyZ3b)) (w_e _ _ _ hrZ4) ?_
   refine ZG ?_
   obtain ⟨cZ5,h⟩ | ⟨cZ5,h⟩:=cond_s h
   · cases h
     exact ZL (ZA cZ2 (ZA hyZ3a (ZA hyZ3b cZ5))) V78.eq_1
   · obtain ⟨cZ6,h⟩ | ⟨cZ6,h⟩:=cond_s h
     · obtain ⟨yZ7,hyZ7,h⟩:=bind_s h
       obtain ⟨hyZ7a,hyZ7b⟩:=geti_s hyZ7
       obtain ⟨cZ8,h⟩ | ⟨cZ8,h⟩:=cond_s h
       · cases h
         exact ZL (ZA cZ2 (ZA hyZ3a (ZA hyZ3b (ZA cZ5 (ZA cZ6 (ZA hyZ7a (ZA hyZ7b cZ8))))))) V78.eq_1
       · cases h
         exact ZL (ZA cZ2 (ZA hyZ3a (ZA hyZ3b (ZA cZ5 (ZA cZ6 (ZA hyZ7a (ZA hyZ7b cZ8))))))) (ZA S_aa.eq_1 SX_aa.eq_1)
     · cases h
       exact ZL (ZA cZ2 (ZA hyZ3a (ZA hyZ3b (ZA cZ5 cZ6)))) (ZA S_aa.eq_1 SX_aa.eq_1)
 · cases h
   exact ZL cZ2 (ZA S_aa.eq_1 SX_aa.eq_1)
theorem w_du (lZ0:List Int) (nZ0:Int) {r:Bool} (h:M_du lZ0 nZ0=some r):Ok Try.prog 78 [.lst .o 1 (lZ0.map AV.i),.i nZ0] ((fun r=>.b r) r):=by
 refine ok_of_body hmix m78 rfl ?_
 unfold M_du at h
 simp only [ZC,A78,V78,body_eq]
 obtain ⟨oZ9,hoZ9,h⟩:=bind_s h
 try refine ZF trivial ?_
 refine join_rule (o:=oZ9) (blk_rule sideR (loop_rule (w_aa lZ0 nZ0) hoZ9 ?_)) (fun vZ10 hv=>?_) (fun xZ11 hv e τ hne hq=>?_)
 · exact ZK (ZA S_aa.eq_1 SX_aa.eq_1)
 · subst hv
   simp only [] at h
   simp only [ZC,SX_aa,A78R2]
   cases h
   exact ZL trivial V78.eq_1
 · subst hv
   simp only [] at h
   obtain ⟨rfl,qZ12⟩:=hq
   cases h
   exact qZ12
def S_af (oZ0:TOutage) (failedZ0:List Int) (v:Int×Int):St:=⟨[(4,.pt 4 0 0),(8,.i v.1),(23,.lst .o 1 (failedZ0.map AV.i)),(24,.i (failedZ0.length:Int)),(25,.i v.2)],[(4,.var (.agg [.i oZ0.Unit,.lst .o 1 (oZ0.Down.map AV.i)]))]⟩
def SX_af (oZ0:TOutage) (v:Int):St:=⟨[(4,.pt 4 0 0),(8,.i v)],[(4,.var (.agg [.i oZ0.Unit,.lst .o 1 (oZ0.Down.map AV.i)]))]⟩
theorem w_af (oZ0:TOutage) (failedZ0:List Int) (sZ6:Int×Int) (o:(Int×Int) ⊕ Int) (h:M_af failedZ0 sZ6=some o):AWP (OkS Try.prog) A27L2 (qL [4,8,23,24,25] [4] (S_af oZ0 failedZ0) (qX 0 [4,8] [4] (SX_af oZ0)) o) (S_af oZ0 failedZ0 sZ6):=by
 unfold M_af at h
 simp only [ZC,S_af,A27L2]
 obtain ⟨cZ7,h⟩ | ⟨cZ7,h⟩:=cond_s h
 · obtain ⟨yZ8,hyZ8,h⟩:=bind_s h
   obtain ⟨hyZ8a,hyZ8b⟩:=geti_s hyZ8
   obtain ⟨uZ9,huZ9,h⟩:=bind_s h
   have huZ9g:=grd_s huZ9
   cases h
   exact ZL (ZA cZ7 (ZA hyZ8a (ZA hyZ8b huZ9g))) (ZA S_af.eq_1 SX_af.eq_1)
 · cases h
   exact ZL cZ7 (ZA S_af.eq_1 SX_af.eq_1)
theorem w_dv (nZ0:TNetwork) (oZ0:TOutage) (failedZ0:List Int) {r:Int×Bool} (h:M_dv nZ0 oZ0 failedZ0=some r):Ok Try.prog 27 [.agg [.lst .o 1 (nZ0.Nodes.map AV.z),.lst .o 4 (nZ0.Fibers.map (e_TFiber .o))],.agg [.i oZ0.Unit,.lst .o 1 (oZ0.Down.map AV.i)],.lst .o 1 (failedZ0.map AV.i)] ((fun r=>.tup [.i r.1,.b r.2]) r):=by
 refine ok_of_body hmix m27 rfl ?_
 unfold M_dv at h
 simp only [ZC,A27,V27,body_eq]
 obtain ⟨oZ4,hoZ4,h⟩:=bind_s h
 try refine ZF trivial ?_
 refine join_rule0 (sh:=(fun v=>⟨[(2,.lst .o 1 (failedZ0.map AV.i)),(4,.pt 4 0 0),(22,.b v)],[(4,.var (.agg [.i oZ0.Unit,.lst .o 1 (oZ0.Down.map AV.i)]))]⟩)) (s:=oZ4) ?_ ?_
 · replace h:=hoZ4
   obtain ⟨rZ1,hrZ1,h⟩:=bind_s h
   refine ZF trivial ?_
   refine ZS trivial (w_bc _ _ hrZ1) ?_
   refine ZG ?_
   obtain ⟨cZ2,h⟩ | ⟨cZ2,h⟩:=cond_s h
   · cases h
     exact ZL cZ2 trivial
   · obtain ⟨rZ3,hrZ3,h⟩:=bind_s h
     refine ZF cZ2 ?_
     refine ZS cZ2 (w_du _ _ hrZ3) ?_
     refine ZG ?_
     cases h
     exact ZL cZ2 trivial
 · simp only [ZC,A27R1]
   obtain ⟨cZ5,h⟩ | ⟨cZ5,h⟩:=cond_s h
   · cases h
     exact ZL cZ5 V27.eq_1
   · obtain ⟨oZ10,hoZ10,h⟩:=bind_s h
     try refine ZF cZ5 ?_
     refine join_rule0 (blk_rule0 (loop_rule (w_af oZ0 failedZ0) hoZ10 ?_)) ?_
     · exact ZK (ZA S_af.eq_1 SX_af.eq_1)
     · simp only [ZC,SX_af,A27R3]
       obtain ⟨rZ11,hrZ11,h⟩:=bind_s h
       refine ZF cZ5 ?_
       refine ZS cZ5 (w_bu _ _ hrZ11) ?_
       refine ZG ?_
       cases h
       exact ZL cZ5 V27.eq_1
def S_ai (unitZ0:Int) (v:Int×Int):St:=⟨[(0,.i unitZ0),(1,.i v.1),(5,.i v.2)],[]⟩
def SX_ai (v:Int):St:=⟨[(5,.i v)],[]⟩
theorem w_ai (unitZ0:Int) (sZ1:Int×Int) (o:(Int×Int) ⊕ Int) (h:M_ai unitZ0 sZ1=some o):AWP (OkS Try.prog) A49L1 (qL [0,1,5] [] (S_ai unitZ0) (qX 0 [5] [] (SX_ai)) o) (S_ai unitZ0 sZ1):=by
 unfold M_ai at h
 simp only [ZC,S_ai,A49L1]
 obtain ⟨cZ2,h⟩ | ⟨cZ2,h⟩:=cond_s h
 · cases h
   exact ZL cZ2 (ZA S_ai.eq_1 SX_ai.eq_1)
 · cases h
   exact ZL cZ2 (ZA S_ai.eq_1 SX_ai.eq_1)
theorem w_ch (unitZ0:Int) (kZ0:Int) {r:Int} (h:M_ch unitZ0 kZ0=some r):Ok Try.prog 49 [.i unitZ0,.i kZ0] ((fun r=>.i r) r):=by
 refine ok_of_body hmix m49 rfl ?_
 unfold M_ch at h
 simp only [ZC,A49,V49,body_eq]
 obtain ⟨oZ3,hoZ3,h⟩:=bind_s h
 try refine ZF trivial ?_
 refine join_rule0 (blk_rule0 (loop_rule (w_ai unitZ0) hoZ3 ?_)) ?_
 · exact ZK (ZA S_ai.eq_1 SX_ai.eq_1)
 · simp only [ZC,SX_ai,A49R2]
   cases h
   exact ZL trivial V49.eq_1
def S_q (rZ3:TNetwork×TOutage×TRoute×TRoute) (sZ32:Int×Int) (v:Int×List Int):St:=⟨[(3,.pt 3 0 0),(4,.pt 4 0 0),(21,.i sZ32.1),(22,.i sZ32.2),(23,.sl 23 0 v.2.length),(24,.i v.1)],[(3,.var (.agg [.sl 31 0 rZ3.1.Nodes.length,.sl 1031 0 rZ3.1.Fibers.length])),(4,.var (.agg [.i rZ3.2.1.Unit,.sl 2031 0 rZ3.2.1.Down.length])),(23,.arr 1 (v.2.map AV.i)),(31,.arr 1 (rZ3.1.Nodes.map AV.z)),(1031,.arr 4 (rZ3.1.Fibers.map (e_TFiber .u))),(2031,.arr 1 (rZ3.2.1.Down.map AV.i))]⟩
def SX_q (rZ3:TNetwork×TOutage×TRoute×TRoute) (sZ32:Int×Int) (v:List Int):St:=⟨[(3,.pt 3 0 0),(4,.pt 4 0 0),(21,.i sZ32.1),(22,.i sZ32.2),(23,.sl 23 0 v.length)],[(3,.var (.agg [.sl 31 0 rZ3.1.Nodes.length,.sl 1031 0 rZ3.1.Fibers.length])),(4,.var (.agg [.i rZ3.2.1.Unit,.sl 2031 0 rZ3.2.1.Down.length])),(23,.arr 1 (v.map AV.i)),(31,.arr 1 (rZ3.1.Nodes.map AV.z)),(1031,.arr 4 (rZ3.1.Fibers.map (e_TFiber .u))),(2031,.arr 1 (rZ3.2.1.Down.map AV.i))]⟩
theorem w_q (rZ3:TNetwork×TOutage×TRoute×TRoute) (sZ32:Int×Int) (sZ35:Int×List Int) (o:(Int×List Int) ⊕ (List Int)) (h:M_q rZ3 sZ32 sZ35=some o):AWP (OkS Try.prog) A14L4 (qL [3,4,21,22,23,24] [3,4,23,31,1031,2031] (S_q rZ3 sZ32) (qX 2 [3,4,21,22,23] [3,4,23,31,1031,2031] (SX_q rZ3 sZ32)) o) (S_q rZ3 sZ32 sZ35):=by
 unfold M_q at h
 simp only [ZC,S_q,A14L4]
 obtain ⟨cZ36,h⟩ | ⟨cZ36,h⟩:=cond_s h
 · obtain ⟨uZ37,huZ37,h⟩:=bind_s h
   have huZ37g:=grd_s huZ37
   obtain ⟨cZ38,h⟩ | ⟨cZ38,h⟩:=cond_s h
   · obtain ⟨lZ39,hlZ39,h⟩:=bnd_s h
     have eZ40:Row.arr 1 [(.i sZ35.1:AV)]=Row.arr 1 (lZ39.map AV.i):=by rw [← hlZ39]; rfl
     have jjZ41:lZ39.length=1:=by rw [← hlZ39]; rfl
     obtain ⟨uZ42,huZ42,h⟩:=bind_s h
     have huZ42g:=grd_s huZ42
     obtain ⟨lZ43,hlZ43,h⟩:=bnd_s h
     have eZ44:sZ35.2.map AV.i++lZ39.map AV.i=lZ43.map AV.i:=by rw [← hlZ43,List.map_append]
     have eZ45:sZ35.2.length+1=lZ43.length:=by simp [← hlZ39,← hlZ43] <;> omega
     rw [eZ45] at huZ42g
     cases h
     exact ZL (ZA cZ36 (ZA huZ37g (ZA cZ38 (ZA eZ40 (ZA jjZ41 (ZA huZ42g (ZA eZ44 eZ45))))))) (ZA S_q.eq_1 (ZA SX_q.eq_1 (ZA hlZ39.symm (ZA hlZ43.symm jjZ41))))
   · cases h
     exact ZL (ZA cZ36 (ZA huZ37g cZ38)) (ZA S_q.eq_1 SX_q.eq_1)
 · cases h
   exact ZL cZ36 (ZA S_q.eq_1 SX_q.eq_1)
def S_ag (rZ3:TNetwork×TOutage×TRoute×TRoute) (v:Int×Int):St:=⟨[(3,.pt 3 0 0),(4,.pt 4 0 0),(21,.i v.1),(22,.i v.2)],[(3,.var (.agg [.sl 31 0 rZ3.1.Nodes.length,.sl 1031 0 rZ3.1.Fibers.length])),(4,.var (.agg [.i rZ3.2.1.Unit,.sl 2031 0 rZ3.2.1.Down.length])),(31,.arr 1 (rZ3.1.Nodes.map AV.z)),(1031,.arr 4 (rZ3.1.Fibers.map (e_TFiber .u))),(2031,.arr 1 (rZ3.2.1.Down.map AV.i))]⟩
def SX_ag (rZ3:TNetwork×TOutage×TRoute×TRoute) (v:Int):St:=⟨[(4,.pt 4 0 0),(21,.i v)],[(4,.var (.agg [.i rZ3.2.1.Unit,.sl 2031 0 rZ3.2.1.Down.length])),(2031,.arr 1 (rZ3.2.1.Down.map AV.i))]⟩
theorem w_ag (rZ3:TNetwork×TOutage×TRoute×TRoute) (sZ32:Int×Int) (o:(Int×Int) ⊕ (Int ⊕ Bool)) (h:M_ag rZ3 sZ32=some o):AWP (OkS Try.prog) A14L6 (qL [3,4,21,22] [3,4,31,1031,2031] (S_ag rZ3) (qS (qX 0 [4,21] [4,2031] (SX_ag rZ3)) (qR V14 (fun r=>.b r))) o) (S_ag rZ3 sZ32):=by
 unfold M_ag at h
 simp only [ZC,S_ag,A14L6]
 obtain ⟨uZ33,huZ33,h⟩:=bind_s h
 have huZ33g:=grd_s huZ33
 obtain ⟨cZ34,h⟩ | ⟨cZ34,h⟩:=cond_s h
 · obtain ⟨oZ46,hoZ46,h⟩:=bind_s h
   try refine ZF (ZA huZ33g cZ34) ?_
   refine join_rule0 (blk_rule0 (loop_rule (w_q rZ3 sZ32) hoZ46 ?_)) ?_
   · exact ZK (ZA S_q.eq_1 SX_q.eq_1)
   · simp only [ZC,SX_q,A14R5]
     obtain ⟨rZ47,hrZ47,h⟩:=bind_s h
     refine ZF (ZA huZ33g cZ34) ?_
     refine ZU (ZA huZ33g cZ34) (w_dv _ _ _ hrZ47) ?_
     refine ZG ?_
     obtain ⟨cZ48,h⟩ | ⟨cZ48,h⟩:=cond_s h
     · cases h
       exact ZL (ZA huZ33g (ZA cZ34 cZ48)) V14.eq_1
     · cases h
       exact ZL (ZA huZ33g (ZA cZ34 cZ48)) (ZA S_ag.eq_1 SX_ag.eq_1)
 · cases h
   exact ZL (ZA huZ33g cZ34) (ZA S_ag.eq_1 SX_ag.eq_1)
theorem w_ef (codeZ0:List Int) {r:Bool} (h:M_ef codeZ0=some r):Ok Try.prog 14 [.lst .o 1 (codeZ0.map AV.u8)] ((fun r=>.b r) r):=by
 refine ok_of_body hmix m14 rfl ?_
 unfold M_ef at h
 simp only [ZC,A14,V14,body_eq]
 obtain ⟨rZ1,hrZ1,h⟩:=bind_s h
 refine ZF trivial ?_
 refine ZS trivial (w_dx _ hrZ1) ?_
 refine ZG ?_
 obtain ⟨cZ2,h⟩ | ⟨cZ2,h⟩:=cond_s h
 · cases h
   exact ZL cZ2 V14.eq_1
 · obtain ⟨rZ3,hrZ3,h⟩:=bind_s h
   refine ZF cZ2 ?_
   refine ZU cZ2 (w_dg _ hrZ3) ?_
   refine ZG ?_
   obtain ⟨rZ4,hrZ4,h⟩:=bind_s h
   refine ZF cZ2 ?_
   refine ZU cZ2 (w_cv _ _ _ _ hrZ4) ?_
   refine ZG ?_
   obtain ⟨rZ5,hrZ5,h⟩:=bind_s h
   refine ZF cZ2 ?_
   refine ZU cZ2 (w_cu _ _ _ _ hrZ5) ?_
   refine ZG ?_
   obtain ⟨oZ8,hoZ8,h⟩:=bind_s h
   try refine ZF cZ2 ?_
   refine join_rule0 (sh:=(fun v=>⟨[(3,.pt 3 0 0),(4,.pt 4 0 0),(5,.pt 5 0 0),(6,.pt 6 0 0),(7,.i rZ4.1),(8,.b rZ4.2),(9,.i rZ5.1),(10,.b rZ5.2),(63,.b v)],[(3,.var (.agg [.sl 31 0 rZ3.1.Nodes.length,.sl 1031 0 rZ3.1.Fibers.length])),(4,.var (.agg [.i rZ3.2.1.Unit,.sl 2031 0 rZ3.2.1.Down.length])),(5,.var (.agg [.i rZ3.2.2.1.Start,.sl 3031 0 rZ3.2.2.1.Fibers.length])),(6,.var (.agg [.i rZ3.2.2.2.Start,.sl 4031 0 rZ3.2.2.2.Fibers.length])),(31,.arr 1 (rZ3.1.Nodes.map AV.z)),(1031,.arr 4 (rZ3.1.Fibers.map (e_TFiber .u))),(2031,.arr 1 (rZ3.2.1.Down.map AV.i)),(3031,.arr 1 (rZ3.2.2.1.Fibers.map AV.i)),(4031,.arr 1 (rZ3.2.2.2.Fibers.map AV.i))]⟩)) (s:=oZ8) ?_ ?_
   · replace h:=hoZ8
     obtain ⟨cZ6,h⟩ | ⟨cZ6,h⟩:=cond_s h
     · cases h
       exact ZL (ZA cZ2 cZ6) trivial
     · obtain ⟨cZ7,h⟩ | ⟨cZ7,h⟩:=cond_s h
       · cases h
         exact ZL (ZA cZ2 (ZA cZ6 cZ7)) trivial
       · cases h
         exact ZL (ZA cZ2 (ZA cZ6 cZ7)) trivial
   · simp only [ZC,A14R1]
     obtain ⟨cZ9,h⟩ | ⟨cZ9,h⟩:=cond_s h
     · obtain ⟨oZ11,hoZ11,h⟩:=bind_s h
       try refine ZF (ZA cZ2 cZ9) ?_
       refine join_rule0 (sh:=(fun v=>⟨[(2,.b v)],[]⟩)) (s:=oZ11) ?_ ?_
       · replace h:=hoZ11
         obtain ⟨cZ10,h⟩ | ⟨cZ10,h⟩:=cond_s h
         · cases h
           exact ZL (ZA cZ2 (ZA cZ9 cZ10)) trivial
         · cases h
           exact ZL (ZA cZ2 (ZA cZ9 cZ10)) trivial
       · simp only [ZC,A14R2]
         cases h
         exact ZL (ZA cZ2 cZ9) V14.eq_1
     · obtain ⟨rZ12,hrZ12,h⟩:=bind_s h
       refine ZF (ZA cZ2 cZ9) ?_
       refine ZU (ZA cZ2 cZ9) (w_bs _ _ _ hrZ12) ?_
       refine ZG ?_
       obtain ⟨rZ13,hrZ13,h⟩:=bind_s h
       refine ZF (ZA cZ2 cZ9) ?_
       refine ZU (ZA cZ2 cZ9) (w_bs _ _ _ hrZ13) ?_
       refine ZG ?_
       obtain ⟨rZ14,hrZ14,h⟩:=bind_s h
       refine ZF (ZA cZ2 cZ9) ?_
       refine ZU (ZA cZ2 cZ9) (w_dr _ _ hrZ14) ?_
       refine ZG ?_
       obtain ⟨kZ15,hkZ15,h⟩:=bind_s h
       obtain ⟨hkZ15a,hkZ15b⟩:=grd_s hkZ15
       obtain ⟨yZ16,hyZ16,h⟩:=bind_s h
       obtain ⟨kZ17,hkZ17,h⟩:=bind_s h
       obtain ⟨hkZ17a,hkZ17b⟩:=grd_s hkZ17
       obtain ⟨yZ18,hyZ18,h⟩:=bind_s h
       obtain ⟨rZ19,hrZ19,h⟩:=bind_s h
       refine ZF (ZA cZ2 (ZA cZ9 (ZA hkZ15a (ZA hkZ15b (ZA hyZ16 (ZA hkZ17a (ZA hkZ17b hyZ18))))))) ?_
       refine ZU (ZA cZ2 (ZA cZ9 (ZA hkZ15a (ZA hkZ15b (ZA hyZ16 (ZA hkZ17a (ZA hkZ17b hyZ18))))))) (w_cn _ _ _ _ hrZ19) ?_
       refine ZG ?_
       obtain ⟨rZ20,hrZ20,h⟩:=bind_s h
       refine ZF (ZA cZ2 (ZA cZ9 (ZA hkZ15a (ZA hkZ15b (ZA hyZ16 (ZA hkZ17a (ZA hkZ17b hyZ18))))))) ?_
       refine ZU (ZA cZ2 (ZA cZ9 (ZA hkZ15a (ZA hkZ15b (ZA hyZ16 (ZA hkZ17a (ZA hkZ17b hyZ18))))))) (w_dt _ _ hrZ20) ?_
       refine ZG ?_
       obtain ⟨oZ29,hoZ29,h⟩:=bind_s h
       try refine ZF (ZA cZ2 (ZA cZ9 (ZA hkZ15a (ZA hkZ15b (ZA hyZ16 (ZA hkZ17a (ZA hkZ17b hyZ18))))))) ?_
       refine join_rule0 (sh:=(fun v=>⟨[(3,.pt 3 0 0),(4,.pt 4 0 0),(153,.b v)],[(3,.var (.agg [.sl 31 0 rZ3.1.Nodes.length,.sl 1031 0 rZ3.1.Fibers.length])),(4,.var (.agg [.i rZ3.2.1.Unit,.sl 2031 0 rZ3.2.1.Down.length])),(31,.arr 1 (rZ3.1.Nodes.map AV.z)),(1031,.arr 4 (rZ3.1.Fibers.map (e_TFiber .u))),(2031,.arr 1 (rZ3.2.1.Down.map AV.i))]⟩)) (s:=oZ29) ?_ ?_
       · replace h:=hoZ29
         obtain ⟨cZ21,h⟩ | ⟨cZ21,h⟩:=cond_s h
         · cases h
           exact ZL (ZA cZ2 (ZA cZ9 (ZA hkZ15a (ZA hkZ15b (ZA hyZ16 (ZA hkZ17a (ZA hkZ17b (ZA hyZ18 cZ21)))))))) trivial
         · obtain ⟨cZ22,h⟩ | ⟨cZ22,h⟩:=cond_s h
           · cases h
             exact ZL (ZA cZ2 (ZA cZ9 (ZA hkZ15a (ZA hkZ15b (ZA hyZ16 (ZA hkZ17a (ZA hkZ17b (ZA hyZ18 (ZA cZ21 cZ22))))))))) trivial
           · obtain ⟨cZ23,h⟩ | ⟨cZ23,h⟩:=cond_s h
             · cases h
               exact ZL (ZA cZ2 (ZA cZ9 (ZA hkZ15a (ZA hkZ15b (ZA hyZ16 (ZA hkZ17a (ZA hkZ17b (ZA hyZ18 (ZA cZ21 (ZA cZ22 cZ23)))))))))) trivial
             · obtain ⟨cZ24,h⟩ | ⟨cZ24,h⟩:=cond_s h
               · cases h
                 exact ZL (ZA cZ2 (ZA cZ9 (ZA hkZ15a (ZA hkZ15b (ZA hyZ16 (ZA hkZ17a (ZA hkZ17b (ZA hyZ18 (ZA cZ21 (ZA cZ22 (ZA cZ23 cZ24))))))))))) trivial
               · obtain ⟨cZ25,h⟩ | ⟨cZ25,h⟩:=cond_s h
                 · cases h
                   exact ZL (ZA cZ2 (ZA cZ9 (ZA hkZ15a (ZA hkZ15b (ZA hyZ16 (ZA hkZ17a (ZA hkZ17b (ZA hyZ18 (ZA cZ21 (ZA cZ22 (ZA cZ23 (ZA cZ24 cZ25)))))))))))) trivial
                 · obtain ⟨cZ26,h⟩ | ⟨cZ26,h⟩:=cond_s h
                   · cases h
                     exact ZL (ZA cZ2 (ZA cZ9 (ZA hkZ15a (ZA hkZ15b (ZA hyZ16 (ZA hkZ17a (ZA hkZ17b (ZA hyZ18 (ZA cZ21 (ZA cZ22 (ZA cZ23 (ZA cZ24 (ZA cZ25 cZ26))))))))))))) trivial
                   · obtain ⟨cZ27,h⟩ | ⟨cZ27,h⟩:=cond_s h
                     · cases h
                       exact ZL (ZA cZ2 (ZA cZ9 (ZA hkZ15a (ZA hkZ15b (ZA hyZ16 (ZA hkZ17a (ZA hkZ17b (ZA hyZ18 (ZA cZ21 (ZA cZ22 (ZA cZ23 (ZA cZ24 (ZA cZ25 (ZA cZ26 cZ27)))))))))))))) trivial
                     · obtain ⟨cZ28,h⟩ | ⟨cZ28,h⟩:=cond_s h
                       · cases h
                         exact ZL (ZA cZ2 (ZA cZ9 (ZA hkZ15a (ZA hkZ15b (ZA hyZ16 (ZA hkZ17a (ZA hkZ17b (ZA hyZ18 (ZA cZ21 (ZA cZ22 (ZA cZ23 (ZA cZ24 (ZA cZ25 (ZA cZ26 (ZA cZ27 cZ28))))))))))))))) trivial
                       · cases h
                         exact ZL (ZA cZ2 (ZA cZ9 (ZA hkZ15a (ZA hkZ15b (ZA hyZ16 (ZA hkZ17a (ZA hkZ17b (ZA hyZ18 (ZA cZ21 (ZA cZ22 (ZA cZ23 (ZA cZ24 (ZA cZ25 (ZA cZ26 (ZA cZ27 cZ28))))))))))))))) trivial
       · simp only [ZC,A14R3]
         obtain ⟨cZ30,h⟩ | ⟨cZ30,h⟩:=cond_s h
         · cases h
           exact ZL (ZA cZ2 (ZA cZ9 (ZA hkZ15a (ZA hkZ15b (ZA hyZ16 (ZA hkZ17a (ZA hkZ17b (ZA hyZ18 cZ30)))))))) V14.eq_1
         · obtain ⟨cZ31,h⟩ | ⟨cZ31,h⟩:=cond_s h
           · cases h
             exact ZL (ZA cZ2 (ZA cZ9 (ZA hkZ15a (ZA hkZ15b (ZA hyZ16 (ZA hkZ17a (ZA hkZ17b (ZA hyZ18 (ZA cZ30 cZ31))))))))) V14.eq_1
           · obtain ⟨oZ49,hoZ49,h⟩:=bind_s h
             try refine ZF (ZA cZ2 (ZA cZ9 (ZA hkZ15a (ZA hkZ15b (ZA hyZ16 (ZA hkZ17a (ZA hkZ17b (ZA hyZ18 (ZA cZ30 cZ31))))))))) ?_
             refine join_rule (o:=oZ49) (blk_rule sideR (loop_rule (w_ag rZ3) hoZ49 ?_)) (fun vZ50 hv=>?_) (fun xZ51 hv e τ hne hq=>?_)
             · exact ZK (ZA S_ag.eq_1 SX_ag.eq_1)
             · subst hv
               simp only [] at h
               simp only [ZC,SX_ag,A14R7]
               obtain ⟨rZ52,hrZ52,h⟩:=bind_s h
               refine ZF (ZA cZ2 (ZA cZ9 (ZA hkZ15a (ZA hkZ15b (ZA hyZ16 (ZA hkZ17a (ZA hkZ17b (ZA hyZ18 (ZA cZ30 cZ31))))))))) ?_
               refine ZS (ZA cZ2 (ZA cZ9 (ZA hkZ15a (ZA hkZ15b (ZA hyZ16 (ZA hkZ17a (ZA hkZ17b (ZA hyZ18 (ZA cZ30 cZ31))))))))) (w_ch _ _ hrZ52) ?_
               refine ZG ?_
               cases h
               exact ZL (ZA cZ2 (ZA cZ9 (ZA hkZ15a (ZA hkZ15b (ZA hyZ16 (ZA hkZ17a (ZA hkZ17b (ZA hyZ18 (ZA cZ30 cZ31))))))))) V14.eq_1
             · subst hv
               simp only [] at h
               obtain ⟨rfl,qZ53⟩:=hq
               cases h
               exact qZ53
end Vs

