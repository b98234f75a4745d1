/-
  Part of the proof that the law FnBridges returns true at every input; no condition beside the row's own.
-/
import Derived.Test.YteilpiddonoikaaGreatDa
set_option linter.defProp false
set_option linter.unusedSimpArgs false
set_option linter.unusedVariables false
set_option maxHeartbeats 1000000
set_option maxRecDepth 8000
namespace Vs
open Go Go.Proofs
attribute [local irreducible] AWP stOps eff awpC callA callM
theorem VT1:(∀ (f:Fl) (x:TFiber),e_TFiber f x=.agg [.i x.A,.i x.B,.i x.Length,.i x.Risk]) ∧
 (∀ (f:Fl) (x:TNetwork),e_TNetwork f x=.agg [.lst f 1 (x.Nodes.map AV.z),.lst f 4 (x.Fibers.map (e_TFiber f))]) ∧
 (∀ (f:Fl) (x:Tl1Cur),e_Tl1Cur f x=.agg [.lst f 1 (x.code.map AV.u8),.i x.atF,.sc (.int .u64 x.seed)]) ∧
 (∀ (f:Fl) (x:List Int),e_Li f x=.lst f 1 (x.map AV.i)) ∧
 (∀ (f:Fl) (x:Tl17Search),e_Tl17Search f x=.agg [.lst f 1 (x.n.Nodes.map AV.z),.lst f 4 (x.n.Fibers.map (e_TFiber f)),.lst f 1 (x.list.map (e_Li f))]) ∧
 (∀ (x:Value) (f:Nat) (cs:List AV),setPart (.sc x) 0 (.fn f cs)=some (.fn f cs)):=⟨fun _ _=>rfl,fun _ _=>rfl,fun _ _=>rfl,fun _ _=>rfl,fun _ _=>rfl,fun _ _ _=>rfl⟩
theorem shape_e_Li (f:Fl) (x:List Int) (v:Value) (w:World) (S:Nat→Prop) (B:Nat) (fp:List Nat) (h:RepP w S B v (e_Li f x) fp) (_:v.cells.size=1):sh1 v:=shape_lst h
theorem VT2:(∀ (f:Fl) (x:TFiber),(e_TFiber f x).nrm=e_TFiber .o x) ∧
 (∀ (f:Fl) (xs:List TFiber),(xs.map (e_TFiber f)).map AV.nrm=xs.map (e_TFiber .o)) ∧
 (∀ (f:Fl) (x:TFiber),(e_TFiber f x).als=e_TFiber f.als x) ∧
 (∀ (f:Fl) (xs:List TFiber),(xs.map (e_TFiber f)).map AV.als=xs.map (e_TFiber f.als)) ∧
 (∀ (f:Fl),AV.als ∘ e_TFiber f=e_TFiber f.als) ∧
 (∀ (f:Fl) (x:TFiber),(e_TFiber f x).fix=e_TFiber f.fix x) ∧
 (∀ (f:Fl) (xs:List TFiber),(xs.map (e_TFiber f)).map AV.fix=xs.map (e_TFiber f.fix)) ∧
 (∀ (f:Fl) (x:TNetwork),(e_TNetwork f x).nrm=e_TNetwork .o x) ∧
 (∀ (f:Fl) (xs:List TNetwork),(xs.map (e_TNetwork f)).map AV.nrm=xs.map (e_TNetwork .o)) ∧
 (∀ (f:Fl) (x:TNetwork),(e_TNetwork f x).als=e_TNetwork f.als x) ∧
 (∀ (f:Fl) (xs:List TNetwork),(xs.map (e_TNetwork f)).map AV.als=xs.map (e_TNetwork f.als)) ∧
 (∀ (f:Fl),AV.als ∘ e_TNetwork f=e_TNetwork f.als) ∧
 (∀ (f:Fl) (x:TNetwork),(e_TNetwork f x).fix=e_TNetwork f.fix x) ∧
 (∀ (f:Fl) (xs:List TNetwork),(xs.map (e_TNetwork f)).map AV.fix=xs.map (e_TNetwork f.fix)) ∧
 (∀ (f:Fl) (x:Tl1Cur),(e_Tl1Cur f x).nrm=e_Tl1Cur .o x) ∧
 (∀ (f:Fl) (xs:List Tl1Cur),(xs.map (e_Tl1Cur f)).map AV.nrm=xs.map (e_Tl1Cur .o)) ∧
 (∀ (f:Fl) (x:Tl1Cur),(e_Tl1Cur f x).als=e_Tl1Cur f.als x) ∧
 (∀ (f:Fl) (xs:List Tl1Cur),(xs.map (e_Tl1Cur f)).map AV.als=xs.map (e_Tl1Cur f.als)) ∧
 (∀ (f:Fl),AV.als ∘ e_Tl1Cur f=e_Tl1Cur f.als) ∧
 (∀ (f:Fl) (x:Tl1Cur),(e_Tl1Cur f x).fix=e_Tl1Cur f.fix x) ∧
 (∀ (f:Fl) (xs:List Tl1Cur),(xs.map (e_Tl1Cur f)).map AV.fix=xs.map (e_Tl1Cur f.fix)) ∧
 (∀ (f:Fl) (x:List Int),(e_Li f x).nrm=e_Li .o x) ∧
 (∀ (f:Fl) (xs:List (List Int)),(xs.map (e_Li f)).map AV.nrm=xs.map (e_Li .o)) ∧
 (∀ (f:Fl) (x:List Int),(e_Li f x).als=e_Li f.als x) ∧
 (∀ (f:Fl) (xs:List (List Int)),(xs.map (e_Li f)).map AV.als=xs.map (e_Li f.als)) ∧
 (∀ (f:Fl),AV.als ∘ e_Li f=e_Li f.als) ∧
 (∀ (f:Fl) (x:List Int),(e_Li f x).fix=e_Li f.fix x) ∧
 (∀ (f:Fl) (xs:List (List Int)),(xs.map (e_Li f)).map AV.fix=xs.map (e_Li f.fix)) ∧
 (∀ (f:Fl) (x:Tl17Search),(e_Tl17Search f x).nrm=e_Tl17Search .o x) ∧
 (∀ (f:Fl) (xs:List Tl17Search),(xs.map (e_Tl17Search f)).map AV.nrm=xs.map (e_Tl17Search .o)) ∧
 (∀ (f:Fl) (x:Tl17Search),(e_Tl17Search f x).als=e_Tl17Search f.als x) ∧
 (∀ (f:Fl) (xs:List Tl17Search),(xs.map (e_Tl17Search f)).map AV.als=xs.map (e_Tl17Search f.als)) ∧
 (∀ (f:Fl),AV.als ∘ e_Tl17Search f=e_Tl17Search f.als) ∧
 (∀ (f:Fl) (x:Tl17Search),(e_Tl17Search f x).fix=e_Tl17Search f.fix x) ∧
 (∀ (f:Fl) (xs:List Tl17Search),(xs.map (e_Tl17Search f)).map AV.fix=xs.map (e_Tl17Search f.fix)) :=
 ⟨@e_TFiber_nrm,@e_TFiber_nrmm,@e_TFiber_als,@e_TFiber_alsm,@e_TFiber_alsc,@e_TFiber_fix,@e_TFiber_fixm,@e_TNetwork_nrm,@e_TNetwork_nrmm,@e_TNetwork_als,@e_TNetwork_alsm,@e_TNetwork_alsc,@e_TNetwork_fix,@e_TNetwork_fixm,@e_Tl1Cur_nrm,@e_Tl1Cur_nrmm,@e_Tl1Cur_als,@e_Tl1Cur_alsm,@e_Tl1Cur_alsc,@e_Tl1Cur_fix,@e_Tl1Cur_fixm,@e_Li_nrm,@e_Li_nrmm,@e_Li_als,@e_Li_alsm,@e_Li_alsc,@e_Li_fix,@e_Li_fixm,@e_Tl17Search_nrm,@e_Tl17Search_nrmm,@e_Tl17Search_als,@e_Tl17Search_alsm,@e_Tl17Search_alsc,@e_Tl17Search_fix,@e_Tl17Search_fixm⟩
theorem VF1:(∀ (f:Fl) (x:TFiber),(e_TFiber f x).fix=e_TFiber f.fix x) ∧
 (∀ (f:Fl) (xs:List TFiber),(xs.map (e_TFiber f)).map AV.fix=xs.map (e_TFiber f.fix)) ∧
 (∀ (f:Fl) (x:TNetwork),(e_TNetwork f x).fix=e_TNetwork f.fix x) ∧
 (∀ (f:Fl) (xs:List TNetwork),(xs.map (e_TNetwork f)).map AV.fix=xs.map (e_TNetwork f.fix)) ∧
 (∀ (f:Fl) (x:Tl1Cur),(e_Tl1Cur f x).fix=e_Tl1Cur f.fix x) ∧
 (∀ (f:Fl) (xs:List Tl1Cur),(xs.map (e_Tl1Cur f)).map AV.fix=xs.map (e_Tl1Cur f.fix)) ∧
 (∀ (f:Fl) (x:List Int),(e_Li f x).fix=e_Li f.fix x) ∧
 (∀ (f:Fl) (xs:List (List Int)),(xs.map (e_Li f)).map AV.fix=xs.map (e_Li f.fix)) ∧
 (∀ (f:Fl) (x:Tl17Search),(e_Tl17Search f x).fix=e_Tl17Search f.fix x) ∧
 (∀ (f:Fl) (xs:List Tl17Search),(xs.map (e_Tl17Search f)).map AV.fix=xs.map (e_Tl17Search f.fix)) :=
 ⟨@e_TFiber_fix,@e_TFiber_fixm,@e_TNetwork_fix,@e_TNetwork_fixm,@e_Tl1Cur_fix,@e_Tl1Cur_fixm,@e_Li_fix,@e_Li_fixm,@e_Tl17Search_fix,@e_Tl17Search_fixm⟩
theorem VZ1:(∀ (x:TFiber),(e_TFiber .o x).fz=true) ∧
 (∀ (xs:List TFiber),fzL (xs.map (e_TFiber .o))=true) ∧
 (∀ (x:TFiber),(e_TFiber .u x).ouB=true) ∧
 (∀ (xs:List TFiber),ouBL (xs.map (e_TFiber .u))=true) ∧
 (∀ (x:TNetwork),(e_TNetwork .o x).fz=true) ∧
 (∀ (xs:List TNetwork),fzL (xs.map (e_TNetwork .o))=true) ∧
 (∀ (x:TNetwork),(e_TNetwork .u x).ouB=true) ∧
 (∀ (xs:List TNetwork),ouBL (xs.map (e_TNetwork .u))=true) ∧
 (∀ (x:Tl1Cur),(e_Tl1Cur .o x).fz=true) ∧
 (∀ (xs:List Tl1Cur),fzL (xs.map (e_Tl1Cur .o))=true) ∧
 (∀ (x:Tl1Cur),(e_Tl1Cur .u x).ouB=true) ∧
 (∀ (xs:List Tl1Cur),ouBL (xs.map (e_Tl1Cur .u))=true) ∧
 (∀ (x:List Int),(e_Li .o x).fz=true) ∧
 (∀ (xs:List (List Int)),fzL (xs.map (e_Li .o))=true) ∧
 (∀ (x:List Int),(e_Li .u x).ouB=true) ∧
 (∀ (xs:List (List Int)),ouBL (xs.map (e_Li .u))=true) ∧
 (∀ (x:Tl17Search),(e_Tl17Search .o x).fz=true) ∧
 (∀ (xs:List Tl17Search),fzL (xs.map (e_Tl17Search .o))=true) ∧
 (∀ (x:Tl17Search),(e_Tl17Search .u x).ouB=true) ∧
 (∀ (xs:List Tl17Search),ouBL (xs.map (e_Tl17Search .u))=true) :=
 ⟨@e_TFiber_fz,@e_TFiber_fzm,@e_TFiber_ou,@e_TFiber_oum,@e_TNetwork_fz,@e_TNetwork_fzm,@e_TNetwork_ou,@e_TNetwork_oum,@e_Tl1Cur_fz,@e_Tl1Cur_fzm,@e_Tl1Cur_ou,@e_Tl1Cur_oum,@e_Li_fz,@e_Li_fzm,@e_Li_ou,@e_Li_oum,@e_Tl17Search_fz,@e_Tl17Search_fzm,@e_Tl17Search_ou,@e_Tl17Search_oum⟩
theorem VE1:e_TFiber .o=e_TFiber .u∧e_TFiber .m=e_TFiber .u∧e_TFiber .s=e_TFiber .u:=⟨rfl,rfl,rfl⟩
theorem Zr {α:Type} (n:Nat) (a:α):(List.replicate n a).length=n:=List.length_replicate
theorem ZA {A B:Prop} (a:A) (b:B):A∧B:=⟨a,b⟩
theorem ZF {A:Prop} (a:A) {P Q:Prop} (k:Q) (e:A→P=Q:=by intro a; simp only [VS1,VS2,VS3,VS4,VS5,VS6,VT1,VT2,finM_ret,finM_nrm,decide_true,decide_false,List.nodup_nil,List.nodup_cons,oks_p,oks_m,oks_h,ne_eq,not_false_eq_true,Int.reduceEq,Int.reduceNe,true_and,false_and,Nat.reduceSub,Nat.reduceMul,↓reduceIte,reduceCtorEq,Nat.reduceEqDiff,Nat.reduceAdd,Nat.reduceLeDiff,Int.reduceLE,a]; exact Eq.refl _):P:=(e a).mpr k
theorem ZG {P Q:Prop} (k:Q) (e:P=Q:=by simp only [VA,VF1,↓reduceIte,Nat.reduceEqDiff,Nat.reduceAdd,Nat.reduceMul,Nat.reduceSub,Nat.reduceLeDiff]; exact Eq.refl _):P:=e.mpr k
theorem ZL {A:Prop} (a:A) {B:Prop} (b:B) {P:Prop} (e:A→B→P:=by intro a b; (try simp only [VS1,VS2,VS3,VS4,VS5,VS6,VT1,VT2,finM_ret,finM_nrm,decide_true,decide_false,List.nodup_nil,List.nodup_cons,oks_p,oks_m,oks_h,ne_eq,not_false_eq_true,Int.reduceEq,Int.reduceNe,true_and,false_and,Nat.reduceSub,Nat.reduceMul,↓reduceIte,reduceCtorEq,Nat.reduceEqDiff,Nat.reduceAdd,Nat.reduceLeDiff,Int.reduceLE,a]); all_goals first | (simp [qL,qJ,qJ0,qS,qX,qR,qM,Shp,sub,tupd,finM_ret,finM_nrm,VS1,VS2,VS3,VS4,VS5,VS6,VT1,VT2,b]; done) | simp [qL,qJ,qJ0,qS,qX,qR,qM,Shp,sub,tupd,finM_ret,finM_nrm,VS1,VS2,VS3,VS4,VS5,VS6,VT1,VT2,VE1,b]):P:=e a b
theorem ZK {B:Prop} (b:B) {P:Prop} (e:B→P:=by intro b; simp [qL,qJ,qJ0,qS,qX,qR,qM,Shp,sub,tupd,finM_ret,finM_nrm,VS1,VS2,VS3,VS4,VS5,VS6,VT1,VT2,b]):P:=e b
theorem ZS {A:Prop} (a:A) {W:Prop} (w:W) {ok:Oks} {ρ:Nat→Option Row} {d f:Nat} {args:List AV} {K:AV→List (Nat×Row)→Prop} {v:Value} (hk:K (.sc v) [])
 (e:A→W→ok.p f (args.map (snp ρ 4)) (.sc v):=by intro a w; simp only [VS1,VS2,VS3,VS4,VS5,VS6,VT1,VT2,finM_ret,finM_nrm,decide_true,decide_false,List.nodup_nil,List.nodup_cons,oks_p,oks_m,oks_h,ne_eq,not_false_eq_true,Int.reduceEq,Int.reduceNe,true_and,false_and,Nat.reduceSub,Nat.reduceMul,↓reduceIte,reduceCtorEq,Nat.reduceEqDiff,Nat.reduceAdd,Nat.reduceLeDiff,Int.reduceLE,a]; exact w):callA ok ρ d f args K:=call_s (e a w) hk
theorem ZU {A:Prop} (a:A) {W:Prop} (w:W) {ok:Oks} {ρ:Nat→Option Row} {d f:Nat} {args:List AV} {K:AV→List (Nat×Row)→Prop} {res:AV} (hk:K (adopt 4 d res).1 (adopt 4 d res).2.1)
 (e:A→W→ok.p f (args.map (snp ρ 4)) res:=by intro a w; simp only [VS1,VS2,VS3,VS4,VS5,VS6,VT1,VT2,finM_ret,finM_nrm,decide_true,decide_false,List.nodup_nil,List.nodup_cons,oks_p,oks_m,oks_h,ne_eq,not_false_eq_true,Int.reduceEq,Int.reduceNe,true_and,false_and,Nat.reduceSub,Nat.reduceMul,↓reduceIte,reduceCtorEq,Nat.reduceEqDiff,Nat.reduceAdd,Nat.reduceLeDiff,Int.reduceLE,a]; exact w) (hu:res.allU:=by simp [AV.allU,allUL,allUL_iff,VT1,VT2]) (hn:∀ p∈(adopt 4 d res).2.1,ρ p.1=none∧p.1 < 1000000000:=by simp only [VS1,VS2,VS3,VS4,VS5,VS6,VT1,VT2,finM_ret,finM_nrm,decide_true,decide_false,List.nodup_nil,List.nodup_cons,oks_p,oks_m,oks_h,ne_eq,not_false_eq_true,Int.reduceEq,Int.reduceNe,true_and,false_and,Nat.reduceSub,Nat.reduceMul,↓reduceIte,reduceCtorEq,Nat.reduceEqDiff,Nat.reduceAdd,Nat.reduceLeDiff,Int.reduceLE,Nat.reduceLT]):callA ok ρ d f args K:=call_u (e a w) hu hn hk
theorem ZQ {P:Prop} (e:P:=by simp [VS1,VS2,VS3,VS4,VS5,VS6,VT1,VT2]):P:=e
theorem ZW {A:Prop} (a:A) {W:Prop} (w:W) {ok:Oks} {ρ:Nat→Option Row} {d f:Nat} {args:List AV} {rs:List Nat} {K:AV→List (Nat×Row)→Prop} {res:AV} {outs:List (Nat×Row)}
 (e:A→W→ok.m f (args.map (AV.rg (cnm rs))) (rs.map (rowIn ρ rs)) res outs:=by intro a w; simp only [VS1,VS2,VS3,VS4,VS5,VS6,VT1,VT2,finM_ret,finM_nrm,decide_true,decide_false,List.nodup_nil,List.nodup_cons,oks_p,oks_m,oks_h,ne_eq,not_false_eq_true,Int.reduceEq,Int.reduceNe,true_and,false_and,Nat.reduceSub,Nat.reduceMul,↓reduceIte,reduceCtorEq,Nat.reduceEqDiff,Nat.reduceAdd,Nat.reduceLeDiff,Int.reduceLE,a]; first | exact w | (simp only [VS1,VS2,VS3,VS4,VS5,VS6,VT1,VT2,finM_ret,finM_nrm,decide_true,decide_false,List.nodup_nil,List.nodup_cons,oks_p,oks_m,oks_h,ne_eq,not_false_eq_true,Int.reduceEq,Int.reduceNe,true_and,false_and,Nat.reduceSub,Nat.reduceMul,↓reduceIte,reduceCtorEq,Nat.reduceEqDiff,Nat.reduceAdd,Nat.reduceLeDiff,Int.reduceLE,a] at w; exact w))
 (h1:rs.Nodup∧(∀ r∈rs,isLive (ρ r))∧(∀ r∈rs,∀ q∈oments (ρ r),q∈rs)∧(∀ r∈mentsL args,r∈rs):=by simp [VS1,VS2,VS3,VS4,VS5,VS6,VT1,VT2])
 (h2:(outs.map fun p=>bkn d rs p.1).Nodup∧(∀ p∈outs,1000000000≤p.1→p.1 - 1000000000 < rs.length)∧(∀ p∈outs,p.1 < 1000000000→ρ (bkn d rs p.1)=none∧bkn d rs p.1 < 1000000000))
 (hk:K (res.rg (bkn d rs)) (gone rs++outs.map (rowBk d rs))):callM ok ρ d f args rs K:=call_m (e a w) h1 h2 hk
theorem w_ek (codeZ0:List Int) {r:Bool} (h:M_ek codeZ0=some r):Ok Tryz.prog 22 [.lst .o 1 (codeZ0.map AV.u8)] ((fun r=>.b r) r):=by
 refine ok_of_body hmix m22 rfl ?_
 unfold M_ek at h
 simp only [ZC,A22,V22,body_eq]
 cases h
 exact ZL trivial V22.eq_1
theorem w_cf (aaZ0:Tl1Cur) {r:Int×Tl1Cur} (h:M_cf aaZ0=some r):OkM Tryz.prog 109 [.pt 1000000000 0 0] [(1000000000,.var (.agg [.lst .o 1 (((aaZ0).code).map AV.u8),.i ((aaZ0).atF),.sc (.int .u64 ((aaZ0).seed))]))] ((fun (r:Int×Tl1Cur)=>.i r.1) r) ((fun (r:Int×Tl1Cur)=>[(1000000000,.var (.agg [.lst .o 1 (((r.2).code).map AV.u8),.i ((r.2).atF),.sc (.int .u64 ((r.2).seed))]))]) r):=by
 refine okM_of_body (lr:=[1000000000]) hmix m109M1 rfl rfl ?_
 unfold M_cf at h
 simp only [ZC,A109M1,V109M1]
 obtain ⟨oZ3,hoZ3,h⟩:=bind_s h
 try refine ZF trivial ?_
 refine join_rule0 (sh:=(fun v=>⟨[(0,.pt 1000000000 0 0),(3,.i v)],[(1000000000,.var (.agg [.lst .o 1 (((aaZ0).code).map AV.u8),.i ((aaZ0).atF),.sc (.int .u64 ((aaZ0).seed))]))]⟩)) (s:=oZ3) ?_ ?_
 · replace h:=hoZ3
   obtain ⟨cZ1,h⟩ | ⟨cZ1,h⟩:=cond_s h
   · obtain ⟨yZ2,hyZ2,h⟩:=bind_s h
     obtain ⟨hyZ2a,hyZ2b⟩:=geti_s hyZ2
     cases h
     exact ZL (ZA cZ1 (ZA hyZ2a hyZ2b)) trivial
   · cases h
     exact ZL cZ1 trivial
 · simp only [ZC,A109M1R1]
   obtain ⟨cZ4,h⟩ | ⟨cZ4,h⟩:=cond_s h
   · cases h
     exact ZL cZ4 V109M1.eq_1
   · cases h
     exact ZL cZ4 V109M1.eq_1
theorem w_a (aaZ0:Int) (abZ0:Tl1Cur) {r:Int×Tl1Cur} (h:M_a aaZ0 abZ0=some r):OkM Tryz.prog 67 [.pt 1000000000 0 0,.i aaZ0] [(1000000000,.var (.agg [.lst .o 1 (((abZ0).code).map AV.u8),.i ((abZ0).atF),.sc (.int .u64 ((abZ0).seed))]))] ((fun (r:Int×Tl1Cur)=>.i r.1) r) ((fun (r:Int×Tl1Cur)=>[(1000000000,.var (.agg [.lst .o 1 (((r.2).code).map AV.u8),.i ((r.2).atF),.sc (.int .u64 ((r.2).seed))]))]) r):=by
 refine okM_of_body (lr:=[1000000000]) hmix m67M1 rfl rfl ?_
 unfold M_a at h
 simp only [ZC,A67M1,V67M1]
 obtain ⟨cZ1,h⟩ | ⟨cZ1,h⟩:=cond_s h
 · cases h
   exact ZL cZ1 V67M1.eq_1
 · obtain ⟨rZ2,hrZ2,h⟩:=bind_s h
   refine ZF cZ1 ?_
   refine ZW cZ1 (w_cf _ hrZ2) (h2:=by first | exact nm_ok [1000000000] rfl (by decide +kernel) | exact nm_ok2 [1000000000] [] rfl (by decide +kernel) ZQ | exact ZQ) (hk:=?_)
   refine ZG ?_
   obtain ⟨cZ3,h⟩ | ⟨cZ3,h⟩:=cond_s h
   · obtain ⟨rZ4,hrZ4,h⟩:=bind_s h
     refine ZF (ZA cZ1 cZ3) ?_
     refine ZW (ZA cZ1 cZ3) (w_cf _ hrZ4) (h2:=by first | exact nm_ok [1000000000] rfl (by decide +kernel) | exact nm_ok2 [1000000000] [] rfl (by decide +kernel) ZQ | exact ZQ) (hk:=?_)
     refine ZG ?_
     obtain ⟨uZ5,huZ5,h⟩:=bind_s h
     have huZ5g:=grd_s huZ5
     cases h
     exact ZL (ZA cZ1 (ZA cZ3 huZ5g)) V67M1.eq_1
   · obtain ⟨uZ6,huZ6,h⟩:=bind_s h
     have huZ6g:=grd_s huZ6
     cases h
     exact ZL (ZA cZ1 (ZA cZ3 huZ6g)) V67M1.eq_1
theorem w_ct (aaZ0:Int) (abZ0:Tl1Cur) {r:Bool×Tl1Cur} (h:M_ct aaZ0 abZ0=some r):OkM Tryz.prog 139 [.pt 1000000000 0 0,.i aaZ0] [(1000000000,.var (.agg [.lst .o 1 (((abZ0).code).map AV.u8),.i ((abZ0).atF),.sc (.int .u64 ((abZ0).seed))]))] ((fun (r:Bool×Tl1Cur)=>.b r.1) r) ((fun (r:Bool×Tl1Cur)=>[(1000000000,.var (.agg [.lst .o 1 (((r.2).code).map AV.u8),.i ((r.2).atF),.sc (.int .u64 ((r.2).seed))]))]) r):=by
 refine okM_of_body (lr:=[1000000000]) hmix m139M1 rfl rfl ?_
 unfold M_ct at h
 simp only [ZC,A139M1,V139M1]
 obtain ⟨rZ1,hrZ1,h⟩:=bind_s h
 refine ZF trivial ?_
 refine ZW trivial (w_a _ _ hrZ1) (h2:=by first | exact nm_ok [1000000000] rfl (by decide +kernel) | exact nm_ok2 [1000000000] [] rfl (by decide +kernel) ZQ | exact ZQ) (hk:=?_)
 refine ZG ?_
 cases h
 exact ZL trivial V139M1.eq_1
theorem w_bq (aZ0:Int) (bZ0:Int) {r:Int} (h:M_bq aZ0 bZ0=some r):Ok Tryz.prog 104 [.i aZ0,.i bZ0] ((fun r=>.i r) r):=by
 refine ok_of_body hmix m104 rfl ?_
 unfold M_bq at h
 simp only [ZC,A104,V104,body_eq]
 obtain ⟨cZ1,h⟩ | ⟨cZ1,h⟩:=cond_s h
 · cases h
   exact ZL cZ1 V104.eq_1
 · cases h
   exact ZL cZ1 V104.eq_1
theorem w_cg (aZ0:Int) (bZ0:Int) {r:Int} (h:M_cg aZ0 bZ0=some r):Ok Tryz.prog 74 [.i aZ0,.i bZ0] ((fun r=>.i r) r):=by
 refine ok_of_body hmix m74 rfl ?_
 unfold M_cg at h
 simp only [ZC,A74,V74,body_eq]
 obtain ⟨cZ1,h⟩ | ⟨cZ1,h⟩:=cond_s h
 · cases h
   exact ZL cZ1 V74.eq_1
 · cases h
   exact ZL cZ1 V74.eq_1
theorem w_br (aaZ0:Tl1Cur) (abZ0:List Int) {r:Int×Tl1Cur×List Int} (h:M_br aaZ0 abZ0=some r):OkM Tryz.prog 66 [.pt 1000000000 0 0,.sl 1000000001 0 abZ0.length] [(1000000000,.var (.agg [.lst .o 1 (((aaZ0).code).map AV.u8),.i ((aaZ0).atF),.sc (.int .u64 ((aaZ0).seed))])),(1000000001,.arr 1 (abZ0.map AV.i))] ((fun (r:Int×Tl1Cur×List Int)=>.i r.1) r) ((fun (r:Int×Tl1Cur×List Int)=>[(1000000000,.var (.agg [.lst .o 1 (((r.2.1).code).map AV.u8),.i ((r.2.1).atF),.sc (.int .u64 ((r.2.1).seed))])),(1000000001,.arr 1 (r.2.2.map AV.i))]) r):=by
 refine okM_of_body (lr:=[1000000000,1000000001]) hmix m66M1 rfl rfl ?_
 unfold M_br at h
 simp only [ZC,A66M1,V66M1]
 obtain ⟨rZ1,hrZ1,h⟩:=bind_s h
 refine ZF trivial ?_
 refine ZW trivial (w_a _ _ hrZ1) (h2:=by first | exact nm_ok [1000000000] rfl (by decide +kernel) | exact nm_ok2 [1000000000] [] rfl (by decide +kernel) ZQ | exact ZQ) (hk:=?_)
 refine ZG ?_
 obtain ⟨kZ2,hkZ2,h⟩:=bind_s h
 obtain ⟨hkZ2a,hkZ2b⟩:=grd_s hkZ2
 obtain ⟨yZ3,hyZ3,h⟩:=bind_s h
 cases h
 exact ZL (ZA hkZ2a (ZA hkZ2b hyZ3)) V66M1.eq_1
theorem w_bx (fZ0:TFiber) (gZ0:TFiber) {r:Int} (h:M_bx fZ0 gZ0=some r):Ok Tryz.prog 103 [.agg [.i fZ0.A,.i fZ0.B,.i fZ0.Length,.i fZ0.Risk],.agg [.i gZ0.A,.i gZ0.B,.i gZ0.Length,.i gZ0.Risk]] ((fun r=>.i r) r):=by
 refine ok_of_body hmix m103 rfl ?_
 unfold M_bx at h
 simp only [ZC,A103,V103,body_eq]
 obtain ⟨cZ1,h⟩ | ⟨cZ1,h⟩:=cond_s h
 · cases h
   exact ZL cZ1 V103.eq_1
 · obtain ⟨cZ2,h⟩ | ⟨cZ2,h⟩:=cond_s h
   · cases h
     exact ZL (ZA cZ1 cZ2) V103.eq_1
   · obtain ⟨cZ3,h⟩ | ⟨cZ3,h⟩:=cond_s h
     · cases h
       exact ZL (ZA cZ1 (ZA cZ2 cZ3)) V103.eq_1
     · cases h
       exact ZL (ZA cZ1 (ZA cZ2 cZ3)) V103.eq_1
def S_s (listZ0:List TFiber) (fZ0:TFiber) (v:Int):St:=⟨[(0,.lst .o 4 (listZ0.map (e_TFiber .o))),(3,.pt 3 0 0),(5,.i v)],[(3,.var (.agg [.i fZ0.A,.i fZ0.B,.i fZ0.Length,.i fZ0.Risk]))]⟩
def SX_s (listZ0:List TFiber) (fZ0:TFiber) (v:Int):St:=⟨[(0,.lst .o 4 (listZ0.map (e_TFiber .o))),(3,.pt 3 0 0),(5,.i v)],[(3,.var (.agg [.i fZ0.A,.i fZ0.B,.i fZ0.Length,.i fZ0.Risk]))]⟩
theorem w_s (listZ0:List TFiber) (fZ0:TFiber) (sZ1:Int) (o:Int ⊕ Int) (h:M_s listZ0 fZ0 sZ1=some o):AWP (OkS Tryz.prog) A140L1 (qL [0,3,5] [3] (S_s listZ0 fZ0) (qX 0 [0,3,5] [3] (SX_s listZ0 fZ0)) o) (S_s listZ0 fZ0 sZ1):=by
 unfold M_s at h
 simp only [ZC,S_s,A140L1]
 obtain ⟨cZ2,h⟩ | ⟨cZ2,h⟩:=cond_s h
 · obtain ⟨yZ3,hyZ3,h⟩:=bind_s h
   obtain ⟨hyZ3a,hyZ3b⟩:=geti_s hyZ3
   obtain ⟨rZ4,hrZ4,h⟩:=bind_s h
   refine ZF (ZA cZ2 (ZA hyZ3a hyZ3b)) ?_
   refine ZS (ZA cZ2 (ZA hyZ3a hyZ3b)) (w_bx _ _ hrZ4) ?_
   refine ZG ?_
   obtain ⟨cZ5,h⟩ | ⟨cZ5,h⟩:=cond_s h
   · cases h
     exact ZL (ZA cZ2 (ZA hyZ3a (ZA hyZ3b cZ5))) (ZA S_s.eq_1 SX_s.eq_1)
   · cases h
     exact ZL (ZA cZ2 (ZA hyZ3a (ZA hyZ3b cZ5))) (ZA S_s.eq_1 SX_s.eq_1)
 · cases h
   exact ZL cZ2 (ZA S_s.eq_1 SX_s.eq_1)
theorem w_ch (listZ0:List TFiber) (fZ0:TFiber) {r:List TFiber} (h:M_ch listZ0 fZ0=some r):Ok Tryz.prog 140 [.lst .o 4 (listZ0.map (e_TFiber .o)),.agg [.i fZ0.A,.i fZ0.B,.i fZ0.Length,.i fZ0.Risk]] ((fun r=>.lst .u 4 (r.map (e_TFiber .u))) r):=by
 refine ok_of_body hmix m140 rfl ?_
 unfold M_ch at h
 simp only [ZC,A140,V140,body_eq]
 obtain ⟨oZ6,hoZ6,h⟩:=bind_s h
 try refine ZF trivial ?_
 refine join_rule0 (blk_rule0 (loop_rule (w_s listZ0 fZ0) hoZ6 ?_)) ?_
 · exact ZK (ZA S_s.eq_1 SX_s.eq_1)
 · simp only [ZC,SX_s,A140R2]
   obtain ⟨lZ7,hlZ7,h⟩:=bind_s h
   obtain ⟨hlZ7a,hlZ7b,hlZ7c,hlZ7d,hlZ7e⟩:=slT_s (e_TFiber .o) hlZ7
   obtain ⟨uZ8,huZ8,h⟩:=bind_s h
   have huZ8g:=grd_s huZ8
   obtain ⟨lZ9,hlZ9,h⟩:=bnd_s h
   have eZ10:Row.arr 4 [(.agg [.i fZ0.A,.i fZ0.B,.i fZ0.Length,.i fZ0.Risk]:AV)]=Row.arr 4 (lZ9.map (e_TFiber .u)):=by rw [← hlZ9]; rfl
   have jjZ11:lZ9.length=1:=by rw [← hlZ9]; rfl
   obtain ⟨uZ12,huZ12,h⟩:=bind_s h
   have huZ12g:=grd_s huZ12
   obtain ⟨lZ13,hlZ13,h⟩:=bnd_s h
   have eZ14:lZ7.map (e_TFiber .o)++lZ9.map (e_TFiber .o)=lZ13.map (e_TFiber .o):=by rw [← hlZ13,List.map_append]
   have eZ15:lZ7.length+1=lZ13.length:=by simp [← hlZ9,← hlZ13] <;> omega
   rw [eZ15] at huZ12g
   obtain ⟨lZ16,hlZ16,h⟩:=bind_s h
   obtain ⟨hlZ16a,hlZ16b,hlZ16c,hlZ16d,hlZ16e⟩:=slF_s (e_TFiber .o) hlZ16
   obtain ⟨uZ17,huZ17,h⟩:=bind_s h
   have huZ17g:=grd_s huZ17
   obtain ⟨lZ18,hlZ18,h⟩:=bnd_s h
   have eZ19:lZ13.map (e_TFiber .o)++lZ16.map (e_TFiber .o)=lZ18.map (e_TFiber .o):=by rw [← hlZ18,List.map_append]
   have eZ20:lZ13.length+lZ16.length=lZ18.length:=by simp [← hlZ9,← hlZ13,← hlZ18] <;> omega
   rw [eZ20] at huZ17g
   cases h
   exact ZL (ZA hlZ7a (ZA hlZ7b (ZA hlZ7c (ZA hlZ7d (ZA hlZ7e (ZA huZ8g (ZA eZ10 (ZA jjZ11 (ZA huZ12g (ZA eZ14 (ZA eZ15 (ZA hlZ16a (ZA hlZ16b (ZA hlZ16c (ZA hlZ16d (ZA hlZ16e (ZA huZ17g (ZA eZ19 eZ20)))))))))))))))))) (ZA V140.eq_1 (ZA hlZ9.symm (ZA hlZ13.symm (ZA hlZ18.symm jjZ11))))
def S_k (rZ1:Int×Tl1Cur) (lZ2:List ByteArray) (v:Int×List TFiber×Tl1Cur):St:=⟨[(0,.pt 1000000000 0 0),(2,.pt 2 0 0),(3,.i (IntKind.wrap .i64 (2+rZ1.1))),(4,.pt 4 0 0),(5,.i v.1)],[(2,.var (.agg [.lst .u 1 [],.lst .u 4 []])),(4,.var (.agg [.sl 500000256 0 (Int.toNat (IntKind.wrap .i64 (2+rZ1.1))),.sl 500000257 0 v.2.1.length])),(500000256,.arr 1 (lZ2.map AV.z)),(500000257,.arr 4 (v.2.1.map (e_TFiber .u))),(1000000000,.var (.agg [.lst .o 1 (((v.2.2).code).map AV.u8),.i ((v.2.2).atF),.sc (.int .u64 ((v.2.2).seed))]))]⟩
def SX_k (rZ1:Int×Tl1Cur) (lZ2:List ByteArray) (v:List TFiber×Tl1Cur):St:=⟨[(0,.pt 1000000000 0 0),(2,.pt 2 0 0),(3,.i (IntKind.wrap .i64 (2+rZ1.1))),(4,.pt 4 0 0)],[(2,.var (.agg [.lst .u 1 [],.lst .u 4 []])),(4,.var (.agg [.sl 500000256 0 (Int.toNat (IntKind.wrap .i64 (2+rZ1.1))),.sl 500000257 0 v.1.length])),(500000256,.arr 1 (lZ2.map AV.z)),(500000257,.arr 4 (v.1.map (e_TFiber .u))),(1000000000,.var (.agg [.lst .o 1 (((v.2).code).map AV.u8),.i ((v.2).atF),.sc (.int .u64 ((v.2).seed))]))]⟩
theorem w_k (rZ1:Int×Tl1Cur) (lZ2:List ByteArray) (sZ6:Int×List TFiber×Tl1Cur) (o:(Int×List TFiber×Tl1Cur) ⊕ (List TFiber×Tl1Cur)) (h:M_k rZ1 sZ6=some o):AWP (OkS Tryz.prog) A107M1L2 (qL [0,2,3,4,5] [2,4,500000256,500000257,1000000000] (S_k rZ1 lZ2) (qX 0 [0,2,3,4] [2,4,500000256,500000257,1000000000] (SX_k rZ1 lZ2)) o) (S_k rZ1 lZ2 sZ6):=by
 unfold M_k at h
 simp only [ZC,S_k,A107M1L2]
 obtain ⟨cZ7,h⟩ | ⟨cZ7,h⟩:=cond_s h
 · obtain ⟨uZ8,huZ8,h⟩:=bind_s h
   have huZ8g:=grd_s huZ8
   obtain ⟨oZ11,hoZ11,h⟩:=bind_s h
   try refine ZF (ZA cZ7 huZ8g) ?_
   refine join_rule0 (sh:=(fun v=>⟨[(0,.pt 1000000000 0 0),(2,.pt 2 0 0),(3,.i (IntKind.wrap .i64 (2+rZ1.1))),(4,.pt 4 0 0),(5,.i sZ6.1),(6,.i (Int.tmod (IntKind.wrap .i64 (sZ6.1+1)) (IntKind.wrap .i64 (2+rZ1.1)))),(32,.b v.1)],[(2,.var (.agg [.lst .u 1 [],.lst .u 4 []])),(4,.var (.agg [.sl 500000256 0 (Int.toNat (IntKind.wrap .i64 (2+rZ1.1))),.sl 500000257 0 sZ6.2.1.length])),(500000256,.arr 1 (lZ2.map AV.z)),(500000257,.arr 4 (sZ6.2.1.map (e_TFiber .u))),(1000000000,.var (.agg [.lst .o 1 (((v.2).code).map AV.u8),.i ((v.2).atF),.sc (.int .u64 ((v.2).seed))]))]⟩)) (s:=oZ11) ?_ ?_
   · replace h:=hoZ11
     obtain ⟨cZ9,h⟩ | ⟨cZ9,h⟩:=cond_s h
     · cases h
       exact ZL (ZA cZ7 (ZA huZ8g cZ9)) trivial
     · obtain ⟨rZ10,hrZ10,h⟩:=bind_s h
       refine ZF (ZA cZ7 (ZA huZ8g cZ9)) ?_
       refine ZW (ZA cZ7 (ZA huZ8g cZ9)) (w_ct _ _ hrZ10) (h2:=by first | exact nm_ok [1000000000] rfl (by decide +kernel) | exact nm_ok2 [1000000000] [] rfl (by decide +kernel) ZQ | exact ZQ) (hk:=?_)
       refine ZG ?_
       cases h
       exact ZL (ZA cZ7 (ZA huZ8g cZ9)) trivial
   · simp only [ZC,A107M1R1]
     obtain ⟨cZ12,h⟩ | ⟨cZ12,h⟩:=cond_s h
     · cases h
       exact ZL (ZA cZ7 (ZA huZ8g cZ12)) (ZA S_k.eq_1 SX_k.eq_1)
     · obtain ⟨rZ13,hrZ13,h⟩:=bind_s h
       refine ZF (ZA cZ7 (ZA huZ8g cZ12)) ?_
       refine ZS (ZA cZ7 (ZA huZ8g cZ12)) (w_bq _ _ hrZ13) ?_
       refine ZG ?_
       obtain ⟨rZ14,hrZ14,h⟩:=bind_s h
       refine ZF (ZA cZ7 (ZA huZ8g cZ12)) ?_
       refine ZS (ZA cZ7 (ZA huZ8g cZ12)) (w_cg _ _ hrZ14) ?_
       refine ZG ?_
       obtain ⟨rZ15,hrZ15,h⟩:=bind_s h
       refine ZF (ZA cZ7 (ZA huZ8g cZ12)) ?_
       refine ZW (ZA cZ7 (ZA huZ8g cZ12)) (w_a _ _ hrZ15) (h2:=by first | exact nm_ok [1000000000] rfl (by decide +kernel) | exact nm_ok2 [1000000000] [] rfl (by decide +kernel) ZQ | exact ZQ) (hk:=?_)
       refine ZG ?_
       obtain ⟨lZ16,hlZ16,h⟩:=bnd_s h
       have eZ17:Row.arr 1 [(.i 0:AV),(.i 0:AV),(.i 0:AV),(.i 1:AV),(.i 2:AV)]=Row.arr 1 (lZ16.map AV.i):=by rw [← hlZ16]; rfl
       have jjZ18:lZ16.length=5:=by rw [← hlZ16]; rfl
       obtain ⟨rZ19,hrZ19,h⟩:=bind_s h
       refine ZF (ZA cZ7 (ZA huZ8g (ZA cZ12 (ZA eZ17 jjZ18)))) ?_
       refine ZW (ZA cZ7 (ZA huZ8g (ZA cZ12 (ZA eZ17 jjZ18)))) (w_br _ _ hrZ19) (h2:=by first | exact nm_ok [1000000000,1000000001] rfl (by decide +kernel) | exact nm_ok2 [1000000000,1000000001] [] rfl (by decide +kernel) ZQ | exact ZQ) (hk:=?_)
       refine ZG ?_
       obtain ⟨rZ20,hrZ20,h⟩:=bind_s h
       refine ZF (ZA cZ7 (ZA huZ8g (ZA cZ12 (ZA eZ17 jjZ18)))) ?_
       refine ZU (ZA cZ7 (ZA huZ8g (ZA cZ12 (ZA eZ17 jjZ18)))) (w_ch _ _ hrZ20) ?_
       refine ZG ?_
       cases h
       exact ZL (ZA cZ7 (ZA huZ8g (ZA cZ12 (ZA eZ17 jjZ18)))) (ZA S_k.eq_1 (ZA SX_k.eq_1 (ZA hlZ16.symm jjZ18)))
 · cases h
   exact ZL cZ7 (ZA S_k.eq_1 SX_k.eq_1)
def S_l (rZ1:Int×Tl1Cur) (lZ2:List ByteArray) (v:Int×List TFiber×Tl1Cur):St:=⟨[(0,.pt 1000000000 0 0),(2,.pt 2 0 0),(3,.i (IntKind.wrap .i64 (2+rZ1.1))),(4,.pt 4 0 0),(7,.i v.1)],[(2,.var (.agg [.lst .u 1 [],.lst .u 4 []])),(4,.var (.agg [.sl 500000256 0 (Int.toNat (IntKind.wrap .i64 (2+rZ1.1))),.sl 500000257 0 v.2.1.length])),(500000256,.arr 1 (lZ2.map AV.z)),(500000257,.arr 4 (v.2.1.map (e_TFiber .u))),(1000000000,.var (.agg [.lst .o 1 (((v.2.2).code).map AV.u8),.i ((v.2.2).atF),.sc (.int .u64 ((v.2.2).seed))]))]⟩
def SX_l (rZ1:Int×Tl1Cur) (lZ2:List ByteArray) (v:List TFiber×Tl1Cur):St:=⟨[(2,.pt 2 0 0),(4,.pt 4 0 0)],[(2,.var (.agg [.lst .u 1 [],.lst .u 4 []])),(4,.var (.agg [.sl 500000256 0 (Int.toNat (IntKind.wrap .i64 (2+rZ1.1))),.sl 500000257 0 v.1.length])),(500000256,.arr 1 (lZ2.map AV.z)),(500000257,.arr 4 (v.1.map (e_TFiber .u))),(1000000000,.var (.agg [.lst .o 1 (((v.2).code).map AV.u8),.i ((v.2).atF),.sc (.int .u64 ((v.2).seed))]))]⟩
theorem w_l (rZ1:Int×Tl1Cur) (lZ2:List ByteArray) (sZ23:Int×List TFiber×Tl1Cur) (o:(Int×List TFiber×Tl1Cur) ⊕ (List TFiber×Tl1Cur)) (h:M_l rZ1 sZ23=some o):AWP (OkS Tryz.prog) A107M1L4 (qL [0,2,3,4,7] [2,4,500000256,500000257,1000000000] (S_l rZ1 lZ2) (qX 2 [2,4] [2,4,500000256,500000257,1000000000] (SX_l rZ1 lZ2)) o) (S_l rZ1 lZ2 sZ23):=by
 unfold M_l at h
 simp only [ZC,S_l,A107M1L4]
 obtain ⟨cZ24,h⟩ | ⟨cZ24,h⟩:=cond_s h
 · obtain ⟨rZ25,hrZ25,h⟩:=bind_s h
   refine ZF cZ24 ?_
   refine ZW cZ24 (w_a _ _ hrZ25) (h2:=by first | exact nm_ok [1000000000] rfl (by decide +kernel) | exact nm_ok2 [1000000000] [] rfl (by decide +kernel) ZQ | exact ZQ) (hk:=?_)
   refine ZG ?_
   obtain ⟨rZ26,hrZ26,h⟩:=bind_s h
   refine ZF cZ24 ?_
   refine ZW cZ24 (w_a _ _ hrZ26) (h2:=by first | exact nm_ok [1000000000] rfl (by decide +kernel) | exact nm_ok2 [1000000000] [] rfl (by decide +kernel) ZQ | exact ZQ) (hk:=?_)
   refine ZG ?_
   obtain ⟨cZ27,h⟩ | ⟨cZ27,h⟩:=cond_s h
   · obtain ⟨rZ28,hrZ28,h⟩:=bind_s h
     refine ZF (ZA cZ24 cZ27) ?_
     refine ZS (ZA cZ24 cZ27) (w_bq _ _ hrZ28) ?_
     refine ZG ?_
     obtain ⟨rZ29,hrZ29,h⟩:=bind_s h
     refine ZF (ZA cZ24 cZ27) ?_
     refine ZS (ZA cZ24 cZ27) (w_cg _ _ hrZ29) ?_
     refine ZG ?_
     obtain ⟨rZ30,hrZ30,h⟩:=bind_s h
     refine ZF (ZA cZ24 cZ27) ?_
     refine ZW (ZA cZ24 cZ27) (w_a _ _ hrZ30) (h2:=by first | exact nm_ok [1000000000] rfl (by decide +kernel) | exact nm_ok2 [1000000000] [] rfl (by decide +kernel) ZQ | exact ZQ) (hk:=?_)
     refine ZG ?_
     obtain ⟨lZ31,hlZ31,h⟩:=bnd_s h
     have eZ32:Row.arr 1 [(.i 0:AV),(.i 0:AV),(.i 0:AV),(.i 1:AV),(.i 2:AV)]=Row.arr 1 (lZ31.map AV.i):=by rw [← hlZ31]; rfl
     have jjZ33:lZ31.length=5:=by rw [← hlZ31]; rfl
     obtain ⟨rZ34,hrZ34,h⟩:=bind_s h
     refine ZF (ZA cZ24 (ZA cZ27 (ZA eZ32 jjZ33))) ?_
     refine ZW (ZA cZ24 (ZA cZ27 (ZA eZ32 jjZ33))) (w_br _ _ hrZ34) (h2:=by first | exact nm_ok [1000000000,1000000001] rfl (by decide +kernel) | exact nm_ok2 [1000000000,1000000001] [] rfl (by decide +kernel) ZQ | exact ZQ) (hk:=?_)
     refine ZG ?_
     obtain ⟨rZ35,hrZ35,h⟩:=bind_s h
     refine ZF (ZA cZ24 (ZA cZ27 (ZA eZ32 jjZ33))) ?_
     refine ZU (ZA cZ24 (ZA cZ27 (ZA eZ32 jjZ33))) (w_ch _ _ hrZ35) ?_
     refine ZG ?_
     cases h
     exact ZL (ZA cZ24 (ZA cZ27 (ZA eZ32 jjZ33))) (ZA S_l.eq_1 (ZA SX_l.eq_1 (ZA hlZ31.symm jjZ33)))
   · cases h
     exact ZL (ZA cZ24 cZ27) (ZA S_l.eq_1 SX_l.eq_1)
 · cases h
   exact ZL cZ24 (ZA S_l.eq_1 SX_l.eq_1)
theorem w_da (aaZ0:Tl1Cur) {r:Nat×Nat×List ByteArray×List TFiber×Tl1Cur} (h:M_da aaZ0=some r):OkM Tryz.prog 107 [.pt 1000000000 0 0] [(1000000000,.var (.agg [.lst .o 1 (((aaZ0).code).map AV.u8),.i ((aaZ0).atF),.sc (.int .u64 ((aaZ0).seed))]))] ((fun (r:Nat×Nat×List ByteArray×List TFiber×Tl1Cur)=>.agg [.sl 500000128 r.1 r.2.1,.sl 500000129 0 r.2.2.2.1.length]) r) ((fun (r:Nat×Nat×List ByteArray×List TFiber×Tl1Cur)=>[(500000128,.arr 1 (r.2.2.1.map AV.z)),(500000129,.arr 4 (r.2.2.2.1.map (e_TFiber .u))),(1000000000,.var (.agg [.lst .o 1 (((r.2.2.2.2).code).map AV.u8),.i ((r.2.2.2.2).atF),.sc (.int .u64 ((r.2.2.2.2).seed))]))]) r):=by
 refine okM_of_body (lr:=[500000128,500000129,1000000000]) hmix m107M1 rfl rfl ?_
 unfold M_da at h
 simp only [ZC,A107M1,V107M1]
 obtain ⟨rZ1,hrZ1,h⟩:=bind_s h
 refine ZF trivial ?_
 refine ZW trivial (w_a _ _ hrZ1) (h2:=by first | exact nm_ok [1000000000] rfl (by decide +kernel) | exact nm_ok2 [1000000000] [] rfl (by decide +kernel) ZQ | exact ZQ) (hk:=?_)
 refine ZG ?_
 obtain ⟨lZ2,hlZ2,h⟩:=bnd_s h
 have eZ3:Row.arr 1 [(.z (⟨#[97]⟩:ByteArray):AV),(.z (⟨#[98]⟩:ByteArray):AV),(.z (⟨#[99]⟩:ByteArray):AV),(.z (⟨#[100]⟩:ByteArray):AV),(.z (⟨#[101]⟩:ByteArray):AV),(.z (⟨#[102]⟩:ByteArray):AV)]=Row.arr 1 (lZ2.map AV.z):=by rw [← hlZ2]; rfl
 have jjZ4:lZ2.length=6:=by rw [← hlZ2]; rfl
 obtain ⟨uZ5,huZ5,h⟩:=bind_s h
 obtain ⟨huZ5a,huZ5b,huZ5c,huZ5d⟩:=grd_s huZ5
 obtain ⟨oZ21,hoZ21,h⟩:=bind_s h
 try refine ZF (ZA eZ3 (ZA jjZ4 (ZA huZ5a (ZA huZ5b (ZA huZ5c huZ5d))))) ?_
 refine join_rule0 (blk_rule0 (loop_rule (w_k rZ1 lZ2) hoZ21 ?_)) ?_
 · exact ZK (ZA S_k.eq_1 (ZA SX_k.eq_1 (ZA hlZ2.symm jjZ4)))
 · simp only [ZC,SX_k,A107M1R3]
   obtain ⟨rZ22,hrZ22,h⟩:=bind_s h
   refine ZF (ZA eZ3 (ZA jjZ4 (ZA huZ5a (ZA huZ5b (ZA huZ5c huZ5d))))) ?_
   refine ZW (ZA eZ3 (ZA jjZ4 (ZA huZ5a (ZA huZ5b (ZA huZ5c huZ5d))))) (w_a _ _ hrZ22) (h2:=by first | exact nm_ok [1000000000] rfl (by decide +kernel) | exact nm_ok2 [1000000000] [] rfl (by decide +kernel) ZQ | exact ZQ) (hk:=?_)
   refine ZG ?_
   obtain ⟨oZ36,hoZ36,h⟩:=bind_s h
   try refine ZF (ZA eZ3 (ZA jjZ4 (ZA huZ5a (ZA huZ5b (ZA huZ5c huZ5d))))) ?_
   refine join_rule0 (blk_rule0 (loop_rule (w_l rZ1 lZ2) hoZ36 ?_)) ?_
   · exact ZK (ZA S_l.eq_1 (ZA SX_l.eq_1 jjZ4))
   · simp only [ZC,SX_l,A107M1R5]
     cases h
     exact ZL (ZA eZ3 (ZA jjZ4 (ZA huZ5a (ZA huZ5b (ZA huZ5c huZ5d))))) (ZA V107M1.eq_1 jjZ4)
theorem w_db (aaZ0:Tl1Cur) (abZ0:List ByteArray) {r:ByteArray×Tl1Cur×List ByteArray} (h:M_db aaZ0 abZ0=some r):OkM Tryz.prog 134 [.pt 1000000000 0 0,.sl 1000000001 0 abZ0.length] [(1000000000,.var (.agg [.lst .o 1 (((aaZ0).code).map AV.u8),.i ((aaZ0).atF),.sc (.int .u64 ((aaZ0).seed))])),(1000000001,.arr 1 (abZ0.map AV.z))] ((fun (r:ByteArray×Tl1Cur×List ByteArray)=>.z r.1) r) ((fun (r:ByteArray×Tl1Cur×List ByteArray)=>[(1000000000,.var (.agg [.lst .o 1 (((r.2.1).code).map AV.u8),.i ((r.2.1).atF),.sc (.int .u64 ((r.2.1).seed))])),(1000000001,.arr 1 (r.2.2.map AV.z))]) r):=by
 refine okM_of_body (lr:=[1000000000,1000000001]) hmix m134M1 rfl rfl ?_
 unfold M_db at h
 simp only [ZC,A134M1,V134M1]
 obtain ⟨rZ1,hrZ1,h⟩:=bind_s h
 refine ZF trivial ?_
 refine ZW trivial (w_a _ _ hrZ1) (h2:=by first | exact nm_ok [1000000000] rfl (by decide +kernel) | exact nm_ok2 [1000000000] [] rfl (by decide +kernel) ZQ | exact ZQ) (hk:=?_)
 refine ZG ?_
 obtain ⟨kZ2,hkZ2,h⟩:=bind_s h
 obtain ⟨hkZ2a,hkZ2b⟩:=grd_s hkZ2
 obtain ⟨yZ3,hyZ3,h⟩:=bind_s h
 cases h
 exact ZL (ZA hkZ2a (ZA hkZ2b hyZ3)) V134M1.eq_1
def S_ar (rZ1:Nat×Nat×List ByteArray×List TFiber×Tl1Cur) (v:List TFiber×Tl1Cur):St:=⟨[(0,.pt 1000000000 0 0),(2,.pt 2 0 0),(3,.pt 3 0 0)],[(2,.var (.agg [.lst .u 1 [],.lst .u 4 []])),(3,.var (.agg [.sl 500000192 rZ1.1 rZ1.2.1,.sl 500000193 0 v.1.length])),(500000192,.arr 1 (rZ1.2.2.1.map AV.z)),(500000193,.arr 4 (v.1.map (e_TFiber .u))),(1000000000,.var (.agg [.lst .o 1 (((v.2).code).map AV.u8),.i ((v.2).atF),.sc (.int .u64 ((v.2).seed))]))]⟩
def SX_ar (rZ1:Nat×Nat×List ByteArray×List TFiber×Tl1Cur) (v:List TFiber×Tl1Cur):St:=⟨[(2,.pt 2 0 0),(3,.pt 3 0 0)],[(2,.var (.agg [.lst .u 1 [],.lst .u 4 []])),(3,.var (.agg [.sl 500000192 rZ1.1 rZ1.2.1,.sl 500000193 0 v.1.length])),(500000192,.arr 1 (rZ1.2.2.1.map AV.z)),(500000193,.arr 4 (v.1.map (e_TFiber .u))),(1000000000,.var (.agg [.lst .o 1 (((v.2).code).map AV.u8),.i ((v.2).atF),.sc (.int .u64 ((v.2).seed))]))]⟩
theorem w_ar (rZ1:Nat×Nat×List ByteArray×List TFiber×Tl1Cur) (sZ41:List TFiber×Tl1Cur) (o:(List TFiber×Tl1Cur) ⊕ (List TFiber×Tl1Cur)) (h:M_ar sZ41=some o):AWP (OkS Tryz.prog) A96M1L1 (qL [0,2,3] [2,3,500000192,500000193,1000000000] (S_ar rZ1) (qX 1 [2,3] [2,3,500000192,500000193,1000000000] (SX_ar rZ1)) o) (S_ar rZ1 sZ41):=by
 unfold M_ar at h
 simp only [ZC,S_ar,A96M1L1]
 obtain ⟨rZ42,hrZ42,h⟩:=bind_s h
 refine ZF trivial ?_
 refine ZW trivial (w_a _ _ hrZ42) (h2:=by first | exact nm_ok [1000000000] rfl (by decide +kernel) | exact nm_ok2 [1000000000] [] rfl (by decide +kernel) ZQ | exact ZQ) (hk:=?_)
 refine ZG ?_
 obtain ⟨cZ43,h⟩ | ⟨cZ43,h⟩:=cond_s h
 · obtain ⟨kZ44,hkZ44,h⟩:=bind_s h
   obtain ⟨hkZ44a,hkZ44b⟩:=grd_s hkZ44
   obtain ⟨yZ45,hyZ45,h⟩:=bind_s h
   obtain ⟨lZ46,hlZ46,h⟩:=bnd_s h
   have eZ47:Row.arr 4 [(.agg [.i yZ45.A,.i yZ45.B,.i yZ45.Length,.i yZ45.Risk]:AV)]=Row.arr 4 (lZ46.map (e_TFiber .u)):=by rw [← hlZ46]; rfl
   have jjZ48:lZ46.length=1:=by rw [← hlZ46]; rfl
   obtain ⟨uZ49,huZ49,h⟩:=bind_s h
   have huZ49g:=grd_s huZ49
   obtain ⟨lZ50,hlZ50,h⟩:=bnd_s h
   have eZ51:sZ41.1.map (e_TFiber .u)++lZ46.map (e_TFiber .u)=lZ50.map (e_TFiber .u):=by rw [← hlZ50,List.map_append]
   have eZ52:sZ41.1.length+1=lZ50.length:=by simp [← hlZ46,← hlZ50] <;> omega
   rw [eZ52] at huZ49g
   cases h
   exact ZL (ZA cZ43 (ZA hkZ44a (ZA hkZ44b (ZA hyZ45 (ZA eZ47 (ZA jjZ48 (ZA huZ49g (ZA eZ51 eZ52)))))))) (ZA S_ar.eq_1 (ZA SX_ar.eq_1 (ZA hlZ46.symm (ZA hlZ50.symm jjZ48))))
 · cases h
   exact ZL cZ43 (ZA S_ar.eq_1 SX_ar.eq_1)
theorem w_dc (aaZ0:Tl1Cur) {r:Nat×Nat×List ByteArray×List TFiber×Tl1Cur} (h:M_dc aaZ0=some r):OkM Tryz.prog 96 [.pt 1000000000 0 0] [(1000000000,.var (.agg [.lst .o 1 (((aaZ0).code).map AV.u8),.i ((aaZ0).atF),.sc (.int .u64 ((aaZ0).seed))]))] ((fun (r:Nat×Nat×List ByteArray×List TFiber×Tl1Cur)=>.agg [.sl 500000128 r.1 r.2.1,.sl 500000129 0 r.2.2.2.1.length]) r) ((fun (r:Nat×Nat×List ByteArray×List TFiber×Tl1Cur)=>[(500000128,.arr 1 (r.2.2.1.map AV.z)),(500000129,.arr 4 (r.2.2.2.1.map (e_TFiber .u))),(1000000000,.var (.agg [.lst .o 1 (((r.2.2.2.2).code).map AV.u8),.i ((r.2.2.2.2).atF),.sc (.int .u64 ((r.2.2.2.2).seed))]))]) r):=by
 refine okM_of_body (lr:=[500000128,500000129,1000000000]) hmix m96M1 rfl rfl ?_
 unfold M_dc at h
 simp only [ZC,A96M1,V96M1]
 obtain ⟨rZ1,hrZ1,h⟩:=bind_s h
 refine ZF trivial ?_
 refine ZW trivial (w_da _ hrZ1) (h2:=by first | exact nm_ok [500000128,500000129,1000000000] rfl (by decide +kernel) | exact nm_ok2 [500000128,500000129,1000000000] [500800128,500800129] rfl (by decide +kernel) ZQ | exact ZQ) (hk:=?_)
 refine ZG ?_
 obtain ⟨cZ2,h⟩ | ⟨cZ2,h⟩:=cond_s h
 · cases h
   exact ZL cZ2 V96M1.eq_1
 · obtain ⟨rZ3,hrZ3,h⟩:=bind_s h
   refine ZF cZ2 ?_
   refine ZW cZ2 (w_a _ _ hrZ3) (h2:=by first | exact nm_ok [1000000000] rfl (by decide +kernel) | exact nm_ok2 [1000000000] [] rfl (by decide +kernel) ZQ | exact ZQ) (hk:=?_)
   refine ZG ?_
   obtain ⟨kZ4,hkZ4,h⟩:=bind_s h
   obtain ⟨hkZ4a,hkZ4b⟩:=grd_s hkZ4
   obtain ⟨yZ5,hyZ5,h⟩:=bind_s h
   obtain ⟨oZ63,hoZ63,h⟩:=bind_s h
   try refine ZF (ZA cZ2 (ZA hkZ4a (ZA hkZ4b hyZ5))) ?_
   refine join_rule (sh:=(fun v=>⟨[(2,.pt 2 0 0),(3,.pt 3 0 0),(4,.i rZ3.1),(5,.pt 5 0 0)],[(2,.var (.agg [.lst .u 1 [],.lst .u 4 []])),(3,.var (.agg [.sl 500000192 v.1 v.2.1,.sl 500000193 0 v.2.2.2.2.1.length])),(5,.var (.agg [.i ((v.2.2.1).A),.i ((v.2.2.1).B),.i ((v.2.2.1).Length),.i ((v.2.2.1).Risk)])),(500000192,.arr 1 (v.2.2.2.1.map AV.z)),(500000193,.arr 4 (v.2.2.2.2.1.map (e_TFiber .u))),(1000000000,.var (.agg [.lst .o 1 (((v.2.2.2.2.2).code).map AV.u8),.i ((v.2.2.2.2.2).atF),.sc (.int .u64 ((v.2.2.2.2.2).seed))]))]⟩)) (q:=(qM V96M1 [500000128,500000129,1000000000] (fun (r:Nat×Nat×List ByteArray×List TFiber×Tl1Cur)=>.agg [.sl 500000128 r.1 r.2.1,.sl 500000129 0 r.2.2.2.1.length]) (fun (r:Nat×Nat×List ByteArray×List TFiber×Tl1Cur)=>[(500000128,.arr 1 (r.2.2.1.map AV.z)),(500000129,.arr 4 (r.2.2.2.1.map (e_TFiber .u))),(1000000000,.var (.agg [.lst .o 1 (((r.2.2.2.2).code).map AV.u8),.i ((r.2.2.2.2).atF),.sc (.int .u64 ((r.2.2.2.2).seed))]))]))) (o:=oZ63) ?_ (fun vZ64 hv=>?_) (fun xZ65 hv e τ hne hq=>?_)
   · replace h:=hoZ63
     obtain ⟨rZ6,hrZ6,h⟩:=bind_s h
     refine ZF (ZA cZ2 (ZA hkZ4a (ZA hkZ4b hyZ5))) ?_
     refine ZW (ZA cZ2 (ZA hkZ4a (ZA hkZ4b hyZ5))) (w_a _ _ hrZ6) (h2:=by first | exact nm_ok [1000000000] rfl (by decide +kernel) | exact nm_ok2 [1000000000] [] rfl (by decide +kernel) ZQ | exact ZQ) (hk:=?_)
     refine ZG ?_
     obtain ⟨cZ7,h⟩ | ⟨cZ7,h⟩:=cond_s h
     · obtain ⟨lZ8,hlZ8,h⟩:=bnd_s h
       have eZ9:Row.arr 1 [(.z (⟨#[98]⟩:ByteArray):AV),(.z (⟨#[]⟩:ByteArray):AV),(.z (⟨#[65]⟩:ByteArray):AV),(.z (⟨#[97,98,99,100,101,102,103,104]⟩:ByteArray):AV),(.z (⟨#[97,98,99,100,101,102,103,104,105]⟩:ByteArray):AV),(.z (⟨#[120,49]⟩:ByteArray):AV)]=Row.arr 1 (lZ8.map AV.z):=by rw [← hlZ8]; rfl
       have jjZ10:lZ8.length=6:=by rw [← hlZ8]; rfl
       obtain ⟨rZ11,hrZ11,h⟩:=bind_s h
       refine ZF (ZA cZ2 (ZA hkZ4a (ZA hkZ4b (ZA hyZ5 (ZA cZ7 (ZA eZ9 jjZ10)))))) ?_
       refine ZW (ZA cZ2 (ZA hkZ4a (ZA hkZ4b (ZA hyZ5 (ZA cZ7 (ZA eZ9 jjZ10)))))) (w_db _ _ hrZ11) (h2:=by first | exact nm_ok [1000000000,1000000001] rfl (by decide +kernel) | exact nm_ok2 [1000000000,1000000001] [] rfl (by decide +kernel) ZQ | exact ZQ) (hk:=?_)
       refine ZG ?_
       obtain ⟨kZ12,hkZ12,h⟩:=bind_s h
       obtain ⟨hkZ12a,hkZ12b⟩:=grd_s hkZ12
       obtain ⟨yZ13,hyZ13,h⟩:=bind_s h
       obtain ⟨lZ14,hlZ14,h⟩:=bnd_s h
       have eZ15:(rZ1.2.2.1.map AV.z).set (rZ1.1+(Int.toNat 0)) (.z rZ11.1)=lZ14.map AV.z:=by rw [← hlZ14,List.map_set]
       cases h
       exact ZL (ZA cZ2 (ZA hkZ4a (ZA hkZ4b (ZA hyZ5 (ZA cZ7 (ZA eZ9 (ZA jjZ10 (ZA hkZ12a (ZA hkZ12b (ZA hyZ13 eZ15)))))))))) (ZA hlZ8.symm (ZA hlZ14.symm jjZ10))
     · obtain ⟨cZ16,h⟩ | ⟨cZ16,h⟩:=cond_s h
       · obtain ⟨rZ17,hrZ17,h⟩:=bind_s h
         refine ZF (ZA cZ2 (ZA hkZ4a (ZA hkZ4b (ZA hyZ5 (ZA cZ7 cZ16))))) ?_
         refine ZW (ZA cZ2 (ZA hkZ4a (ZA hkZ4b (ZA hyZ5 (ZA cZ7 cZ16))))) (w_a _ _ hrZ17) (h2:=by first | exact nm_ok [1000000000] rfl (by decide +kernel) | exact nm_ok2 [1000000000] [] rfl (by decide +kernel) ZQ | exact ZQ) (hk:=?_)
         refine ZG ?_
         cases h
         exact ZL (ZA cZ2 (ZA hkZ4a (ZA hkZ4b (ZA hyZ5 (ZA cZ7 cZ16))))) trivial
       · obtain ⟨cZ18,h⟩ | ⟨cZ18,h⟩:=cond_s h
         · obtain ⟨rZ19,hrZ19,h⟩:=bind_s h
           refine ZF (ZA cZ2 (ZA hkZ4a (ZA hkZ4b (ZA hyZ5 (ZA cZ7 (ZA cZ16 cZ18)))))) ?_
           refine ZW (ZA cZ2 (ZA hkZ4a (ZA hkZ4b (ZA hyZ5 (ZA cZ7 (ZA cZ16 cZ18)))))) (w_a _ _ hrZ19) (h2:=by first | exact nm_ok [1000000000] rfl (by decide +kernel) | exact nm_ok2 [1000000000] [] rfl (by decide +kernel) ZQ | exact ZQ) (hk:=?_)
           refine ZG ?_
           cases h
           exact ZL (ZA cZ2 (ZA hkZ4a (ZA hkZ4b (ZA hyZ5 (ZA cZ7 (ZA cZ16 cZ18)))))) trivial
         · obtain ⟨cZ20,h⟩ | ⟨cZ20,h⟩:=cond_s h
           · obtain ⟨lZ21,hlZ21,h⟩:=bnd_s h
             have eZ22:Row.arr 1 [(.i 0:AV),(.i 1:AV),(.i 5000:AV),(.i 5001:AV)]=Row.arr 1 (lZ21.map AV.i):=by rw [← hlZ21]; rfl
             have jjZ23:lZ21.length=4:=by rw [← hlZ21]; rfl
             obtain ⟨rZ24,hrZ24,h⟩:=bind_s h
             refine ZF (ZA cZ2 (ZA hkZ4a (ZA hkZ4b (ZA hyZ5 (ZA cZ7 (ZA cZ16 (ZA cZ18 (ZA cZ20 (ZA eZ22 jjZ23))))))))) ?_
             refine ZW (ZA cZ2 (ZA hkZ4a (ZA hkZ4b (ZA hyZ5 (ZA cZ7 (ZA cZ16 (ZA cZ18 (ZA cZ20 (ZA eZ22 jjZ23))))))))) (w_br _ _ hrZ24) (h2:=by first | exact nm_ok [1000000000,1000000001] rfl (by decide +kernel) | exact nm_ok2 [1000000000,1000000001] [] rfl (by decide +kernel) ZQ | exact ZQ) (hk:=?_)
             refine ZG ?_
             cases h
             exact ZL (ZA cZ2 (ZA hkZ4a (ZA hkZ4b (ZA hyZ5 (ZA cZ7 (ZA cZ16 (ZA cZ18 (ZA cZ20 (ZA eZ22 jjZ23))))))))) (ZA hlZ21.symm jjZ23)
           · obtain ⟨cZ25,h⟩ | ⟨cZ25,h⟩:=cond_s h
             · obtain ⟨lZ26,hlZ26,h⟩:=bnd_s h
               have eZ27:Row.arr 1 [(.i (-1):AV),(.i 9:AV),(.i 10:AV)]=Row.arr 1 (lZ26.map AV.i):=by rw [← hlZ26]; rfl
               have jjZ28:lZ26.length=3:=by rw [← hlZ26]; rfl
               obtain ⟨rZ29,hrZ29,h⟩:=bind_s h
               refine ZF (ZA cZ2 (ZA hkZ4a (ZA hkZ4b (ZA hyZ5 (ZA cZ7 (ZA cZ16 (ZA cZ18 (ZA cZ20 (ZA cZ25 (ZA eZ27 jjZ28)))))))))) ?_
               refine ZW (ZA cZ2 (ZA hkZ4a (ZA hkZ4b (ZA hyZ5 (ZA cZ7 (ZA cZ16 (ZA cZ18 (ZA cZ20 (ZA cZ25 (ZA eZ27 jjZ28)))))))))) (w_br _ _ hrZ29) (h2:=by first | exact nm_ok [1000000000,1000000001] rfl (by decide +kernel) | exact nm_ok2 [1000000000,1000000001] [] rfl (by decide +kernel) ZQ | exact ZQ) (hk:=?_)
               refine ZG ?_
               cases h
               exact ZL (ZA cZ2 (ZA hkZ4a (ZA hkZ4b (ZA hyZ5 (ZA cZ7 (ZA cZ16 (ZA cZ18 (ZA cZ20 (ZA cZ25 (ZA eZ27 jjZ28)))))))))) (ZA hlZ26.symm jjZ28)
             · obtain ⟨cZ30,h⟩ | ⟨cZ30,h⟩:=cond_s h
               · obtain ⟨kZ31,hkZ31,h⟩:=bind_s h
                 obtain ⟨hkZ31a,hkZ31b⟩:=grd_s hkZ31
                 obtain ⟨yZ32,hyZ32,h⟩:=bind_s h
                 obtain ⟨lZ33,hlZ33,h⟩:=bnd_s h
                 have eZ34:Row.arr 4 [(.agg [.i yZ32.A,.i yZ32.B,.i yZ32.Length,.i yZ32.Risk]:AV)]=Row.arr 4 (lZ33.map (e_TFiber .u)):=by rw [← hlZ33]; rfl
                 have jjZ35:lZ33.length=1:=by rw [← hlZ33]; rfl
                 obtain ⟨uZ36,huZ36,h⟩:=bind_s h
                 have huZ36g:=grd_s huZ36
                 obtain ⟨lZ37,hlZ37,h⟩:=bnd_s h
                 have eZ38:rZ1.2.2.2.1.map (e_TFiber .u)++lZ33.map (e_TFiber .u)=lZ37.map (e_TFiber .u):=by rw [← hlZ37,List.map_append]
                 have eZ39:rZ1.2.2.2.1.length+1=lZ37.length:=by simp [← hlZ33,← hlZ37] <;> omega
                 rw [eZ39] at huZ36g
                 cases h
                 exact ZL (ZA cZ2 (ZA hkZ4a (ZA hkZ4b (ZA hyZ5 (ZA cZ7 (ZA cZ16 (ZA cZ18 (ZA cZ20 (ZA cZ25 (ZA cZ30 (ZA hkZ31a (ZA hkZ31b (ZA hyZ32 (ZA eZ34 (ZA jjZ35 (ZA huZ36g (ZA eZ38 eZ39))))))))))))))))) (ZA hlZ33.symm (ZA hlZ37.symm jjZ35))
               · obtain ⟨cZ40,h⟩ | ⟨cZ40,h⟩:=cond_s h
                 · obtain ⟨oZ53,hoZ53,h⟩:=bind_s h
                   try refine ZF (ZA cZ2 (ZA hkZ4a (ZA hkZ4b (ZA hyZ5 (ZA cZ7 (ZA cZ16 (ZA cZ18 (ZA cZ20 (ZA cZ25 (ZA cZ30 cZ40)))))))))) ?_
                   refine join_rule0 (blk_rule0 (loop_rule (w_ar rZ1) hoZ53 ?_)) ?_
                   · exact ZK (ZA S_ar.eq_1 SX_ar.eq_1)
                   · simp only [ZC,SX_ar,A96M1R2]
                     cases h
                     exact ZL (ZA cZ2 (ZA hkZ4a (ZA hkZ4b (ZA hyZ5 (ZA cZ7 (ZA cZ16 (ZA cZ18 (ZA cZ20 (ZA cZ25 (ZA cZ30 cZ40)))))))))) V96M1.eq_1
                 · obtain ⟨cZ54,h⟩ | ⟨cZ54,h⟩:=cond_s h
                   · obtain ⟨lZ55,hlZ55,h⟩:=bnd_s h
                     have eZ56:Row.arr 1 [(.z (⟨#[112]⟩:ByteArray):AV),(.z (⟨#[113]⟩:ByteArray):AV),(.z (⟨#[114]⟩:ByteArray):AV),(.z (⟨#[115]⟩:ByteArray):AV)]=Row.arr 1 (lZ55.map AV.z):=by rw [← hlZ55]; rfl
                     have jjZ57:lZ55.length=4:=by rw [← hlZ55]; rfl
                     obtain ⟨lZ58,hlZ58,h⟩:=bnd_s h
                     have eZ59:sub (rZ1.2.2.1.map AV.z) rZ1.1 rZ1.2.1=lZ58.map AV.z:=by rw [sub_mapT,hlZ58]
                     obtain ⟨uZ60,huZ60,h⟩:=bind_s h
                     have huZ60g:=grd_s huZ60
                     obtain ⟨lZ61,hlZ61,h⟩:=bnd_s h
                     have eZ62:lZ58.map AV.z++lZ55.map AV.z=lZ61.map AV.z:=by rw [← hlZ61,List.map_append]
                     cases h
                     exact ZL (ZA cZ2 (ZA hkZ4a (ZA hkZ4b (ZA hyZ5 (ZA cZ7 (ZA cZ16 (ZA cZ18 (ZA cZ20 (ZA cZ25 (ZA cZ30 (ZA cZ40 (ZA cZ54 (ZA eZ56 (ZA jjZ57 (ZA eZ59 (ZA huZ60g eZ62)))))))))))))))) (ZA hlZ55.symm jjZ57)
                   · cases h
                     exact ZL (ZA cZ2 (ZA hkZ4a (ZA hkZ4b (ZA hyZ5 (ZA cZ7 (ZA cZ16 (ZA cZ18 (ZA cZ20 (ZA cZ25 (ZA cZ30 (ZA cZ40 cZ54))))))))))) trivial
   · subst hv
     simp only [] at h
     simp only [ZC,A96M1R3]
     obtain ⟨kZ66,hkZ66,h⟩:=bind_s h
     obtain ⟨hkZ66a,hkZ66b⟩:=grd_s hkZ66
     obtain ⟨yZ67,hyZ67,h⟩:=bind_s h
     obtain ⟨lZ68,hlZ68,h⟩:=bnd_s h
     have eZ69:(vZ64.2.2.2.2.1.map (e_TFiber .u)).set (Int.toNat rZ3.1) (.agg [.i ((vZ64.2.2.1).A),.i ((vZ64.2.2.1).B),.i ((vZ64.2.2.1).Length),.i ((vZ64.2.2.1).Risk)])=lZ68.map (e_TFiber .u):=by rw [← hlZ68,List.map_set]; rfl
     cases h
     exact ZL (ZA cZ2 (ZA hkZ4a (ZA hkZ4b (ZA hyZ5 (ZA hkZ66a (ZA hkZ66b (ZA hyZ67 eZ69))))))) (ZA V96M1.eq_1 hlZ68.symm)
   · subst hv
     simp only [] at h
     obtain ⟨rfl,qZ70⟩:=hq
     cases h
     exact qZ70
theorem w_cy (codeZ0:List Int) {r:TNetwork} (h:M_cy codeZ0=some r):Ok Tryz.prog 56 [.lst .o 1 (codeZ0.map AV.u8)] ((fun r=>.agg [.lst .u 1 (r.Nodes.map AV.z),.lst .u 4 (r.Fibers.map (e_TFiber .u))]) r):=by
 refine ok_of_body hmix m56 rfl ?_
 unfold M_cy at h
 simp only [ZC,A56,V56,body_eq]
 obtain ⟨rZ1,hrZ1,h⟩:=bind_s h
 refine ZF trivial ?_
 refine ZW trivial (w_dc _ hrZ1) (h2:=by first | exact nm_ok [500000128,500000129,1000000000] rfl (by decide +kernel) | exact nm_ok2 [500000128,500000129,1000000000] [500900128,500900129] rfl (by decide +kernel) ZQ | exact ZQ) (hk:=?_)
 refine ZG ?_
 obtain ⟨lZ2,hlZ2,h⟩:=bnd_s h
 have eZ3:sub (rZ1.2.2.1.map AV.z) rZ1.1 rZ1.2.1=lZ2.map AV.z:=by rw [sub_mapT,hlZ2]
 cases h
 exact ZL eZ3 V56.eq_1
theorem w_cz (codeZ0:List Int) {r:TNetwork} (h:M_cz codeZ0=some r):Ok Tryz.prog 23 [.lst .o 1 (codeZ0.map AV.u8)] ((fun r=>.agg [.lst .u 1 (r.Nodes.map AV.z),.lst .u 4 (r.Fibers.map (e_TFiber .u))]) r):=by
 refine ok_of_body hmix m23 rfl ?_
 unfold M_cz at h
 simp only [ZC,A23,V23,body_eq]
 obtain ⟨rZ1,hrZ1,h⟩:=bind_s h
 refine ZF trivial ?_
 refine ZU trivial (w_cy _ hrZ1) ?_
 refine ZG ?_
 cases h
 exact ZL trivial V23.eq_1
theorem w_bj (nZ0:Int) (lowZ0:Int) (highZ0:Int) {r:Bool} (h:M_bj nZ0 lowZ0 highZ0=some r):Ok Tryz.prog 70 [.i nZ0,.i lowZ0,.i highZ0] ((fun r=>.b r) r):=by
 refine ok_of_body hmix m70 rfl ?_
 unfold M_bj at h
 simp only [ZC,A70,V70,body_eq]
 obtain ⟨cZ1,h⟩ | ⟨cZ1,h⟩:=cond_s h
 · cases h
   exact ZL cZ1 V70.eq_1
 · cases h
   exact ZL cZ1 V70.eq_1
def S_t (sZ0:ByteArray) (v:Int):St:=⟨[(0,.z sZ0),(7,.i (sZ0.size:Int)),(8,.i v)],[]⟩
def SX_t (sZ0:ByteArray) (v:Unit):St:=⟨[(0,.z sZ0)],[]⟩
theorem w_t (sZ0:ByteArray) (sZ1:Int) (o:Int ⊕ (Unit ⊕ Bool)) (h:M_t sZ0 sZ1=some o):AWP (OkS Tryz.prog) A97L2 (qL [0,7,8] [] (S_t sZ0) (qS (qX 0 [0] [] (SX_t sZ0)) (qR V97 (fun r=>.b r))) o) (S_t sZ0 sZ1):=by
 unfold M_t at h
 simp only [ZC,S_t,A97L2]
 obtain ⟨cZ2,h⟩ | ⟨cZ2,h⟩:=cond_s h
 · obtain ⟨oZ7,hoZ7,h⟩:=bind_s h
   try refine ZF cZ2 ?_
   refine join_rule0 (sh:=(fun v=>⟨[(0,.z sZ0),(3,.i sZ1),(4,.b v.1),(5,.b v.2),(7,.i (sZ0.size:Int)),(8,.i sZ1)],[]⟩)) (s:=oZ7) ?_ ?_
   · replace h:=hoZ7
     obtain ⟨yZ3,hyZ3,h⟩:=bind_s h
     obtain ⟨hyZ3a,hyZ3b⟩:=getz_s hyZ3
     obtain ⟨cZ4,h⟩ | ⟨cZ4,h⟩:=cond_s h
     · obtain ⟨cZ5,h⟩ | ⟨cZ5,h⟩:=cond_s h
       · cases h
         exact ZL (ZA cZ2 (ZA hyZ3a (ZA hyZ3b (ZA cZ4 cZ5)))) trivial
       · cases h
         exact ZL (ZA cZ2 (ZA hyZ3a (ZA hyZ3b (ZA cZ4 cZ5)))) trivial
     · obtain ⟨cZ6,h⟩ | ⟨cZ6,h⟩:=cond_s h
       · cases h
         exact ZL (ZA cZ2 (ZA hyZ3a (ZA hyZ3b (ZA cZ4 cZ6)))) trivial
       · cases h
         exact ZL (ZA cZ2 (ZA hyZ3a (ZA hyZ3b (ZA cZ4 cZ6)))) trivial
   · simp only [ZC,A97R1]
     obtain ⟨cZ8,h⟩ | ⟨cZ8,h⟩:=cond_s h
     · obtain ⟨cZ9,h⟩ | ⟨cZ9,h⟩:=cond_s h
       · cases h
         exact ZL (ZA cZ2 (ZA cZ8 cZ9)) V97.eq_1
       · obtain ⟨cZ10,h⟩ | ⟨cZ10,h⟩:=cond_s h
         · cases h
           exact ZL (ZA cZ2 (ZA cZ8 (ZA cZ9 cZ10))) V97.eq_1
         · cases h
           exact ZL (ZA cZ2 (ZA cZ8 (ZA cZ9 cZ10))) (ZA S_t.eq_1 SX_t.eq_1)
     · cases h
       exact ZL (ZA cZ2 cZ8) (ZA S_t.eq_1 SX_t.eq_1)
 · cases h
   exact ZL cZ2 (ZA S_t.eq_1 SX_t.eq_1)
theorem w_dd (sZ0:ByteArray) {r:Bool} (h:M_dd sZ0=some r):Ok Tryz.prog 97 [.z sZ0] ((fun r=>.b r) r):=by
 refine ok_of_body hmix m97 rfl ?_
 unfold M_dd at h
 simp only [ZC,A97,V97,body_eq]
 obtain ⟨oZ11,hoZ11,h⟩:=bind_s h
 try refine ZF trivial ?_
 refine join_rule (o:=oZ11) (blk_rule sideR (loop_rule (w_t sZ0) hoZ11 ?_)) (fun vZ12 hv=>?_) (fun xZ13 hv e τ hne hq=>?_)
 · exact ZK (ZA S_t.eq_1 SX_t.eq_1)
 · subst hv
   simp only [] at h
   simp only [ZC,SX_t,A97R3]
   obtain ⟨rZ14,hrZ14,h⟩:=bind_s h
   refine ZF trivial ?_
   refine ZS trivial (w_bj _ _ _ hrZ14) ?_
   refine ZG ?_
   cases h
   exact ZL trivial V97.eq_1
 · subst hv
   simp only [] at h
   obtain ⟨rfl,qZ15⟩:=hq
   cases h
   exact qZ15
def S_as (sZ0:List ByteArray) (vZ0:ByteArray) (v:Int):St:=⟨[(0,.lst .o 1 (sZ0.map AV.z)),(1,.z vZ0),(7,.i (sZ0.length:Int)),(8,.i v)],[]⟩
def SX_as (v:Unit):St:=⟨[],[]⟩
theorem w_as (sZ0:List ByteArray) (vZ0:ByteArray) (sZ1:Int) (o:Int ⊕ (Unit ⊕ Int)) (h:M_as sZ0 vZ0 sZ1=some o):AWP (OkS Tryz.prog) A135L1 (qL [0,1,7,8] [] (S_as sZ0 vZ0) (qS (qX 0 [] [] (SX_as)) (qR V135 (fun r=>.i r))) o) (S_as sZ0 vZ0 sZ1):=by
 unfold M_as at h
 simp only [ZC,S_as,A135L1]
 obtain ⟨cZ2,h⟩ | ⟨cZ2,h⟩:=cond_s h
 · obtain ⟨yZ3,hyZ3,h⟩:=bind_s h
   obtain ⟨hyZ3a,hyZ3b⟩:=geti_s hyZ3
   obtain ⟨cZ4,h⟩ | ⟨cZ4,h⟩:=cond_s h
   · cases h
     exact ZL (ZA cZ2 (ZA hyZ3a (ZA hyZ3b cZ4))) V135.eq_1
   · cases h
     exact ZL (ZA cZ2 (ZA hyZ3a (ZA hyZ3b cZ4))) (ZA S_as.eq_1 SX_as.eq_1)
 · cases h
   exact ZL cZ2 (ZA S_as.eq_1 SX_as.eq_1)
theorem w_el (sZ0:List ByteArray) (vZ0:ByteArray) {r:Int} (h:M_el sZ0 vZ0=some r):Ok Tryz.prog 135 [.lst .o 1 (sZ0.map AV.z),.z vZ0] ((fun r=>.i r) r):=by
 refine ok_of_body hmix m135 rfl ?_
 unfold M_el at h
 simp only [ZC,A135,V135,body_eq]
 obtain ⟨oZ5,hoZ5,h⟩:=bind_s h
 try refine ZF trivial ?_
 refine join_rule (o:=oZ5) (blk_rule sideR (loop_rule (w_as sZ0 vZ0) hoZ5 ?_)) (fun vZ6 hv=>?_) (fun xZ7 hv e τ hne hq=>?_)
 · exact ZK (ZA S_as.eq_1 SX_as.eq_1)
 · subst hv
   simp only [] at h
   simp only [ZC,SX_as,A135R2]
   cases h
   exact ZL trivial V135.eq_1
 · subst hv
   simp only [] at h
   obtain ⟨rfl,qZ8⟩:=hq
   cases h
   exact qZ8
theorem w_de (sZ0:List ByteArray) (vZ0:ByteArray) {r:Bool} (h:M_de sZ0 vZ0=some r):Ok Tryz.prog 98 [.lst .o 1 (sZ0.map AV.z),.z vZ0] ((fun r=>.b r) r):=by
 refine ok_of_body hmix m98 rfl ?_
 unfold M_de at h
 simp only [ZC,A98,V98,body_eq]
 obtain ⟨rZ1,hrZ1,h⟩:=bind_s h
 refine ZF trivial ?_
 refine ZS trivial (w_el _ _ hrZ1) ?_
 refine ZG ?_
 cases h
 exact ZL trivial V98.eq_1
theorem w_bs (xZ0:Int) {r:Bool} (h:M_bs xZ0=some r):Ok Tryz.prog 153 [.i xZ0] ((fun r=>.b r) r):=by
 refine ok_of_body hmix m153 rfl ?_
 unfold M_bs at h
 simp only [ZC,A153,V153,body_eq]
 cases h
 exact ZL trivial V153.eq_1
theorem w_bn (xZ0:Int) (yZ0:Int) {r:Int} (h:M_bn xZ0 yZ0=some r):Ok Tryz.prog 121 [.i xZ0,.i yZ0] ((fun r=>.i r) r):=by
 refine ok_of_body hmix m121 rfl ?_
 unfold M_bn at h
 simp only [ZC,A121,V121,body_eq]
 obtain ⟨rZ1,hrZ1,h⟩:=bind_s h
 refine ZF trivial ?_
 refine ZS trivial (w_bs _ hrZ1) ?_
 refine ZG ?_
 obtain ⟨rZ2,hrZ2,h⟩:=bind_s h
 refine ZF trivial ?_
 refine ZS trivial (w_bs _ hrZ2) ?_
 refine ZG ?_
 obtain ⟨cZ3,h⟩ | ⟨cZ3,h⟩:=cond_s h
 · obtain ⟨cZ4,h⟩ | ⟨cZ4,h⟩:=cond_s h
   · cases h
     exact ZL (ZA cZ3 cZ4) V121.eq_1
   · cases h
     exact ZL (ZA cZ3 cZ4) V121.eq_1
 · obtain ⟨cZ5,h⟩ | ⟨cZ5,h⟩:=cond_s h
   · cases h
     exact ZL (ZA cZ3 cZ5) V121.eq_1
   · obtain ⟨cZ6,h⟩ | ⟨cZ6,h⟩:=cond_s h
     · cases h
       exact ZL (ZA cZ3 (ZA cZ5 cZ6)) V121.eq_1
     · obtain ⟨cZ7,h⟩ | ⟨cZ7,h⟩:=cond_s h
       · cases h
         exact ZL (ZA cZ3 (ZA cZ5 (ZA cZ6 cZ7))) V121.eq_1
       · cases h
         exact ZL (ZA cZ3 (ZA cZ5 (ZA cZ6 cZ7))) V121.eq_1
def S_m (valsZ0:List Int) (v:Int):St:=⟨[(3,.i 0),(6,.lst .o 1 (valsZ0.map AV.i)),(7,.i (valsZ0.length:Int)),(8,.i v)],[]⟩
def SX_m (v:Unit):St:=⟨[(3,.i 0)],[]⟩
theorem w_m (valsZ0:List Int) (sZ1:Int) (o:Int ⊕ (Unit ⊕ Int)) (h:M_m valsZ0 sZ1=some o):AWP (OkS Tryz.prog) A120L1 (qL [3,6,7,8] [] (S_m valsZ0) (qS (qX 0 [3] [] (SX_m)) (qR V120 (fun r=>.i r))) o) (S_m valsZ0 sZ1):=by
 unfold M_m at h
 simp only [ZC,S_m,A120L1]
 obtain ⟨cZ2,h⟩ | ⟨cZ2,h⟩:=cond_s h
 · obtain ⟨yZ3,hyZ3,h⟩:=bind_s h
   obtain ⟨hyZ3a,hyZ3b⟩:=geti_s hyZ3
   obtain ⟨cZ4,h⟩ | ⟨cZ4,h⟩:=cond_s h
   · cases h
     exact ZL (ZA cZ2 (ZA hyZ3a (ZA hyZ3b cZ4))) V120.eq_1
   · cases h
     exact ZL (ZA cZ2 (ZA hyZ3a (ZA hyZ3b cZ4))) (ZA S_m.eq_1 SX_m.eq_1)
 · cases h
   exact ZL cZ2 (ZA S_m.eq_1 SX_m.eq_1)
theorem w_cb (valsZ0:List Int) {r:Int} (h:M_cb valsZ0=some r):Ok Tryz.prog 120 [.lst .o 1 (valsZ0.map AV.i)] ((fun r=>.i r) r):=by
 refine ok_of_body hmix m120 rfl ?_
 unfold M_cb at h
 simp only [ZC,A120,V120,body_eq]
 obtain ⟨oZ5,hoZ5,h⟩:=bind_s h
 try refine ZF trivial ?_
 refine join_rule (o:=oZ5) (blk_rule sideR (loop_rule (w_m valsZ0) hoZ5 ?_)) (fun vZ6 hv=>?_) (fun xZ7 hv e τ hne hq=>?_)
 · exact ZK (ZA S_m.eq_1 SX_m.eq_1)
 · subst hv
   simp only [] at h
   simp only [ZC,SX_m,A120R2]
   cases h
   exact ZL trivial V120.eq_1
 · subst hv
   simp only [] at h
   obtain ⟨rfl,qZ8⟩:=hq
   cases h
   exact qZ8
theorem w_df (aZ0:TFiber) (bZ0:TFiber) {r:Int} (h:M_df aZ0 bZ0=some r):Ok Tryz.prog 99 [.agg [.i aZ0.A,.i aZ0.B,.i aZ0.Length,.i aZ0.Risk],.agg [.i bZ0.A,.i bZ0.B,.i bZ0.Length,.i bZ0.Risk]] ((fun r=>.i r) r):=by
 refine ok_of_body hmix m99 rfl ?_
 unfold M_df at h
 simp only [ZC,A99,V99,body_eq]
 obtain ⟨rZ1,hrZ1,h⟩:=bind_s h
 refine ZF trivial ?_
 refine ZS trivial (w_bn _ _ hrZ1) ?_
 refine ZG ?_
 obtain ⟨rZ2,hrZ2,h⟩:=bind_s h
 refine ZF trivial ?_
 refine ZS trivial (w_bn _ _ hrZ2) ?_
 refine ZG ?_
 obtain ⟨rZ3,hrZ3,h⟩:=bind_s h
 refine ZF trivial ?_
 refine ZS trivial (w_bn _ _ hrZ3) ?_
 refine ZG ?_
 obtain ⟨rZ4,hrZ4,h⟩:=bind_s h
 refine ZF trivial ?_
 refine ZS trivial (w_bn _ _ hrZ4) ?_
 refine ZG ?_
 obtain ⟨lZ5,hlZ5,h⟩:=bnd_s h
 have eZ6:Row.arr 1 [(.i rZ1:AV),(.i rZ2:AV),(.i rZ3:AV),(.i rZ4:AV)]=Row.arr 1 (lZ5.map AV.i):=by rw [← hlZ5]; rfl
 have jjZ7:lZ5.length=4:=by rw [← hlZ5]; rfl
 have nZ8:sub (lZ5.map AV.i) 0 4=lZ5.map AV.i:=sub_n _ (by simp [← hlZ5])
 obtain ⟨rZ9,hrZ9,h⟩:=bind_s h
 refine ZF (ZA eZ6 (ZA jjZ7 nZ8)) ?_
 refine ZS (ZA eZ6 (ZA jjZ7 nZ8)) (w_cb _ hrZ9) ?_
 refine ZG ?_
 cases h
 exact ZL (ZA eZ6 (ZA jjZ7 nZ8)) (ZA V99.eq_1 (ZA hlZ5.symm jjZ7))
def S_at (nZ0:TNetwork) (v:Int):St:=⟨[(1,.pt 1 0 0),(8,.lst .o 1 (nZ0.Nodes.map AV.z)),(9,.i (nZ0.Nodes.length:Int)),(10,.i v)],[(1,.var (.agg [.lst .o 1 (nZ0.Nodes.map AV.z),.lst .o 4 (nZ0.Fibers.map (e_TFiber .o))]))]⟩
def SX_at (nZ0:TNetwork) (v:Unit):St:=⟨[(1,.pt 1 0 0)],[(1,.var (.agg [.lst .o 1 (nZ0.Nodes.map AV.z),.lst .o 4 (nZ0.Fibers.map (e_TFiber .o))]))]⟩
theorem w_at (nZ0:TNetwork) (sZ1:Int) (o:Int ⊕ (Unit ⊕ Bool)) (h:M_at nZ0 sZ1=some o):AWP (OkS Tryz.prog) A57L1 (qL [1,8,9,10] [1] (S_at nZ0) (qS (qX 0 [1] [1] (SX_at nZ0)) (qR V57 (fun r=>.b r))) o) (S_at nZ0 sZ1):=by
 unfold M_at at h
 simp only [ZC,S_at,A57L1]
 obtain ⟨cZ2,h⟩ | ⟨cZ2,h⟩:=cond_s h
 · obtain ⟨yZ3,hyZ3,h⟩:=bind_s h
   obtain ⟨hyZ3a,hyZ3b⟩:=geti_s hyZ3
   obtain ⟨rZ4,hrZ4,h⟩:=bind_s h
   refine ZF (ZA cZ2 (ZA hyZ3a hyZ3b)) ?_
   refine ZS (ZA cZ2 (ZA hyZ3a hyZ3b)) (w_dd _ hrZ4) ?_
   refine ZG ?_
   obtain ⟨cZ5,h⟩ | ⟨cZ5,h⟩:=cond_s h
   · cases h
     exact ZL (ZA cZ2 (ZA hyZ3a (ZA hyZ3b cZ5))) V57.eq_1
   · obtain ⟨lZ6,hlZ6,h⟩:=bind_s h
     obtain ⟨hlZ6a,hlZ6b,hlZ6c,hlZ6d,hlZ6e⟩:=slT_s AV.z hlZ6
     obtain ⟨rZ7,hrZ7,h⟩:=bind_s h
     refine ZF (ZA cZ2 (ZA hyZ3a (ZA hyZ3b (ZA cZ5 (ZA hlZ6a (ZA hlZ6b (ZA hlZ6c (ZA hlZ6d hlZ6e)))))))) ?_
     refine ZS (ZA cZ2 (ZA hyZ3a (ZA hyZ3b (ZA cZ5 (ZA hlZ6a (ZA hlZ6b (ZA hlZ6c (ZA hlZ6d hlZ6e)))))))) (w_de _ _ hrZ7) ?_
     refine ZG ?_
     obtain ⟨cZ8,h⟩ | ⟨cZ8,h⟩:=cond_s h
     · cases h
       exact ZL (ZA cZ2 (ZA hyZ3a (ZA hyZ3b (ZA cZ5 (ZA hlZ6a (ZA hlZ6b (ZA hlZ6c (ZA hlZ6d (ZA hlZ6e cZ8))))))))) V57.eq_1
     · cases h
       exact ZL (ZA cZ2 (ZA hyZ3a (ZA hyZ3b (ZA cZ5 (ZA hlZ6a (ZA hlZ6b (ZA hlZ6c (ZA hlZ6d (ZA hlZ6e cZ8))))))))) (ZA S_at.eq_1 SX_at.eq_1)
 · cases h
   exact ZL cZ2 (ZA S_at.eq_1 SX_at.eq_1)
def S_u (nZ0:TNetwork) (v:Int):St:=⟨[(1,.pt 1 0 0),(28,.lst .o 4 (nZ0.Fibers.map (e_TFiber .o))),(29,.i (nZ0.Fibers.length:Int)),(30,.i v)],[(1,.var (.agg [.lst .o 1 (nZ0.Nodes.map AV.z),.lst .o 4 (nZ0.Fibers.map (e_TFiber .o))]))]⟩
def SX_u (nZ0:TNetwork) (v:Unit):St:=⟨[(1,.pt 1 0 0)],[(1,.var (.agg [.lst .o 1 (nZ0.Nodes.map AV.z),.lst .o 4 (nZ0.Fibers.map (e_TFiber .o))]))]⟩
theorem w_u (nZ0:TNetwork) (sZ12:Int) (o:Int ⊕ (Unit ⊕ Bool)) (h:M_u nZ0 sZ12=some o):AWP (OkS Tryz.prog) A57L3 (qL [1,28,29,30] [1] (S_u nZ0) (qS (qX 2 [1] [1] (SX_u nZ0)) (qR V57 (fun r=>.b r))) o) (S_u nZ0 sZ12):=by
 unfold M_u at h
 simp only [ZC,S_u,A57L3]
 obtain ⟨cZ13,h⟩ | ⟨cZ13,h⟩:=cond_s h
 · obtain ⟨yZ14,hyZ14,h⟩:=bind_s h
   obtain ⟨hyZ14a,hyZ14b⟩:=geti_s hyZ14
   obtain ⟨cZ15,h⟩ | ⟨cZ15,h⟩:=cond_s h
   · cases h
     exact ZL (ZA cZ13 (ZA hyZ14a (ZA hyZ14b cZ15))) V57.eq_1
   · obtain ⟨cZ16,h⟩ | ⟨cZ16,h⟩:=cond_s h
     · cases h
       exact ZL (ZA cZ13 (ZA hyZ14a (ZA hyZ14b (ZA cZ15 cZ16)))) V57.eq_1
     · obtain ⟨cZ17,h⟩ | ⟨cZ17,h⟩:=cond_s h
       · cases h
         exact ZL (ZA cZ13 (ZA hyZ14a (ZA hyZ14b (ZA cZ15 (ZA cZ16 cZ17))))) V57.eq_1
       · obtain ⟨rZ18,hrZ18,h⟩:=bind_s h
         refine ZF (ZA cZ13 (ZA hyZ14a (ZA hyZ14b (ZA cZ15 (ZA cZ16 cZ17))))) ?_
         refine ZS (ZA cZ13 (ZA hyZ14a (ZA hyZ14b (ZA cZ15 (ZA cZ16 cZ17))))) (w_bj _ _ _ hrZ18) ?_
         refine ZG ?_
         obtain ⟨cZ19,h⟩ | ⟨cZ19,h⟩:=cond_s h
         · cases h
           exact ZL (ZA cZ13 (ZA hyZ14a (ZA hyZ14b (ZA cZ15 (ZA cZ16 (ZA cZ17 cZ19)))))) V57.eq_1
         · obtain ⟨rZ20,hrZ20,h⟩:=bind_s h
           refine ZF (ZA cZ13 (ZA hyZ14a (ZA hyZ14b (ZA cZ15 (ZA cZ16 (ZA cZ17 cZ19)))))) ?_
           refine ZS (ZA cZ13 (ZA hyZ14a (ZA hyZ14b (ZA cZ15 (ZA cZ16 (ZA cZ17 cZ19)))))) (w_bj _ _ _ hrZ20) ?_
           refine ZG ?_
           obtain ⟨cZ21,h⟩ | ⟨cZ21,h⟩:=cond_s h
           · cases h
             exact ZL (ZA cZ13 (ZA hyZ14a (ZA hyZ14b (ZA cZ15 (ZA cZ16 (ZA cZ17 (ZA cZ19 cZ21))))))) V57.eq_1
           · obtain ⟨cZ22,h⟩ | ⟨cZ22,h⟩:=cond_s h
             · obtain ⟨yZ23,hyZ23,h⟩:=bind_s h
               obtain ⟨hyZ23a,hyZ23b⟩:=geti_s hyZ23
               obtain ⟨rZ24,hrZ24,h⟩:=bind_s h
               refine ZF (ZA cZ13 (ZA hyZ14a (ZA hyZ14b (ZA cZ15 (ZA cZ16 (ZA cZ17 (ZA cZ19 (ZA cZ21 (ZA cZ22 (ZA hyZ23a hyZ23b)))))))))) ?_
               refine ZS (ZA cZ13 (ZA hyZ14a (ZA hyZ14b (ZA cZ15 (ZA cZ16 (ZA cZ17 (ZA cZ19 (ZA cZ21 (ZA cZ22 (ZA hyZ23a hyZ23b)))))))))) (w_df _ _ hrZ24) ?_
               refine ZG ?_
               obtain ⟨cZ25,h⟩ | ⟨cZ25,h⟩:=cond_s h
               · cases h
                 exact ZL (ZA cZ13 (ZA hyZ14a (ZA hyZ14b (ZA cZ15 (ZA cZ16 (ZA cZ17 (ZA cZ19 (ZA cZ21 (ZA cZ22 (ZA hyZ23a (ZA hyZ23b cZ25))))))))))) V57.eq_1
               · cases h
                 exact ZL (ZA cZ13 (ZA hyZ14a (ZA hyZ14b (ZA cZ15 (ZA cZ16 (ZA cZ17 (ZA cZ19 (ZA cZ21 (ZA cZ22 (ZA hyZ23a (ZA hyZ23b cZ25))))))))))) (ZA S_u.eq_1 SX_u.eq_1)
             · cases h
               exact ZL (ZA cZ13 (ZA hyZ14a (ZA hyZ14b (ZA cZ15 (ZA cZ16 (ZA cZ17 (ZA cZ19 (ZA cZ21 cZ22)))))))) (ZA S_u.eq_1 SX_u.eq_1)
 · cases h
   exact ZL cZ13 (ZA S_u.eq_1 SX_u.eq_1)
theorem w_bt (nZ0:TNetwork) {r:Bool} (h:M_bt nZ0=some r):Ok Tryz.prog 57 [.agg [.lst .o 1 (nZ0.Nodes.map AV.z),.lst .o 4 (nZ0.Fibers.map (e_TFiber .o))]] ((fun r=>.b r) r):=by
 refine ok_of_body hmix m57 rfl ?_
 unfold M_bt at h
 simp only [ZC,A57,V57,body_eq]
 obtain ⟨oZ9,hoZ9,h⟩:=bind_s h
 try refine ZF trivial ?_
 refine join_rule (o:=oZ9) (blk_rule sideR (loop_rule (w_at nZ0) hoZ9 ?_)) (fun vZ10 hv=>?_) (fun xZ11 hv e τ hne hq=>?_)
 · exact ZK (ZA S_at.eq_1 SX_at.eq_1)
 · subst hv
   simp only [] at h
   simp only [ZC,SX_at,A57R2]
   obtain ⟨oZ26,hoZ26,h⟩:=bind_s h
   try refine ZF trivial ?_
   refine join_rule (o:=oZ26) (blk_rule sideR (loop_rule (w_u nZ0) hoZ26 ?_)) (fun vZ27 hv=>?_) (fun xZ28 hv e τ hne hq=>?_)
   · exact ZK (ZA S_u.eq_1 SX_u.eq_1)
   · subst hv
     simp only [] at h
     simp only [ZC,SX_u,A57R4]
     obtain ⟨rZ29,hrZ29,h⟩:=bind_s h
     refine ZF trivial ?_
     refine ZS trivial (w_bj _ _ _ hrZ29) ?_
     refine ZG ?_
     obtain ⟨cZ30,h⟩ | ⟨cZ30,h⟩:=cond_s h
     · cases h
       exact ZL cZ30 V57.eq_1
     · cases h
       exact ZL cZ30 V57.eq_1
   · subst hv
     simp only [] at h
     obtain ⟨rfl,qZ31⟩:=hq
     cases h
     exact qZ31
 · subst hv
   simp only [] at h
   obtain ⟨rfl,qZ32⟩:=hq
   cases h
   exact qZ32
def S_au (sZ0:List Int) (vZ0:Int) (v:Int):St:=⟨[(0,.lst .o 1 (sZ0.map AV.i)),(1,.i vZ0),(7,.i (sZ0.length:Int)),(8,.i v)],[]⟩
def SX_au (v:Unit):St:=⟨[],[]⟩
theorem w_au (sZ0:List Int) (vZ0:Int) (sZ1:Int) (o:Int ⊕ (Unit ⊕ Int)) (h:M_au sZ0 vZ0 sZ1=some o):AWP (OkS Tryz.prog) A76L1 (qL [0,1,7,8] [] (S_au sZ0 vZ0) (qS (qX 0 [] [] (SX_au)) (qR V76 (fun r=>.i r))) o) (S_au sZ0 vZ0 sZ1):=by
 unfold M_au at h
 simp only [ZC,S_au,A76L1]
 obtain ⟨cZ2,h⟩ | ⟨cZ2,h⟩:=cond_s h
 · obtain ⟨yZ3,hyZ3,h⟩:=bind_s h
   obtain ⟨hyZ3a,hyZ3b⟩:=geti_s hyZ3
   obtain ⟨cZ4,h⟩ | ⟨cZ4,h⟩:=cond_s h
   · cases h
     exact ZL (ZA cZ2 (ZA hyZ3a (ZA hyZ3b cZ4))) V76.eq_1
   · cases h
     exact ZL (ZA cZ2 (ZA hyZ3a (ZA hyZ3b cZ4))) (ZA S_au.eq_1 SX_au.eq_1)
 · cases h
   exact ZL cZ2 (ZA S_au.eq_1 SX_au.eq_1)
theorem w_em (sZ0:List Int) (vZ0:Int) {r:Int} (h:M_em sZ0 vZ0=some r):Ok Tryz.prog 76 [.lst .o 1 (sZ0.map AV.i),.i vZ0] ((fun r=>.i r) r):=by
 refine ok_of_body hmix m76 rfl ?_
 unfold M_em at h
 simp only [ZC,A76,V76,body_eq]
 obtain ⟨oZ5,hoZ5,h⟩:=bind_s h
 try refine ZF trivial ?_
 refine join_rule (o:=oZ5) (blk_rule sideR (loop_rule (w_au sZ0 vZ0) hoZ5 ?_)) (fun vZ6 hv=>?_) (fun xZ7 hv e τ hne hq=>?_)
 · exact ZK (ZA S_au.eq_1 SX_au.eq_1)
 · subst hv
   simp only [] at h
   simp only [ZC,SX_au,A76R2]
   cases h
   exact ZL trivial V76.eq_1
 · subst hv
   simp only [] at h
   obtain ⟨rfl,qZ8⟩:=hq
   cases h
   exact qZ8
theorem w_ae (sZ0:List Int) (vZ0:Int) {r:Bool} (h:M_ae sZ0 vZ0=some r):Ok Tryz.prog 79 [.lst .o 1 (sZ0.map AV.i),.i vZ0] ((fun r=>.b r) r):=by
 refine ok_of_body hmix m79 rfl ?_
 unfold M_ae at h
 simp only [ZC,A79,V79,body_eq]
 obtain ⟨rZ1,hrZ1,h⟩:=bind_s h
 refine ZF trivial ?_
 refine ZS trivial (w_em _ _ hrZ1) ?_
 refine ZG ?_
 cases h
 exact ZL trivial V79.eq_1
def S_af (nZ0:TNetwork) (goneZ0:List Int) (v:Int×List Int):St:=⟨[(1,.lst .o 1 (goneZ0.map AV.i)),(2,.pt 2 0 0),(5,.sl 5 0 v.2.length),(13,.i (nZ0.Nodes.length:Int)),(14,.i v.1)],[(2,.var (.agg [.lst .o 1 (nZ0.Nodes.map AV.z),.lst .o 4 (nZ0.Fibers.map (e_TFiber .o))])),(5,.arr 1 (v.2.map AV.i))]⟩
def SX_af (nZ0:TNetwork) (goneZ0:List Int) (v:List Int):St:=⟨[(1,.lst .o 1 (goneZ0.map AV.i)),(2,.pt 2 0 0),(5,.sl 5 0 v.length)],[(2,.var (.agg [.lst .o 1 (nZ0.Nodes.map AV.z),.lst .o 4 (nZ0.Fibers.map (e_TFiber .o))])),(5,.arr 1 (v.map AV.i))]⟩
theorem w_af (nZ0:TNetwork) (goneZ0:List Int) (sZ1:Int×List Int) (o:(Int×List Int) ⊕ (List Int)) (h:M_af nZ0 sZ1=some o):AWP (OkS Tryz.prog) A58L1 (qL [1,2,5,13,14] [2,5] (S_af nZ0 goneZ0) (qX 0 [1,2,5] [2,5] (SX_af nZ0 goneZ0)) o) (S_af nZ0 goneZ0 sZ1):=by
 unfold M_af at h
 simp only [ZC,S_af,A58L1]
 obtain ⟨cZ2,h⟩ | ⟨cZ2,h⟩:=cond_s h
 · obtain ⟨lZ3,hlZ3,h⟩:=bnd_s h
   have eZ4:Row.arr 1 [(.i sZ1.1:AV)]=Row.arr 1 (lZ3.map AV.i):=by rw [← hlZ3]; rfl
   have jjZ5:lZ3.length=1:=by rw [← hlZ3]; rfl
   obtain ⟨uZ6,huZ6,h⟩:=bind_s h
   have huZ6g:=grd_s huZ6
   obtain ⟨lZ7,hlZ7,h⟩:=bnd_s h
   have eZ8:sZ1.2.map AV.i++lZ3.map AV.i=lZ7.map AV.i:=by rw [← hlZ7,List.map_append]
   have eZ9:sZ1.2.length+1=lZ7.length:=by simp [← hlZ3,← hlZ7] <;> omega
   rw [eZ9] at huZ6g
   cases h
   exact ZL (ZA cZ2 (ZA eZ4 (ZA jjZ5 (ZA huZ6g (ZA eZ8 eZ9))))) (ZA S_af.eq_1 (ZA SX_af.eq_1 (ZA hlZ3.symm (ZA hlZ7.symm jjZ5))))
 · cases h
   exact ZL cZ2 (ZA S_af.eq_1 SX_af.eq_1)
def S_f (nZ0:TNetwork) (goneZ0:List Int) (sZ11:Int×List Int) (v:Int×List Int):St:=⟨[(1,.lst .o 1 (goneZ0.map AV.i)),(2,.pt 2 0 0),(5,.sl 5 0 v.2.length),(24,.i (nZ0.Nodes.length:Int)),(25,.i sZ11.1),(28,.lst .o 4 (nZ0.Fibers.map (e_TFiber .o))),(29,.i (nZ0.Fibers.length:Int)),(30,.i v.1)],[(2,.var (.agg [.lst .o 1 (nZ0.Nodes.map AV.z),.lst .o 4 (nZ0.Fibers.map (e_TFiber .o))])),(5,.arr 1 (v.2.map AV.i))]⟩
def SX_f (nZ0:TNetwork) (goneZ0:List Int) (sZ11:Int×List Int) (v:List Int):St:=⟨[(1,.lst .o 1 (goneZ0.map AV.i)),(2,.pt 2 0 0),(5,.sl 5 0 v.length),(24,.i (nZ0.Nodes.length:Int)),(25,.i sZ11.1)],[(2,.var (.agg [.lst .o 1 (nZ0.Nodes.map AV.z),.lst .o 4 (nZ0.Fibers.map (e_TFiber .o))])),(5,.arr 1 (v.map AV.i))]⟩
theorem w_f (nZ0:TNetwork) (goneZ0:List Int) (sZ11:Int×List Int) (sZ13:Int×List Int) (o:(Int×List Int) ⊕ (List Int)) (h:M_f nZ0 goneZ0 sZ13=some o):AWP (OkS Tryz.prog) A58L3 (qL [1,2,5,24,25,28,29,30] [2,5] (S_f nZ0 goneZ0 sZ11) (qX 4 [1,2,5,24,25] [2,5] (SX_f nZ0 goneZ0 sZ11)) o) (S_f nZ0 goneZ0 sZ11 sZ13):=by
 unfold M_f at h
 simp only [ZC,S_f,A58L3]
 obtain ⟨cZ14,h⟩ | ⟨cZ14,h⟩:=cond_s h
 · obtain ⟨yZ15,hyZ15,h⟩:=bind_s h
   obtain ⟨hyZ15a,hyZ15b⟩:=geti_s hyZ15
   obtain ⟨rZ16,hrZ16,h⟩:=bind_s h
   refine ZF (ZA cZ14 (ZA hyZ15a hyZ15b)) ?_
   refine ZS (ZA cZ14 (ZA hyZ15a hyZ15b)) (w_ae _ _ hrZ16) ?_
   refine ZG ?_
   obtain ⟨cZ17,h⟩ | ⟨cZ17,h⟩:=cond_s h
   · obtain ⟨kZ18,hkZ18,h⟩:=bind_s h
     obtain ⟨hkZ18a,hkZ18b⟩:=grd_s hkZ18
     obtain ⟨yZ19,hyZ19,h⟩:=bind_s h
     obtain ⟨kZ20,hkZ20,h⟩:=bind_s h
     obtain ⟨hkZ20a,hkZ20b⟩:=grd_s hkZ20
     obtain ⟨yZ21,hyZ21,h⟩:=bind_s h
     obtain ⟨lZ22,hlZ22,h⟩:=bnd_s h
     have eZ23:(sZ13.2.map AV.i).set (Int.toNat yZ15.A) (.i (if yZ21 < yZ19 then yZ21 else yZ19))=lZ22.map AV.i:=by rw [← hlZ22,List.map_set]
     obtain ⟨yZ24,hyZ24,h⟩:=bind_s h
     obtain ⟨lZ25,hlZ25,h⟩:=bnd_s h
     have eZ26:(lZ22.map AV.i).set (Int.toNat yZ15.B) (.i (if yZ21 < yZ19 then yZ21 else yZ19))=lZ25.map AV.i:=by rw [← hlZ25,List.map_set]
     cases h
     exact ZL (ZA cZ14 (ZA hyZ15a (ZA hyZ15b (ZA cZ17 (ZA hkZ18a (ZA hkZ18b (ZA hyZ19 (ZA hkZ20a (ZA hkZ20b (ZA hyZ21 (ZA eZ23 (ZA hyZ24 eZ26)))))))))))) (ZA S_f.eq_1 (ZA SX_f.eq_1 (ZA hlZ22.symm hlZ25.symm)))
   · cases h
     exact ZL (ZA cZ14 (ZA hyZ15a (ZA hyZ15b cZ17))) (ZA S_f.eq_1 SX_f.eq_1)
 · cases h
   exact ZL cZ14 (ZA S_f.eq_1 SX_f.eq_1)
def S_ag (nZ0:TNetwork) (goneZ0:List Int) (v:Int×List Int):St:=⟨[(1,.lst .o 1 (goneZ0.map AV.i)),(2,.pt 2 0 0),(5,.sl 5 0 v.2.length),(24,.i (nZ0.Nodes.length:Int)),(25,.i v.1)],[(2,.var (.agg [.lst .o 1 (nZ0.Nodes.map AV.z),.lst .o 4 (nZ0.Fibers.map (e_TFiber .o))])),(5,.arr 1 (v.2.map AV.i))]⟩
def SX_ag (v:List Int):St:=⟨[(5,.sl 5 0 v.length)],[(5,.arr 1 (v.map AV.i))]⟩
theorem w_ag (nZ0:TNetwork) (goneZ0:List Int) (sZ11:Int×List Int) (o:(Int×List Int) ⊕ (List Int)) (h:M_ag nZ0 goneZ0 sZ11=some o):AWP (OkS Tryz.prog) A58L5 (qL [1,2,5,24,25] [2,5] (S_ag nZ0 goneZ0) (qX 2 [5] [5] (SX_ag)) o) (S_ag nZ0 goneZ0 sZ11):=by
 unfold M_ag at h
 simp only [ZC,S_ag,A58L5]
 obtain ⟨cZ12,h⟩ | ⟨cZ12,h⟩:=cond_s h
 · obtain ⟨oZ29,hoZ29,h⟩:=bind_s h
   try refine ZF cZ12 ?_
   refine join_rule0 (sh:=(fun v=>⟨[(1,.lst .o 1 (goneZ0.map AV.i)),(2,.pt 2 0 0),(5,.sl 5 0 v.length),(24,.i (nZ0.Nodes.length:Int)),(25,.i sZ11.1)],[(2,.var (.agg [.lst .o 1 (nZ0.Nodes.map AV.z),.lst .o 4 (nZ0.Fibers.map (e_TFiber .o))])),(5,.arr 1 (v.map AV.i))]⟩)) (s:=oZ29) ?_ ?_
   · replace h:=hoZ29
     obtain ⟨oZ27,hoZ27,h⟩:=bind_s h
     try refine ZF cZ12 ?_
     first | refine tail_rule0 (blk_rule0 (loop_rule (w_f nZ0 goneZ0 sZ11) hoZ27 ?_)) (fun τ qZ28=>?_) | refine tail_blk0 (loop_rule (w_f nZ0 goneZ0 sZ11) hoZ27 ?_) (fun τ qZ28=>?_)
     · exact ZK (ZA S_f.eq_1 SX_f.eq_1)
     · cases h
       try refine ZF trivial ?_
       refine ⟨rfl,Shp.sub qZ28 (by decide) (by decide) ?_⟩
       exact ZK SX_f.eq_1
   · simp only [ZC,A58R4]
     cases h
     exact ZL cZ12 (ZA S_ag.eq_1 SX_ag.eq_1)
 · cases h
   exact ZL cZ12 (ZA S_ag.eq_1 SX_ag.eq_1)
theorem w_bp (nZ0:TNetwork) (goneZ0:List Int) {r:List Int} (h:M_bp nZ0 goneZ0=some r):Ok Tryz.prog 58 [.agg [.lst .o 1 (nZ0.Nodes.map AV.z),.lst .o 4 (nZ0.Fibers.map (e_TFiber .o))],.lst .o 1 (goneZ0.map AV.i)] ((fun r=>.lst .u 1 (r.map AV.i)) r):=by
 refine ok_of_body hmix m58 rfl ?_
 unfold M_bp at h
 simp only [ZC,A58,V58,body_eq]
 obtain ⟨oZ10,hoZ10,h⟩:=bind_s h
 try refine ZF trivial ?_
 refine join_rule0 (blk_rule0 (loop_rule (w_af nZ0 goneZ0) hoZ10 ?_)) ?_
 · exact ZK (ZA S_af.eq_1 SX_af.eq_1)
 · simp only [ZC,SX_af,A58R2]
   obtain ⟨oZ30,hoZ30,h⟩:=bind_s h
   try refine ZF trivial ?_
   refine join_rule0 (blk_rule0 (loop_rule (w_ag nZ0 goneZ0) hoZ30 ?_)) ?_
   · exact ZK (ZA S_ag.eq_1 SX_ag.eq_1)
   · simp only [ZC,SX_ag,A58R6]
     cases h
     exact ZL trivial V58.eq_1
def S_i (nZ0:TNetwork) (v:Int×List Int):St:=⟨[(1,.pt 1 0 0),(4,.sl 4 0 v.2.length),(13,.lst .o 4 (nZ0.Fibers.map (e_TFiber .o))),(14,.i (nZ0.Fibers.length:Int)),(15,.i v.1)],[(1,.var (.agg [.lst .o 1 (nZ0.Nodes.map AV.z),.lst .o 4 (nZ0.Fibers.map (e_TFiber .o))])),(4,.arr 1 (v.2.map AV.i))]⟩
def SX_i (v:List Int):St:=⟨[(4,.sl 4 0 v.length)],[(4,.arr 1 (v.map AV.i))]⟩
theorem w_i (nZ0:TNetwork) (sZ3:Int×List Int) (o:(Int×List Int) ⊕ (List Int)) (h:M_i nZ0 sZ3=some o):AWP (OkS Tryz.prog) A24L1 (qL [1,4,13,14,15] [1,4] (S_i nZ0) (qX 0 [4] [4] (SX_i)) o) (S_i nZ0 sZ3):=by
 unfold M_i at h
 simp only [ZC,S_i,A24L1]
 obtain ⟨cZ4,h⟩ | ⟨cZ4,h⟩:=cond_s h
 · obtain ⟨yZ5,hyZ5,h⟩:=bind_s h
   obtain ⟨hyZ5a,hyZ5b⟩:=geti_s hyZ5
   obtain ⟨lZ6,hlZ6,h⟩:=bnd_s h
   have eZ7:Row.arr 1 [(.i sZ3.1:AV)]=Row.arr 1 (lZ6.map AV.i):=by rw [← hlZ6]; rfl
   have jjZ8:lZ6.length=1:=by rw [← hlZ6]; rfl
   have nZ9:sub (lZ6.map AV.i) 0 1=lZ6.map AV.i:=sub_n _ (by simp [← hlZ6])
   obtain ⟨rZ10,hrZ10,h⟩:=bind_s h
   refine ZF (ZA cZ4 (ZA hyZ5a (ZA hyZ5b (ZA eZ7 (ZA jjZ8 nZ9))))) ?_
   refine ZU (ZA cZ4 (ZA hyZ5a (ZA hyZ5b (ZA eZ7 (ZA jjZ8 nZ9))))) (w_bp _ _ hrZ10) ?_
   refine ZG ?_
   obtain ⟨kZ11,hkZ11,h⟩:=bind_s h
   obtain ⟨hkZ11a,hkZ11b⟩:=grd_s hkZ11
   obtain ⟨yZ12,hyZ12,h⟩:=bind_s h
   obtain ⟨kZ13,hkZ13,h⟩:=bind_s h
   obtain ⟨hkZ13a,hkZ13b⟩:=grd_s hkZ13
   obtain ⟨yZ14,hyZ14,h⟩:=bind_s h
   obtain ⟨cZ15,h⟩ | ⟨cZ15,h⟩:=cond_s h
   · obtain ⟨lZ16,hlZ16,h⟩:=bnd_s h
     have eZ17:Row.arr 1 [(.i sZ3.1:AV)]=Row.arr 1 (lZ16.map AV.i):=by rw [← hlZ16]; rfl
     have jjZ18:lZ16.length=1:=by rw [← hlZ16]; rfl
     obtain ⟨uZ19,huZ19,h⟩:=bind_s h
     have huZ19g:=grd_s huZ19
     obtain ⟨lZ20,hlZ20,h⟩:=bnd_s h
     have eZ21:sZ3.2.map AV.i++lZ16.map AV.i=lZ20.map AV.i:=by rw [← hlZ20,List.map_append]
     have eZ22:sZ3.2.length+1=lZ20.length:=by simp [← hlZ6,← hlZ16,← hlZ20] <;> omega
     rw [eZ22] at huZ19g
     cases h
     exact ZL (ZA cZ4 (ZA hyZ5a (ZA hyZ5b (ZA eZ7 (ZA jjZ8 (ZA nZ9 (ZA hkZ11a (ZA hkZ11b (ZA hyZ12 (ZA hkZ13a (ZA hkZ13b (ZA hyZ14 (ZA cZ15 (ZA eZ17 (ZA jjZ18 (ZA huZ19g (ZA eZ21 eZ22))))))))))))))))) (ZA S_i.eq_1 (ZA SX_i.eq_1 (ZA hlZ6.symm (ZA hlZ16.symm (ZA hlZ20.symm (ZA jjZ8 jjZ18))))))
   · cases h
     exact ZL (ZA cZ4 (ZA hyZ5a (ZA hyZ5b (ZA eZ7 (ZA jjZ8 (ZA nZ9 (ZA hkZ11a (ZA hkZ11b (ZA hyZ12 (ZA hkZ13a (ZA hkZ13b (ZA hyZ14 cZ15)))))))))))) (ZA S_i.eq_1 (ZA SX_i.eq_1 (ZA hlZ6.symm jjZ8)))
 · cases h
   exact ZL cZ4 (ZA S_i.eq_1 SX_i.eq_1)
theorem w_cn (nZ0:TNetwork) {r:List Int×Bool} (h:M_cn nZ0=some r):Ok Tryz.prog 24 [.agg [.lst .o 1 (nZ0.Nodes.map AV.z),.lst .o 4 (nZ0.Fibers.map (e_TFiber .o))]] ((fun r=>.tup [.lst .u 1 (r.1.map AV.i),.b r.2]) r):=by
 refine ok_of_body hmix m24 rfl ?_
 unfold M_cn at h
 simp only [ZC,A24,V24,body_eq]
 obtain ⟨rZ1,hrZ1,h⟩:=bind_s h
 refine ZF trivial ?_
 refine ZS trivial (w_bt _ hrZ1) ?_
 refine ZG ?_
 obtain ⟨cZ2,h⟩ | ⟨cZ2,h⟩:=cond_s h
 · cases h
   exact ZL cZ2 V24.eq_1
 · obtain ⟨oZ23,hoZ23,h⟩:=bind_s h
   try refine ZF cZ2 ?_
   refine join_rule0 (blk_rule0 (loop_rule (w_i nZ0) hoZ23 ?_)) ?_
   · exact ZK (ZA S_i.eq_1 SX_i.eq_1)
   · simp only [ZC,SX_i,A24R2]
     cases h
     exact ZL cZ2 V24.eq_1
theorem w_bm (xZ0:Int) (aZ0:Int) (bZ0:Int) {r:Bool} (h:M_bm xZ0 aZ0 bZ0=some r):Ok Tryz.prog 72 [.i xZ0,.i aZ0,.i bZ0] ((fun r=>.b r) r):=by
 refine ok_of_body hmix m72 rfl ?_
 unfold M_bm at h
 simp only [ZC,A72,V72,body_eq]
 obtain ⟨cZ1,h⟩ | ⟨cZ1,h⟩:=cond_s h
 · cases h
   exact ZL cZ1 V72.eq_1
 · cases h
   exact ZL cZ1 V72.eq_1
theorem w_dg (bZ0:Int) {r:Bool} (h:M_dg bZ0=some r):Ok Tryz.prog 136 [.sc (.int .u8 bZ0)] ((fun r=>.b r) r):=by
 refine ok_of_body hmix m136 rfl ?_
 unfold M_dg at h
 simp only [ZC,A136,V136,body_eq]
 obtain ⟨cZ1,h⟩ | ⟨cZ1,h⟩:=cond_s h
 · obtain ⟨cZ2,h⟩ | ⟨cZ2,h⟩:=cond_s h
   · cases h
     exact ZL (ZA cZ1 cZ2) V136.eq_1
   · obtain ⟨cZ3,h⟩ | ⟨cZ3,h⟩:=cond_s h
     · cases h
       exact ZL (ZA cZ1 (ZA cZ2 cZ3)) V136.eq_1
     · cases h
       exact ZL (ZA cZ1 (ZA cZ2 cZ3)) V136.eq_1
 · obtain ⟨cZ4,h⟩ | ⟨cZ4,h⟩:=cond_s h
   · cases h
     exact ZL (ZA cZ1 cZ4) V136.eq_1
   · cases h
     exact ZL (ZA cZ1 cZ4) V136.eq_1
def S_av (sZ0:ByteArray) (v:Int):St:=⟨[(0,.z sZ0),(3,.i v)],[]⟩
def SX_av (v:Unit):St:=⟨[],[]⟩
theorem w_av (sZ0:ByteArray) (sZ7:Int) (o:Int ⊕ (Unit ⊕ Bool)) (h:M_av sZ0 sZ7=some o):AWP (OkS Tryz.prog) A100L2 (qL [0,3] [] (S_av sZ0) (qS (qX 0 [] [] (SX_av)) (qR V100 (fun r=>.b r))) o) (S_av sZ0 sZ7):=by
 unfold M_av at h
 simp only [ZC,S_av,A100L2]
 obtain ⟨cZ8,h⟩ | ⟨cZ8,h⟩:=cond_s h
 · obtain ⟨yZ9,hyZ9,h⟩:=bind_s h
   obtain ⟨hyZ9a,hyZ9b⟩:=getz_s hyZ9
   obtain ⟨rZ10,hrZ10,h⟩:=bind_s h
   refine ZF (ZA cZ8 (ZA hyZ9a hyZ9b)) ?_
   refine ZS (ZA cZ8 (ZA hyZ9a hyZ9b)) (w_dg _ hrZ10) ?_
   refine ZG ?_
   obtain ⟨cZ11,h⟩ | ⟨cZ11,h⟩:=cond_s h
   · cases h
     exact ZL (ZA cZ8 (ZA hyZ9a (ZA hyZ9b cZ11))) V100.eq_1
   · cases h
     exact ZL (ZA cZ8 (ZA hyZ9a (ZA hyZ9b cZ11))) (ZA S_av.eq_1 SX_av.eq_1)
 · cases h
   exact ZL cZ8 (ZA S_av.eq_1 SX_av.eq_1)
theorem w_dh (sZ0:ByteArray) {r:Bool} (h:M_dh sZ0=some r):Ok Tryz.prog 100 [.z sZ0] ((fun r=>.b r) r):=by
 refine ok_of_body hmix m100 rfl ?_
 unfold M_dh at h
 simp only [ZC,A100,V100,body_eq]
 obtain ⟨oZ5,hoZ5,h⟩:=bind_s h
 try refine ZF trivial ?_
 refine join_rule0 (sh:=(fun v=>⟨[(0,.z sZ0),(17,.b v)],[]⟩)) (s:=oZ5) ?_ ?_
 · replace h:=hoZ5
   obtain ⟨rZ1,hrZ1,h⟩:=bind_s h
   refine ZF trivial ?_
   refine ZS trivial (w_bm _ _ _ hrZ1) ?_
   refine ZG ?_
   obtain ⟨cZ2,h⟩ | ⟨cZ2,h⟩:=cond_s h
   · cases h
     exact ZL cZ2 trivial
   · obtain ⟨yZ3,hyZ3,h⟩:=bind_s h
     obtain ⟨hyZ3a,hyZ3b⟩:=getz_s hyZ3
     obtain ⟨cZ4,h⟩ | ⟨cZ4,h⟩:=cond_s h
     · cases h
       exact ZL (ZA cZ2 (ZA hyZ3a (ZA hyZ3b cZ4))) trivial
     · cases h
       exact ZL (ZA cZ2 (ZA hyZ3a (ZA hyZ3b cZ4))) trivial
 · simp only [ZC,A100R1]
   obtain ⟨cZ6,h⟩ | ⟨cZ6,h⟩:=cond_s h
   · cases h
     exact ZL cZ6 V100.eq_1
   · obtain ⟨oZ12,hoZ12,h⟩:=bind_s h
     try refine ZF cZ6 ?_
     refine join_rule (o:=oZ12) (blk_rule sideR (loop_rule (w_av sZ0) hoZ12 ?_)) (fun vZ13 hv=>?_) (fun xZ14 hv e τ hne hq=>?_)
     · exact ZK (ZA S_av.eq_1 SX_av.eq_1)
     · subst hv
       simp only [] at h
       simp only [ZC,SX_av,A100R3]
       cases h
       exact ZL cZ6 V100.eq_1
     · subst hv
       simp only [] at h
       obtain ⟨rfl,qZ15⟩:=hq
       cases h
       exact qZ15
def S_aw (listZ0:List ByteArray) (nameZ0:ByteArray) (v:Int):St:=⟨[(0,.lst .o 1 (listZ0.map AV.z)),(1,.z nameZ0),(5,.i v)],[]⟩
def SX_aw (v:Unit):St:=⟨[],[]⟩
theorem w_aw (listZ0:List ByteArray) (nameZ0:ByteArray) (sZ1:Int) (o:Int ⊕ (Unit ⊕ Int)) (h:M_aw listZ0 nameZ0 sZ1=some o):AWP (OkS Tryz.prog) A101L1 (qL [0,1,5] [] (S_aw listZ0 nameZ0) (qS (qX 0 [] [] (SX_aw)) (qR V101 (fun r=>.i r))) o) (S_aw listZ0 nameZ0 sZ1):=by
 unfold M_aw at h
 simp only [ZC,S_aw,A101L1]
 obtain ⟨cZ2,h⟩ | ⟨cZ2,h⟩:=cond_s h
 · obtain ⟨yZ3,hyZ3,h⟩:=bind_s h
   obtain ⟨hyZ3a,hyZ3b⟩:=geti_s hyZ3
   obtain ⟨cZ4,h⟩ | ⟨cZ4,h⟩:=cond_s h
   · cases h
     exact ZL (ZA cZ2 (ZA hyZ3a (ZA hyZ3b cZ4))) V101.eq_1
   · cases h
     exact ZL (ZA cZ2 (ZA hyZ3a (ZA hyZ3b cZ4))) (ZA S_aw.eq_1 SX_aw.eq_1)
 · cases h
   exact ZL cZ2 (ZA S_aw.eq_1 SX_aw.eq_1)
theorem w_di (listZ0:List ByteArray) (nameZ0:ByteArray) {r:Int} (h:M_di listZ0 nameZ0=some r):Ok Tryz.prog 101 [.lst .o 1 (listZ0.map AV.z),.z nameZ0] ((fun r=>.i r) r):=by
 refine ok_of_body hmix m101 rfl ?_
 unfold M_di at h
 simp only [ZC,A101,V101,body_eq]
 obtain ⟨oZ5,hoZ5,h⟩:=bind_s h
 try refine ZF trivial ?_
 refine join_rule (o:=oZ5) (blk_rule sideR (loop_rule (w_aw listZ0 nameZ0) hoZ5 ?_)) (fun vZ6 hv=>?_) (fun xZ7 hv e τ hne hq=>?_)
 · exact ZK (ZA S_aw.eq_1 SX_aw.eq_1)
 · subst hv
   simp only [] at h
   simp only [ZC,SX_aw,A101R2]
   cases h
   exact ZL trivial V101.eq_1
 · subst hv
   simp only [] at h
   obtain ⟨rfl,qZ8⟩:=hq
   cases h
   exact qZ8
theorem w_dj (fZ0:TFiber) (nodesZ0:Int) {r:Bool} (h:M_dj fZ0 nodesZ0=some r):Ok Tryz.prog 102 [.agg [.i fZ0.A,.i fZ0.B,.i fZ0.Length,.i fZ0.Risk],.i nodesZ0] ((fun r=>.b r) r):=by
 refine ok_of_body hmix m102 rfl ?_
 unfold M_dj at h
 simp only [ZC,A102,V102,body_eq]
 obtain ⟨rZ1,hrZ1,h⟩:=bind_s h
 refine ZF trivial ?_
 refine ZS trivial (w_bm _ _ _ hrZ1) ?_
 refine ZG ?_
 obtain ⟨cZ2,h⟩ | ⟨cZ2,h⟩:=cond_s h
 · obtain ⟨rZ3,hrZ3,h⟩:=bind_s h
   refine ZF cZ2 ?_
   refine ZS cZ2 (w_bm _ _ _ hrZ3) ?_
   refine ZG ?_
   obtain ⟨cZ4,h⟩ | ⟨cZ4,h⟩:=cond_s h
   · obtain ⟨rZ5,hrZ5,h⟩:=bind_s h
     refine ZF (ZA cZ2 cZ4) ?_
     refine ZS (ZA cZ2 cZ4) (w_bm _ _ _ hrZ5) ?_
     refine ZG ?_
     obtain ⟨cZ6,h⟩ | ⟨cZ6,h⟩:=cond_s h
     · obtain ⟨rZ7,hrZ7,h⟩:=bind_s h
       refine ZF (ZA cZ2 (ZA cZ4 cZ6)) ?_
       refine ZS (ZA cZ2 (ZA cZ4 cZ6)) (w_bm _ _ _ hrZ7) ?_
       refine ZG ?_
       cases h
       exact ZL (ZA cZ2 (ZA cZ4 cZ6)) V102.eq_1
     · cases h
       exact ZL (ZA cZ2 (ZA cZ4 cZ6)) V102.eq_1
   · cases h
     exact ZL (ZA cZ2 cZ4) V102.eq_1
 · cases h
   exact ZL cZ2 V102.eq_1
def S_ax (nZ0:TNetwork) (v:Int):St:=⟨[(1,.pt 1 0 0),(3,.i v)],[(1,.var (.agg [.lst .o 1 (nZ0.Nodes.map AV.z),.lst .o 4 (nZ0.Fibers.map (e_TFiber .o))]))]⟩
def SX_ax (nZ0:TNetwork) (v:Unit):St:=⟨[(1,.pt 1 0 0)],[(1,.var (.agg [.lst .o 1 (nZ0.Nodes.map AV.z),.lst .o 4 (nZ0.Fibers.map (e_TFiber .o))]))]⟩
theorem w_ax (nZ0:TNetwork) (sZ5:Int) (o:Int ⊕ (Unit ⊕ Bool)) (h:M_ax nZ0 sZ5=some o):AWP (OkS Tryz.prog) A59L3 (qL [1,3] [1] (S_ax nZ0) (qS (qX 0 [1] [1] (SX_ax nZ0)) (qR V59 (fun r=>.b r))) o) (S_ax nZ0 sZ5):=by
 unfold M_ax at h
 simp only [ZC,S_ax,A59L3]
 obtain ⟨cZ6,h⟩ | ⟨cZ6,h⟩:=cond_s h
 · obtain ⟨oZ11,hoZ11,h⟩:=bind_s h
   try refine ZF cZ6 ?_
   refine join_rule0 (sh:=(fun v=>⟨[(1,.pt 1 0 0),(3,.i sZ5),(41,.b v)],[(1,.var (.agg [.lst .o 1 (nZ0.Nodes.map AV.z),.lst .o 4 (nZ0.Fibers.map (e_TFiber .o))]))]⟩)) (s:=oZ11) ?_ ?_
   · replace h:=hoZ11
     obtain ⟨yZ7,hyZ7,h⟩:=bind_s h
     obtain ⟨hyZ7a,hyZ7b⟩:=geti_s hyZ7
     obtain ⟨rZ8,hrZ8,h⟩:=bind_s h
     refine ZF (ZA cZ6 (ZA hyZ7a hyZ7b)) ?_
     refine ZS (ZA cZ6 (ZA hyZ7a hyZ7b)) (w_dh _ hrZ8) ?_
     refine ZG ?_
     obtain ⟨cZ9,h⟩ | ⟨cZ9,h⟩:=cond_s h
     · cases h
       exact ZL (ZA cZ6 (ZA hyZ7a (ZA hyZ7b cZ9))) trivial
     · obtain ⟨rZ10,hrZ10,h⟩:=bind_s h
       refine ZF (ZA cZ6 (ZA hyZ7a (ZA hyZ7b cZ9))) ?_
       refine ZS (ZA cZ6 (ZA hyZ7a (ZA hyZ7b cZ9))) (w_di _ _ hrZ10) ?_
       refine ZG ?_
       cases h
       exact ZL (ZA cZ6 (ZA hyZ7a (ZA hyZ7b cZ9))) trivial
   · simp only [ZC,A59R2]
     obtain ⟨cZ12,h⟩ | ⟨cZ12,h⟩:=cond_s h
     · cases h
       exact ZL (ZA cZ6 cZ12) V59.eq_1
     · cases h
       exact ZL (ZA cZ6 cZ12) (ZA S_ax.eq_1 SX_ax.eq_1)
 · cases h
   exact ZL cZ6 (ZA S_ax.eq_1 SX_ax.eq_1)
def S_ay (nZ0:TNetwork) (v:Int):St:=⟨[(1,.pt 1 0 0),(4,.i v)],[(1,.var (.agg [.lst .o 1 (nZ0.Nodes.map AV.z),.lst .o 4 (nZ0.Fibers.map (e_TFiber .o))]))]⟩
def SX_ay (v:Unit):St:=⟨[],[]⟩
theorem w_ay (nZ0:TNetwork) (sZ16:Int) (o:Int ⊕ (Unit ⊕ Bool)) (h:M_ay nZ0 sZ16=some o):AWP (OkS Tryz.prog) A59L6 (qL [1,4] [1] (S_ay nZ0) (qS (qX 2 [] [] (SX_ay)) (qR V59 (fun r=>.b r))) o) (S_ay nZ0 sZ16):=by
 unfold M_ay at h
 simp only [ZC,S_ay,A59L6]
 obtain ⟨cZ17,h⟩ | ⟨cZ17,h⟩:=cond_s h
 · obtain ⟨oZ24,hoZ24,h⟩:=bind_s h
   try refine ZF cZ17 ?_
   refine join_rule0 (sh:=(fun v=>⟨[(1,.pt 1 0 0),(4,.i sZ16),(77,.b v)],[(1,.var (.agg [.lst .o 1 (nZ0.Nodes.map AV.z),.lst .o 4 (nZ0.Fibers.map (e_TFiber .o))]))]⟩)) (s:=oZ24) ?_ ?_
   · replace h:=hoZ24
     obtain ⟨yZ18,hyZ18,h⟩:=bind_s h
     obtain ⟨hyZ18a,hyZ18b⟩:=geti_s hyZ18
     obtain ⟨rZ19,hrZ19,h⟩:=bind_s h
     refine ZF (ZA cZ17 (ZA hyZ18a hyZ18b)) ?_
     refine ZS (ZA cZ17 (ZA hyZ18a hyZ18b)) (w_dj _ _ hrZ19) ?_
     refine ZG ?_
     obtain ⟨cZ20,h⟩ | ⟨cZ20,h⟩:=cond_s h
     · cases h
       exact ZL (ZA cZ17 (ZA hyZ18a (ZA hyZ18b cZ20))) trivial
     · obtain ⟨cZ21,h⟩ | ⟨cZ21,h⟩:=cond_s h
       · obtain ⟨yZ22,hyZ22,h⟩:=bind_s h
         obtain ⟨hyZ22a,hyZ22b⟩:=geti_s hyZ22
         obtain ⟨rZ23,hrZ23,h⟩:=bind_s h
         refine ZF (ZA cZ17 (ZA hyZ18a (ZA hyZ18b (ZA cZ20 (ZA cZ21 (ZA hyZ22a hyZ22b)))))) ?_
         refine ZS (ZA cZ17 (ZA hyZ18a (ZA hyZ18b (ZA cZ20 (ZA cZ21 (ZA hyZ22a hyZ22b)))))) (w_bx _ _ hrZ23) ?_
         refine ZG ?_
         cases h
         exact ZL (ZA cZ17 (ZA hyZ18a (ZA hyZ18b (ZA cZ20 (ZA cZ21 (ZA hyZ22a hyZ22b)))))) trivial
       · cases h
         exact ZL (ZA cZ17 (ZA hyZ18a (ZA hyZ18b (ZA cZ20 cZ21)))) trivial
   · simp only [ZC,A59R5]
     obtain ⟨cZ25,h⟩ | ⟨cZ25,h⟩:=cond_s h
     · cases h
       exact ZL (ZA cZ17 cZ25) V59.eq_1
     · cases h
       exact ZL (ZA cZ17 cZ25) (ZA S_ay.eq_1 SX_ay.eq_1)
 · cases h
   exact ZL cZ17 (ZA S_ay.eq_1 SX_ay.eq_1)
theorem w_ci (nZ0:TNetwork) {r:Bool} (h:M_ci nZ0=some r):Ok Tryz.prog 59 [.agg [.lst .o 1 (nZ0.Nodes.map AV.z),.lst .o 4 (nZ0.Fibers.map (e_TFiber .o))]] ((fun r=>.b r) r):=by
 refine ok_of_body hmix m59 rfl ?_
 unfold M_ci at h
 simp only [ZC,A59,V59,body_eq]
 obtain ⟨oZ3,hoZ3,h⟩:=bind_s h
 try refine ZF trivial ?_
 refine join_rule0 (sh:=(fun v=>⟨[(1,.pt 1 0 0),(15,.b v)],[(1,.var (.agg [.lst .o 1 (nZ0.Nodes.map AV.z),.lst .o 4 (nZ0.Fibers.map (e_TFiber .o))]))]⟩)) (s:=oZ3) ?_ ?_
 · replace h:=hoZ3
   obtain ⟨rZ1,hrZ1,h⟩:=bind_s h
   refine ZF trivial ?_
   refine ZS trivial (w_bm _ _ _ hrZ1) ?_
   refine ZG ?_
   obtain ⟨cZ2,h⟩ | ⟨cZ2,h⟩:=cond_s h
   · cases h
     exact ZL cZ2 trivial
   · cases h
     exact ZL cZ2 trivial
 · simp only [ZC,A59R1]
   obtain ⟨cZ4,h⟩ | ⟨cZ4,h⟩:=cond_s h
   · cases h
     exact ZL cZ4 V59.eq_1
   · obtain ⟨oZ13,hoZ13,h⟩:=bind_s h
     try refine ZF cZ4 ?_
     refine join_rule (o:=oZ13) (blk_rule sideR (loop_rule (w_ax nZ0) hoZ13 ?_)) (fun vZ14 hv=>?_) (fun xZ15 hv e τ hne hq=>?_)
     · exact ZK (ZA S_ax.eq_1 SX_ax.eq_1)
     · subst hv
       simp only [] at h
       simp only [ZC,SX_ax,A59R4]
       obtain ⟨oZ26,hoZ26,h⟩:=bind_s h
       try refine ZF cZ4 ?_
       refine join_rule (o:=oZ26) (blk_rule sideR (loop_rule (w_ay nZ0) hoZ26 ?_)) (fun vZ27 hv=>?_) (fun xZ28 hv e τ hne hq=>?_)
       · exact ZK (ZA S_ay.eq_1 SX_ay.eq_1)
       · subst hv
         simp only [] at h
         simp only [ZC,SX_ay,A59R7]
         cases h
         exact ZL cZ4 V59.eq_1
       · subst hv
         simp only [] at h
         obtain ⟨rfl,qZ29⟩:=hq
         cases h
         exact qZ29
     · subst hv
       simp only [] at h
       obtain ⟨rfl,qZ30⟩:=hq
       cases h
       exact qZ30
def S_ah (nZ0:TNetwork) (goneZ0:Int) (v:Int×List Int):St:=⟨[(1,.i goneZ0),(2,.pt 2 0 0),(5,.sl 5 0 v.2.length),(6,.i v.1)],[(2,.var (.agg [.lst .o 1 (nZ0.Nodes.map AV.z),.lst .o 4 (nZ0.Fibers.map (e_TFiber .o))])),(5,.arr 1 (v.2.map AV.i))]⟩
def SX_ah (nZ0:TNetwork) (goneZ0:Int) (v:List Int):St:=⟨[(1,.i goneZ0),(2,.pt 2 0 0),(5,.sl 5 0 v.length)],[(2,.var (.agg [.lst .o 1 (nZ0.Nodes.map AV.z),.lst .o 4 (nZ0.Fibers.map (e_TFiber .o))])),(5,.arr 1 (v.map AV.i))]⟩
theorem w_ah (nZ0:TNetwork) (goneZ0:Int) (sZ1:Int×List Int) (o:(Int×List Int) ⊕ (List Int)) (h:M_ah nZ0 sZ1=some o):AWP (OkS Tryz.prog) A60L1 (qL [1,2,5,6] [2,5] (S_ah nZ0 goneZ0) (qX 0 [1,2,5] [2,5] (SX_ah nZ0 goneZ0)) o) (S_ah nZ0 goneZ0 sZ1):=by
 unfold M_ah at h
 simp only [ZC,S_ah,A60L1]
 obtain ⟨cZ2,h⟩ | ⟨cZ2,h⟩:=cond_s h
 · obtain ⟨lZ3,hlZ3,h⟩:=bnd_s h
   have eZ4:Row.arr 1 [(.i sZ1.1:AV)]=Row.arr 1 (lZ3.map AV.i):=by rw [← hlZ3]; rfl
   have jjZ5:lZ3.length=1:=by rw [← hlZ3]; rfl
   obtain ⟨uZ6,huZ6,h⟩:=bind_s h
   have huZ6g:=grd_s huZ6
   obtain ⟨lZ7,hlZ7,h⟩:=bnd_s h
   have eZ8:sZ1.2.map AV.i++lZ3.map AV.i=lZ7.map AV.i:=by rw [← hlZ7,List.map_append]
   have eZ9:sZ1.2.length+1=lZ7.length:=by simp [← hlZ3,← hlZ7] <;> omega
   rw [eZ9] at huZ6g
   cases h
   exact ZL (ZA cZ2 (ZA eZ4 (ZA jjZ5 (ZA huZ6g (ZA eZ8 eZ9))))) (ZA S_ah.eq_1 (ZA SX_ah.eq_1 (ZA hlZ3.symm (ZA hlZ7.symm jjZ5))))
 · cases h
   exact ZL cZ2 (ZA S_ah.eq_1 SX_ah.eq_1)
def S_g (nZ0:TNetwork) (goneZ0:Int) (v:Bool×Int×List Int):St:=⟨[(1,.i goneZ0),(2,.pt 2 0 0),(5,.sl 5 0 v.2.2.length),(7,.b v.1),(8,.i v.2.1)],[(2,.var (.agg [.lst .o 1 (nZ0.Nodes.map AV.z),.lst .o 4 (nZ0.Fibers.map (e_TFiber .o))])),(5,.arr 1 (v.2.2.map AV.i))]⟩
def SX_g (nZ0:TNetwork) (goneZ0:Int) (v:Bool×List Int):St:=⟨[(1,.i goneZ0),(2,.pt 2 0 0),(5,.sl 5 0 v.2.length),(7,.b v.1)],[(2,.var (.agg [.lst .o 1 (nZ0.Nodes.map AV.z),.lst .o 4 (nZ0.Fibers.map (e_TFiber .o))])),(5,.arr 1 (v.2.map AV.i))]⟩
theorem w_g (nZ0:TNetwork) (goneZ0:Int) (sZ13:Bool×Int×List Int) (o:(Bool×Int×List Int) ⊕ (Bool×List Int)) (h:M_g nZ0 goneZ0 sZ13=some o):AWP (OkS Tryz.prog) A60L4 (qL [1,2,5,7,8] [2,5] (S_g nZ0 goneZ0) (qX 4 [1,2,5,7] [2,5] (SX_g nZ0 goneZ0)) o) (S_g nZ0 goneZ0 sZ13):=by
 unfold M_g at h
 simp only [ZC,S_g,A60L4]
 obtain ⟨cZ14,h⟩ | ⟨cZ14,h⟩:=cond_s h
 · obtain ⟨yZ15,hyZ15,h⟩:=bind_s h
   obtain ⟨hyZ15a,hyZ15b⟩:=geti_s hyZ15
   obtain ⟨oZ22,hoZ22,h⟩:=bind_s h
   try refine ZF (ZA cZ14 (ZA hyZ15a hyZ15b)) ?_
   refine join_rule0 (sh:=(fun v=>⟨[(1,.i goneZ0),(2,.pt 2 0 0),(5,.sl 5 0 sZ13.2.2.length),(7,.b sZ13.1),(8,.i sZ13.2.1),(9,.i yZ15.A),(10,.i yZ15.B),(60,.b v)],[(2,.var (.agg [.lst .o 1 (nZ0.Nodes.map AV.z),.lst .o 4 (nZ0.Fibers.map (e_TFiber .o))])),(5,.arr 1 (sZ13.2.2.map AV.i))]⟩)) (s:=oZ22) ?_ ?_
   · replace h:=hoZ22
     obtain ⟨uZ16,huZ16,h⟩:=bind_s h
     have huZ16g:=grd_s huZ16
     obtain ⟨cZ17,h⟩ | ⟨cZ17,h⟩:=cond_s h
     · cases h
       exact ZL (ZA cZ14 (ZA hyZ15a (ZA hyZ15b (ZA huZ16g cZ17)))) trivial
     · obtain ⟨kZ18,hkZ18,h⟩:=bind_s h
       obtain ⟨hkZ18a,hkZ18b⟩:=grd_s hkZ18
       obtain ⟨yZ19,hyZ19,h⟩:=bind_s h
       obtain ⟨kZ20,hkZ20,h⟩:=bind_s h
       obtain ⟨hkZ20a,hkZ20b⟩:=grd_s hkZ20
       obtain ⟨yZ21,hyZ21,h⟩:=bind_s h
       cases h
       exact ZL (ZA cZ14 (ZA hyZ15a (ZA hyZ15b (ZA huZ16g (ZA cZ17 (ZA hkZ18a (ZA hkZ18b (ZA hyZ19 (ZA hkZ20a (ZA hkZ20b hyZ21)))))))))) trivial
   · simp only [ZC,A60R3]
     obtain ⟨cZ23,h⟩ | ⟨cZ23,h⟩:=cond_s h
     · cases h
       exact ZL (ZA cZ14 (ZA hyZ15a (ZA hyZ15b cZ23))) (ZA S_g.eq_1 SX_g.eq_1)
     · obtain ⟨kZ24,hkZ24,h⟩:=bind_s h
       obtain ⟨hkZ24a,hkZ24b⟩:=grd_s hkZ24
       obtain ⟨yZ25,hyZ25,h⟩:=bind_s h
       obtain ⟨kZ26,hkZ26,h⟩:=bind_s h
       obtain ⟨hkZ26a,hkZ26b⟩:=grd_s hkZ26
       obtain ⟨yZ27,hyZ27,h⟩:=bind_s h
       obtain ⟨rZ28,hrZ28,h⟩:=bind_s h
       refine ZF (ZA cZ14 (ZA hyZ15a (ZA hyZ15b (ZA cZ23 (ZA hkZ24a (ZA hkZ24b (ZA hyZ25 (ZA hkZ26a (ZA hkZ26b hyZ27))))))))) ?_
       refine ZS (ZA cZ14 (ZA hyZ15a (ZA hyZ15b (ZA cZ23 (ZA hkZ24a (ZA hkZ24b (ZA hyZ25 (ZA hkZ26a (ZA hkZ26b hyZ27))))))))) (w_bq _ _ hrZ28) ?_
       refine ZG ?_
       obtain ⟨lZ29,hlZ29,h⟩:=bnd_s h
       have eZ30:(sZ13.2.2.map AV.i).set (Int.toNat yZ15.A) (.i rZ28)=lZ29.map AV.i:=by rw [← hlZ29,List.map_set]
       obtain ⟨yZ31,hyZ31,h⟩:=bind_s h
       obtain ⟨lZ32,hlZ32,h⟩:=bnd_s h
       have eZ33:(lZ29.map AV.i).set (Int.toNat yZ15.B) (.i rZ28)=lZ32.map AV.i:=by rw [← hlZ32,List.map_set]
       cases h
       exact ZL (ZA cZ14 (ZA hyZ15a (ZA hyZ15b (ZA cZ23 (ZA hkZ24a (ZA hkZ24b (ZA hyZ25 (ZA hkZ26a (ZA hkZ26b (ZA hyZ27 (ZA eZ30 (ZA hyZ31 eZ33)))))))))))) (ZA S_g.eq_1 (ZA SX_g.eq_1 (ZA hlZ29.symm hlZ32.symm)))
 · cases h
   exact ZL cZ14 (ZA S_g.eq_1 SX_g.eq_1)
def S_az (nZ0:TNetwork) (goneZ0:Int) (v:Bool×List Int):St:=⟨[(1,.i goneZ0),(2,.pt 2 0 0),(5,.sl 5 0 v.2.length),(7,.b v.1)],[(2,.var (.agg [.lst .o 1 (nZ0.Nodes.map AV.z),.lst .o 4 (nZ0.Fibers.map (e_TFiber .o))])),(5,.arr 1 (v.2.map AV.i))]⟩
def SX_az (v:List Int):St:=⟨[(5,.sl 5 0 v.length)],[(5,.arr 1 (v.map AV.i))]⟩
theorem w_az (nZ0:TNetwork) (goneZ0:Int) (sZ11:Bool×List Int) (o:(Bool×List Int) ⊕ (List Int)) (h:M_az nZ0 goneZ0 sZ11=some o):AWP (OkS Tryz.prog) A60L5 (qL [1,2,5,7] [2,5] (S_az nZ0 goneZ0) (qX 2 [5] [5] (SX_az)) o) (S_az nZ0 goneZ0 sZ11):=by
 unfold M_az at h
 simp only [ZC,S_az,A60L5]
 obtain ⟨cZ12,h⟩ | ⟨cZ12,h⟩:=cond_s h
 · obtain ⟨oZ34,hoZ34,h⟩:=bind_s h
   try refine ZF cZ12 ?_
   first | refine tail_rule0 (blk_rule0 (loop_rule (w_g nZ0 goneZ0) hoZ34 ?_)) (fun τ qZ35=>?_) | refine tail_blk0 (loop_rule (w_g nZ0 goneZ0) hoZ34 ?_) (fun τ qZ35=>?_)
   · exact ZK (ZA S_g.eq_1 SX_g.eq_1)
   · cases h
     try refine ZF trivial ?_
     refine ⟨rfl,Shp.sub qZ35 (by decide) (by decide) ?_⟩
     exact ZK (ZA S_az.eq_1 (ZA SX_az.eq_1 SX_g.eq_1))
 · cases h
   exact ZL cZ12 (ZA S_az.eq_1 SX_az.eq_1)
theorem w_cm (nZ0:TNetwork) (goneZ0:Int) {r:List Int} (h:M_cm nZ0 goneZ0=some r):Ok Tryz.prog 60 [.agg [.lst .o 1 (nZ0.Nodes.map AV.z),.lst .o 4 (nZ0.Fibers.map (e_TFiber .o))],.i goneZ0] ((fun r=>.lst .u 1 (r.map AV.i)) r):=by
 refine ok_of_body hmix m60 rfl ?_
 unfold M_cm at h
 simp only [ZC,A60,V60,body_eq]
 obtain ⟨oZ10,hoZ10,h⟩:=bind_s h
 try refine ZF trivial ?_
 refine join_rule0 (blk_rule0 (loop_rule (w_ah nZ0 goneZ0) hoZ10 ?_)) ?_
 · exact ZK (ZA S_ah.eq_1 SX_ah.eq_1)
 · simp only [ZC,SX_ah,A60R2]
   obtain ⟨oZ36,hoZ36,h⟩:=bind_s h
   try refine ZF trivial ?_
   refine join_rule0 (blk_rule0 (loop_rule (w_az nZ0 goneZ0) hoZ36 ?_)) ?_
   · exact ZK (ZA S_az.eq_1 SX_az.eq_1)
   · simp only [ZC,SX_az,A60R6]
     cases h
     exact ZL trivial V60.eq_1
def S_j (nZ0:TNetwork) (v:Int×List Int):St:=⟨[(1,.pt 1 0 0),(4,.sl 4 0 v.2.length),(5,.i v.1)],[(1,.var (.agg [.lst .o 1 (nZ0.Nodes.map AV.z),.lst .o 4 (nZ0.Fibers.map (e_TFiber .o))])),(4,.arr 1 (v.2.map AV.i))]⟩
def SX_j (v:List Int):St:=⟨[(4,.sl 4 0 v.length)],[(4,.arr 1 (v.map AV.i))]⟩
theorem w_j (nZ0:TNetwork) (sZ3:Int×List Int) (o:(Int×List Int) ⊕ (List Int)) (h:M_j nZ0 sZ3=some o):AWP (OkS Tryz.prog) A25L1 (qL [1,4,5] [1,4] (S_j nZ0) (qX 0 [4] [4] (SX_j)) o) (S_j nZ0 sZ3):=by
 unfold M_j at h
 simp only [ZC,S_j,A25L1]
 obtain ⟨cZ4,h⟩ | ⟨cZ4,h⟩:=cond_s h
 · obtain ⟨uZ5,huZ5,h⟩:=bind_s h
   have huZ5g:=grd_s huZ5
   obtain ⟨rZ6,hrZ6,h⟩:=bind_s h
   refine ZF (ZA cZ4 huZ5g) ?_
   refine ZU (ZA cZ4 huZ5g) (w_cm _ _ hrZ6) ?_
   refine ZG ?_
   obtain ⟨yZ7,hyZ7,h⟩:=bind_s h
   obtain ⟨hyZ7a,hyZ7b⟩:=geti_s hyZ7
   obtain ⟨kZ8,hkZ8,h⟩:=bind_s h
   obtain ⟨hkZ8a,hkZ8b⟩:=grd_s hkZ8
   obtain ⟨yZ9,hyZ9,h⟩:=bind_s h
   obtain ⟨kZ10,hkZ10,h⟩:=bind_s h
   obtain ⟨hkZ10a,hkZ10b⟩:=grd_s hkZ10
   obtain ⟨yZ11,hyZ11,h⟩:=bind_s h
   obtain ⟨cZ12,h⟩ | ⟨cZ12,h⟩:=cond_s h
   · obtain ⟨lZ13,hlZ13,h⟩:=bnd_s h
     have eZ14:Row.arr 1 [(.i sZ3.1:AV)]=Row.arr 1 (lZ13.map AV.i):=by rw [← hlZ13]; rfl
     have jjZ15:lZ13.length=1:=by rw [← hlZ13]; rfl
     obtain ⟨uZ16,huZ16,h⟩:=bind_s h
     have huZ16g:=grd_s huZ16
     obtain ⟨lZ17,hlZ17,h⟩:=bnd_s h
     have eZ18:sZ3.2.map AV.i++lZ13.map AV.i=lZ17.map AV.i:=by rw [← hlZ17,List.map_append]
     have eZ19:sZ3.2.length+1=lZ17.length:=by simp [← hlZ13,← hlZ17] <;> omega
     rw [eZ19] at huZ16g
     cases h
     exact ZL (ZA cZ4 (ZA huZ5g (ZA hyZ7a (ZA hyZ7b (ZA hkZ8a (ZA hkZ8b (ZA hyZ9 (ZA hkZ10a (ZA hkZ10b (ZA hyZ11 (ZA cZ12 (ZA eZ14 (ZA jjZ15 (ZA huZ16g (ZA eZ18 eZ19))))))))))))))) (ZA S_j.eq_1 (ZA SX_j.eq_1 (ZA hlZ13.symm (ZA hlZ17.symm jjZ15))))
   · cases h
     exact ZL (ZA cZ4 (ZA huZ5g (ZA hyZ7a (ZA hyZ7b (ZA hkZ8a (ZA hkZ8b (ZA hyZ9 (ZA hkZ10a (ZA hkZ10b (ZA hyZ11 cZ12)))))))))) (ZA S_j.eq_1 SX_j.eq_1)
 · cases h
   exact ZL cZ4 (ZA S_j.eq_1 SX_j.eq_1)
theorem w_co (nZ0:TNetwork) {r:List Int×Bool} (h:M_co nZ0=some r):Ok Tryz.prog 25 [.agg [.lst .o 1 (nZ0.Nodes.map AV.z),.lst .o 4 (nZ0.Fibers.map (e_TFiber .o))]] ((fun r=>.tup [.lst .u 1 (r.1.map AV.i),.b r.2]) r):=by
 refine ok_of_body hmix m25 rfl ?_
 unfold M_co at h
 simp only [ZC,A25,V25,body_eq]
 obtain ⟨rZ1,hrZ1,h⟩:=bind_s h
 refine ZF trivial ?_
 refine ZS trivial (w_ci _ hrZ1) ?_
 refine ZG ?_
 obtain ⟨cZ2,h⟩ | ⟨cZ2,h⟩:=cond_s h
 · cases h
   exact ZL cZ2 V25.eq_1
 · obtain ⟨oZ20,hoZ20,h⟩:=bind_s h
   try refine ZF cZ2 ?_
   refine join_rule0 (blk_rule0 (loop_rule (w_j nZ0) hoZ20 ?_)) ?_
   · exact ZK (ZA S_j.eq_1 SX_j.eq_1)
   · simp only [ZC,SX_j,A25R2]
     cases h
     exact ZL cZ2 V25.eq_1
def S_ao (aZ0:List Int) (bZ0:List Int) (v:Int):St:=⟨[(0,.lst .o 1 (aZ0.map AV.i)),(1,.lst .o 1 (bZ0.map AV.i)),(5,.i v)],[]⟩
def SX_ao (v:Unit):St:=⟨[],[]⟩
theorem w_ao (aZ0:List Int) (bZ0:List Int) (sZ2:Int) (o:Int ⊕ (Unit ⊕ Bool)) (h:M_ao aZ0 bZ0 sZ2=some o):AWP (OkS Tryz.prog) A26L1 (qL [0,1,5] [] (S_ao aZ0 bZ0) (qS (qX 0 [] [] (SX_ao)) (qR V26 (fun r=>.b r))) o) (S_ao aZ0 bZ0 sZ2):=by
 unfold M_ao at h
 simp only [ZC,S_ao,A26L1]
 obtain ⟨cZ3,h⟩ | ⟨cZ3,h⟩:=cond_s h
 · obtain ⟨yZ4,hyZ4,h⟩:=bind_s h
   obtain ⟨hyZ4a,hyZ4b⟩:=geti_s hyZ4
   obtain ⟨yZ5,hyZ5,h⟩:=bind_s h
   obtain ⟨hyZ5a,hyZ5b⟩:=geti_s hyZ5
   obtain ⟨cZ6,h⟩ | ⟨cZ6,h⟩:=cond_s h
   · cases h
     exact ZL (ZA cZ3 (ZA hyZ4a (ZA hyZ4b (ZA hyZ5a (ZA hyZ5b cZ6))))) V26.eq_1
   · cases h
     exact ZL (ZA cZ3 (ZA hyZ4a (ZA hyZ4b (ZA hyZ5a (ZA hyZ5b cZ6))))) (ZA S_ao.eq_1 SX_ao.eq_1)
 · cases h
   exact ZL cZ3 (ZA S_ao.eq_1 SX_ao.eq_1)
theorem w_bv (aZ0:List Int) (bZ0:List Int) {r:Bool} (h:M_bv aZ0 bZ0=some r):Ok Tryz.prog 26 [.lst .o 1 (aZ0.map AV.i),.lst .o 1 (bZ0.map AV.i)] ((fun r=>.b r) r):=by
 refine ok_of_body hmix m26 rfl ?_
 unfold M_bv at h
 simp only [ZC,A26,V26,body_eq]
 obtain ⟨cZ1,h⟩ | ⟨cZ1,h⟩:=cond_s h
 · cases h
   exact ZL cZ1 V26.eq_1
 · obtain ⟨oZ7,hoZ7,h⟩:=bind_s h
   try refine ZF cZ1 ?_
   refine join_rule (o:=oZ7) (blk_rule sideR (loop_rule (w_ao aZ0 bZ0) hoZ7 ?_)) (fun vZ8 hv=>?_) (fun xZ9 hv e τ hne hq=>?_)
   · exact ZK (ZA S_ao.eq_1 SX_ao.eq_1)
   · subst hv
     simp only [] at h
     simp only [ZC,SX_ao,A26R2]
     cases h
     exact ZL cZ1 V26.eq_1
   · subst hv
     simp only [] at h
     obtain ⟨rfl,qZ10⟩:=hq
     cases h
     exact qZ10
def S_ap (lZ0:List Int) (xZ0:Int) (v:Int):St:=⟨[(0,.lst .o 1 (lZ0.map AV.i)),(1,.i xZ0),(5,.i v)],[]⟩
def SX_ap (v:Unit):St:=⟨[],[]⟩
theorem w_ap (lZ0:List Int) (xZ0:Int) (sZ1:Int) (o:Int ⊕ (Unit ⊕ Bool)) (h:M_ap lZ0 xZ0 sZ1=some o):AWP (OkS Tryz.prog) A27L1 (qL [0,1,5] [] (S_ap lZ0 xZ0) (qS (qX 0 [] [] (SX_ap)) (qR V27 (fun r=>.b r))) o) (S_ap lZ0 xZ0 sZ1):=by
 unfold M_ap at h
 simp only [ZC,S_ap,A27L1]
 obtain ⟨cZ2,h⟩ | ⟨cZ2,h⟩:=cond_s h
 · obtain ⟨yZ3,hyZ3,h⟩:=bind_s h
   obtain ⟨hyZ3a,hyZ3b⟩:=geti_s hyZ3
   obtain ⟨cZ4,h⟩ | ⟨cZ4,h⟩:=cond_s h
   · cases h
     exact ZL (ZA cZ2 (ZA hyZ3a (ZA hyZ3b cZ4))) V27.eq_1
   · cases h
     exact ZL (ZA cZ2 (ZA hyZ3a (ZA hyZ3b cZ4))) (ZA S_ap.eq_1 SX_ap.eq_1)
 · cases h
   exact ZL cZ2 (ZA S_ap.eq_1 SX_ap.eq_1)
theorem w_cu (lZ0:List Int) (xZ0:Int) {r:Bool} (h:M_cu lZ0 xZ0=some r):Ok Tryz.prog 27 [.lst .o 1 (lZ0.map AV.i),.i xZ0] ((fun r=>.b r) r):=by
 refine ok_of_body hmix m27 rfl ?_
 unfold M_cu at h
 simp only [ZC,A27,V27,body_eq]
 obtain ⟨oZ5,hoZ5,h⟩:=bind_s h
 try refine ZF trivial ?_
 refine join_rule (o:=oZ5) (blk_rule sideR (loop_rule (w_ap lZ0 xZ0) hoZ5 ?_)) (fun vZ6 hv=>?_) (fun xZ7 hv e τ hne hq=>?_)
 · exact ZK (ZA S_ap.eq_1 SX_ap.eq_1)
 · subst hv
   simp only [] at h
   simp only [ZC,SX_ap,A27R2]
   cases h
   exact ZL trivial V27.eq_1
 · subst hv
   simp only [] at h
   obtain ⟨rfl,qZ8⟩:=hq
   cases h
   exact qZ8
def S_r (lZ0:List Int) (nZ0:Int) (v:Int):St:=⟨[(0,.lst .o 1 (lZ0.map AV.i)),(1,.i nZ0),(7,.lst .o 1 (lZ0.map AV.i)),(8,.i (lZ0.length:Int)),(9,.i v)],[]⟩
def SX_r (v:Unit):St:=⟨[],[]⟩
theorem w_r (lZ0:List Int) (nZ0:Int) (sZ1:Int) (o:Int ⊕ (Unit ⊕ Bool)) (h:M_r lZ0 nZ0 sZ1=some o):AWP (OkS Tryz.prog) A137L1 (qL [0,1,7,8,9] [] (S_r lZ0 nZ0) (qS (qX 0 [] [] (SX_r)) (qR V137 (fun r=>.b r))) o) (S_r lZ0 nZ0 sZ1):=by
 unfold M_r at h
 simp only [ZC,S_r,A137L1]
 obtain ⟨cZ2,h⟩ | ⟨cZ2,h⟩:=cond_s h
 · obtain ⟨yZ3,hyZ3,h⟩:=bind_s h
   obtain ⟨hyZ3a,hyZ3b⟩:=geti_s hyZ3
   obtain ⟨rZ4,hrZ4,h⟩:=bind_s h
   refine ZF (ZA cZ2 (ZA hyZ3a hyZ3b)) ?_
   refine ZS (ZA cZ2 (ZA hyZ3a hyZ3b)) (w_bj _ _ _ hrZ4) ?_
   refine ZG ?_
   obtain ⟨cZ5,h⟩ | ⟨cZ5,h⟩:=cond_s h
   · cases h
     exact ZL (ZA cZ2 (ZA hyZ3a (ZA hyZ3b cZ5))) V137.eq_1
   · obtain ⟨cZ6,h⟩ | ⟨cZ6,h⟩:=cond_s h
     · obtain ⟨yZ7,hyZ7,h⟩:=bind_s h
       obtain ⟨hyZ7a,hyZ7b⟩:=geti_s hyZ7
       obtain ⟨cZ8,h⟩ | ⟨cZ8,h⟩:=cond_s h
       · cases h
         exact ZL (ZA cZ2 (ZA hyZ3a (ZA hyZ3b (ZA cZ5 (ZA cZ6 (ZA hyZ7a (ZA hyZ7b cZ8))))))) V137.eq_1
       · cases h
         exact ZL (ZA cZ2 (ZA hyZ3a (ZA hyZ3b (ZA cZ5 (ZA cZ6 (ZA hyZ7a (ZA hyZ7b cZ8))))))) (ZA S_r.eq_1 SX_r.eq_1)
     · cases h
       exact ZL (ZA cZ2 (ZA hyZ3a (ZA hyZ3b (ZA cZ5 cZ6)))) (ZA S_r.eq_1 SX_r.eq_1)
 · cases h
   exact ZL cZ2 (ZA S_r.eq_1 SX_r.eq_1)
theorem w_cv (lZ0:List Int) (nZ0:Int) {r:Bool} (h:M_cv lZ0 nZ0=some r):Ok Tryz.prog 137 [.lst .o 1 (lZ0.map AV.i),.i nZ0] ((fun r=>.b r) r):=by
 refine ok_of_body hmix m137 rfl ?_
 unfold M_cv at h
 simp only [ZC,A137,V137,body_eq]
 obtain ⟨oZ9,hoZ9,h⟩:=bind_s h
 try refine ZF trivial ?_
 refine join_rule (o:=oZ9) (blk_rule sideR (loop_rule (w_r lZ0 nZ0) hoZ9 ?_)) (fun vZ10 hv=>?_) (fun xZ11 hv e τ hne hq=>?_)
 · exact ZK (ZA S_r.eq_1 SX_r.eq_1)
 · subst hv
   simp only [] at h
   simp only [ZC,SX_r,A137R2]
   cases h
   exact ZL trivial V137.eq_1
 · subst hv
   simp only [] at h
   obtain ⟨rfl,qZ12⟩:=hq
   cases h
   exact qZ12
theorem w_ej (nZ0:TNetwork) (goneZ0:List Int) {r:Bool} (h:M_ej nZ0 goneZ0=some r):Ok Tryz.prog 105 [.agg [.lst .o 1 (nZ0.Nodes.map AV.z),.lst .o 4 (nZ0.Fibers.map (e_TFiber .o))],.lst .o 1 (goneZ0.map AV.i)] ((fun r=>.b r) r):=by
 refine ok_of_body hmix m105 rfl ?_
 unfold M_ej at h
 simp only [ZC,A105,V105,body_eq]
 obtain ⟨rZ1,hrZ1,h⟩:=bind_s h
 refine ZF trivial ?_
 refine ZS trivial (w_bt _ hrZ1) ?_
 refine ZG ?_
 obtain ⟨cZ2,h⟩ | ⟨cZ2,h⟩:=cond_s h
 · obtain ⟨rZ3,hrZ3,h⟩:=bind_s h
   refine ZF cZ2 ?_
   refine ZS cZ2 (w_cv _ _ hrZ3) ?_
   refine ZG ?_
   cases h
   exact ZL cZ2 V105.eq_1
 · cases h
   exact ZL cZ2 V105.eq_1
theorem w_cw (nZ0:TNetwork) (goneZ0:List Int) {r:List Int×Bool} (h:M_cw nZ0 goneZ0=some r):Ok Tryz.prog 61 [.agg [.lst .o 1 (nZ0.Nodes.map AV.z),.lst .o 4 (nZ0.Fibers.map (e_TFiber .o))],.lst .o 1 (goneZ0.map AV.i)] ((fun r=>.tup [.lst .u 1 (r.1.map AV.i),.b r.2]) r):=by
 refine ok_of_body hmix m61 rfl ?_
 unfold M_cw at h
 simp only [ZC,A61,V61,body_eq]
 obtain ⟨rZ1,hrZ1,h⟩:=bind_s h
 refine ZF trivial ?_
 refine ZS trivial (w_ej _ _ hrZ1) ?_
 refine ZG ?_
 obtain ⟨cZ2,h⟩ | ⟨cZ2,h⟩:=cond_s h
 · cases h
   exact ZL cZ2 V61.eq_1
 · obtain ⟨rZ3,hrZ3,h⟩:=bind_s h
   refine ZF cZ2 ?_
   refine ZU cZ2 (w_bp _ _ hrZ3) ?_
   refine ZG ?_
   cases h
   exact ZL cZ2 V61.eq_1
theorem w_cp (nZ0:TNetwork) (goneZ0:List Int) (aZ0:Int) (bZ0:Int) {r:Bool} (h:M_cp nZ0 goneZ0 aZ0 bZ0=some r):Ok Tryz.prog 28 [.agg [.lst .o 1 (nZ0.Nodes.map AV.z),.lst .o 4 (nZ0.Fibers.map (e_TFiber .o))],.lst .o 1 (goneZ0.map AV.i),.i aZ0,.i bZ0] ((fun r=>.b r) r):=by
 refine ok_of_body hmix m28 rfl ?_
 unfold M_cp at h
 simp only [ZC,A28,V28,body_eq]
 obtain ⟨rZ1,hrZ1,h⟩:=bind_s h
 refine ZF trivial ?_
 refine ZU trivial (w_cw _ _ hrZ1) ?_
 refine ZG ?_
 obtain ⟨cZ2,h⟩ | ⟨cZ2,h⟩:=cond_s h
 · obtain ⟨cZ3,h⟩ | ⟨cZ3,h⟩:=cond_s h
   · obtain ⟨cZ4,h⟩ | ⟨cZ4,h⟩:=cond_s h
     · obtain ⟨cZ5,h⟩ | ⟨cZ5,h⟩:=cond_s h
       · obtain ⟨cZ6,h⟩ | ⟨cZ6,h⟩:=cond_s h
         · obtain ⟨kZ7,hkZ7,h⟩:=bind_s h
           obtain ⟨hkZ7a,hkZ7b⟩:=grd_s hkZ7
           obtain ⟨yZ8,hyZ8,h⟩:=bind_s h
           obtain ⟨kZ9,hkZ9,h⟩:=bind_s h
           obtain ⟨hkZ9a,hkZ9b⟩:=grd_s hkZ9
           obtain ⟨yZ10,hyZ10,h⟩:=bind_s h
           cases h
           exact ZL (ZA cZ2 (ZA cZ3 (ZA cZ4 (ZA cZ5 (ZA cZ6 (ZA hkZ7a (ZA hkZ7b (ZA hyZ8 (ZA hkZ9a (ZA hkZ9b hyZ10)))))))))) V28.eq_1
         · cases h
           exact ZL (ZA cZ2 (ZA cZ3 (ZA cZ4 (ZA cZ5 cZ6)))) V28.eq_1
       · cases h
         exact ZL (ZA cZ2 (ZA cZ3 (ZA cZ4 cZ5))) V28.eq_1
     · cases h
       exact ZL (ZA cZ2 (ZA cZ3 cZ4)) V28.eq_1
   · cases h
     exact ZL (ZA cZ2 cZ3) V28.eq_1
 · cases h
   exact ZL cZ2 V28.eq_1
theorem w_bu (fZ0:TFiber) (nodeZ0:Int) {r:Int} (h:M_bu fZ0 nodeZ0=some r):Ok Tryz.prog 128 [.agg [.i fZ0.A,.i fZ0.B,.i fZ0.Length,.i fZ0.Risk],.i nodeZ0] ((fun r=>.i r) r):=by
 refine ok_of_body hmix m128 rfl ?_
 unfold M_bu at h
 simp only [ZC,A128,V128,body_eq]
 obtain ⟨cZ1,h⟩ | ⟨cZ1,h⟩:=cond_s h
 · cases h
   exact ZL cZ1 V128.eq_1
 · obtain ⟨cZ2,h⟩ | ⟨cZ2,h⟩:=cond_s h
   · cases h
     exact ZL (ZA cZ1 cZ2) V128.eq_1
   · cases h
     exact ZL (ZA cZ1 cZ2) V128.eq_1
def S_v (nZ0:TNetwork) (ringZ0:List Int) (v:Int×Int×List Int):St:=⟨[(2,.lst .o 1 (ringZ0.map AV.i)),(3,.pt 3 0 0),(9,.sl 9 0 v.2.2.length),(10,.i v.1),(15,.lst .o 1 (ringZ0.map AV.i)),(16,.i (ringZ0.length:Int)),(17,.i v.2.1)],[(3,.var (.agg [.lst .o 1 (nZ0.Nodes.map AV.z),.lst .o 4 (nZ0.Fibers.map (e_TFiber .o))])),(9,.arr 1 (v.2.2.map AV.i))]⟩
def SX_v (v:Int×List Int):St:=⟨[(9,.sl 9 0 v.2.length),(10,.i v.1)],[(9,.arr 1 (v.2.map AV.i))]⟩
theorem w_v (nZ0:TNetwork) (ringZ0:List Int) (sZ1:Int×Int×List Int) (o:(Int×Int×List Int) ⊕ ((Int×List Int) ⊕ (List Int×Int×Bool))) (h:M_v nZ0 ringZ0 sZ1=some o):AWP (OkS Tryz.prog) A113L2 (qL [2,3,9,10,15,16,17] [3,9] (S_v nZ0 ringZ0) (qS (qX 0 [9,10] [9] (SX_v)) (qR V113 (fun r=>.tup [.lst .u 1 (r.1.map AV.i),.i r.2.1,.b r.2.2]))) o) (S_v nZ0 ringZ0 sZ1):=by
 unfold M_v at h
 simp only [ZC,S_v,A113L2]
 obtain ⟨cZ2,h⟩ | ⟨cZ2,h⟩:=cond_s h
 · obtain ⟨yZ3,hyZ3,h⟩:=bind_s h
   obtain ⟨hyZ3a,hyZ3b⟩:=geti_s hyZ3
   obtain ⟨oZ8,hoZ8,h⟩:=bind_s h
   try refine ZF (ZA cZ2 (ZA hyZ3a hyZ3b)) ?_
   refine join_rule0 (sh:=(fun v=>⟨[(2,.lst .o 1 (ringZ0.map AV.i)),(3,.pt 3 0 0),(9,.sl 9 0 sZ1.2.2.length),(10,.i sZ1.1),(12,.i yZ3),(15,.lst .o 1 (ringZ0.map AV.i)),(16,.i (ringZ0.length:Int)),(17,.i sZ1.2.1),(35,.b v)],[(3,.var (.agg [.lst .o 1 (nZ0.Nodes.map AV.z),.lst .o 4 (nZ0.Fibers.map (e_TFiber .o))])),(9,.arr 1 (sZ1.2.2.map AV.i))]⟩)) (s:=oZ8) ?_ ?_
   · replace h:=hoZ8
     obtain ⟨rZ4,hrZ4,h⟩:=bind_s h
     refine ZF (ZA cZ2 (ZA hyZ3a hyZ3b)) ?_
     refine ZS (ZA cZ2 (ZA hyZ3a hyZ3b)) (w_bj _ _ _ hrZ4) ?_
     refine ZG ?_
     obtain ⟨cZ5,h⟩ | ⟨cZ5,h⟩:=cond_s h
     · cases h
       exact ZL (ZA cZ2 (ZA hyZ3a (ZA hyZ3b cZ5))) trivial
     · obtain ⟨lZ6,hlZ6,h⟩:=bind_s h
       obtain ⟨hlZ6a,hlZ6b,hlZ6c,hlZ6d,hlZ6e⟩:=slT_s AV.i hlZ6
       obtain ⟨rZ7,hrZ7,h⟩:=bind_s h
       refine ZF (ZA cZ2 (ZA hyZ3a (ZA hyZ3b (ZA cZ5 (ZA hlZ6a (ZA hlZ6b (ZA hlZ6c (ZA hlZ6d hlZ6e)))))))) ?_
       refine ZS (ZA cZ2 (ZA hyZ3a (ZA hyZ3b (ZA cZ5 (ZA hlZ6a (ZA hlZ6b (ZA hlZ6c (ZA hlZ6d hlZ6e)))))))) (w_ae _ _ hrZ7) ?_
       refine ZG ?_
       cases h
       exact ZL (ZA cZ2 (ZA hyZ3a (ZA hyZ3b (ZA cZ5 (ZA hlZ6a (ZA hlZ6b (ZA hlZ6c (ZA hlZ6d hlZ6e)))))))) trivial
   · simp only [ZC,A113R1]
     obtain ⟨cZ9,h⟩ | ⟨cZ9,h⟩:=cond_s h
     · cases h
       exact ZL (ZA cZ2 (ZA hyZ3a (ZA hyZ3b cZ9))) V113.eq_1
     · obtain ⟨lZ10,hlZ10,h⟩:=bnd_s h
       have eZ11:Row.arr 1 [(.i sZ1.1:AV)]=Row.arr 1 (lZ10.map AV.i):=by rw [← hlZ10]; rfl
       have jjZ12:lZ10.length=1:=by rw [← hlZ10]; rfl
       obtain ⟨uZ13,huZ13,h⟩:=bind_s h
       have huZ13g:=grd_s huZ13
       obtain ⟨lZ14,hlZ14,h⟩:=bnd_s h
       have eZ15:sZ1.2.2.map AV.i++lZ10.map AV.i=lZ14.map AV.i:=by rw [← hlZ14,List.map_append]
       have eZ16:sZ1.2.2.length+1=lZ14.length:=by simp [← hlZ10,← hlZ14] <;> omega
       rw [eZ16] at huZ13g
       obtain ⟨yZ17,hyZ17,h⟩:=bind_s h
       obtain ⟨hyZ17a,hyZ17b⟩:=geti_s hyZ17
       obtain ⟨rZ18,hrZ18,h⟩:=bind_s h
       refine ZF (ZA cZ2 (ZA hyZ3a (ZA hyZ3b (ZA cZ9 (ZA eZ11 (ZA jjZ12 (ZA huZ13g (ZA eZ15 (ZA eZ16 (ZA hyZ17a hyZ17b)))))))))) ?_
       refine ZS (ZA cZ2 (ZA hyZ3a (ZA hyZ3b (ZA cZ9 (ZA eZ11 (ZA jjZ12 (ZA huZ13g (ZA eZ15 (ZA eZ16 (ZA hyZ17a hyZ17b)))))))))) (w_bu _ _ hrZ18) ?_
       refine ZG ?_
       obtain ⟨cZ19,h⟩ | ⟨cZ19,h⟩:=cond_s h
       · cases h
         exact ZL (ZA cZ2 (ZA hyZ3a (ZA hyZ3b (ZA cZ9 (ZA eZ11 (ZA jjZ12 (ZA huZ13g (ZA eZ15 (ZA eZ16 (ZA hyZ17a (ZA hyZ17b cZ19))))))))))) (ZA V113.eq_1 (ZA hlZ10.symm (ZA hlZ14.symm jjZ12)))
       · cases h
         exact ZL (ZA cZ2 (ZA hyZ3a (ZA hyZ3b (ZA cZ9 (ZA eZ11 (ZA jjZ12 (ZA huZ13g (ZA eZ15 (ZA eZ16 (ZA hyZ17a (ZA hyZ17b cZ19))))))))))) (ZA S_v.eq_1 (ZA SX_v.eq_1 (ZA hlZ10.symm (ZA hlZ14.symm jjZ12))))
 · cases h
   exact ZL cZ2 (ZA S_v.eq_1 SX_v.eq_1)
theorem w_dk (nZ0:TNetwork) (startZ0:Int) (ringZ0:List Int) {r:List Int×Int×Bool} (h:M_dk nZ0 startZ0 ringZ0=some r):Ok Tryz.prog 113 [.agg [.lst .o 1 (nZ0.Nodes.map AV.z),.lst .o 4 (nZ0.Fibers.map (e_TFiber .o))],.i startZ0,.lst .o 1 (ringZ0.map AV.i)] ((fun r=>.tup [.lst .u 1 (r.1.map AV.i),.i r.2.1,.b r.2.2]) r):=by
 refine ok_of_body hmix m113 rfl ?_
 unfold M_dk at h
 simp only [ZC,A113,V113,body_eq]
 obtain ⟨oZ20,hoZ20,h⟩:=bind_s h
 try refine ZF trivial ?_
 refine join_rule (o:=oZ20) (blk_rule sideR (loop_rule (w_v nZ0 ringZ0) hoZ20 ?_)) (fun vZ21 hv=>?_) (fun xZ22 hv e τ hne hq=>?_)
 · exact ZK (ZA S_v.eq_1 SX_v.eq_1)
 · subst hv
   simp only [] at h
   simp only [ZC,SX_v,A113R3]
   cases h
   exact ZL trivial V113.eq_1
 · subst hv
   simp only [] at h
   obtain ⟨rfl,qZ23⟩:=hq
   cases h
   exact qZ23
def S_ba (xZ0:List Int) (v:Int×Int):St:=⟨[(0,.lst .o 1 (xZ0.map AV.i)),(3,.i v.1),(4,.i v.2)],[]⟩
def SX_ba (v:Int):St:=⟨[(3,.i v)],[]⟩
theorem w_ba (xZ0:List Int) (sZ3:Int×Int) (o:(Int×Int) ⊕ Int) (h:M_ba xZ0 sZ3=some o):AWP (OkS Tryz.prog) A114L1 (qL [0,3,4] [] (S_ba xZ0) (qX 0 [3] [] (SX_ba)) o) (S_ba xZ0 sZ3):=by
 unfold M_ba at h
 simp only [ZC,S_ba,A114L1]
 obtain ⟨cZ4,h⟩ | ⟨cZ4,h⟩:=cond_s h
 · obtain ⟨yZ5,hyZ5,h⟩:=bind_s h
   obtain ⟨hyZ5a,hyZ5b⟩:=geti_s hyZ5
   cases h
   exact ZL (ZA cZ4 (ZA hyZ5a hyZ5b)) (ZA S_ba.eq_1 SX_ba.eq_1)
 · cases h
   exact ZL cZ4 (ZA S_ba.eq_1 SX_ba.eq_1)
theorem w_dl (xZ0:List Int) {r:Int} (h:M_dl xZ0=some r):Ok Tryz.prog 114 [.lst .o 1 (xZ0.map AV.i)] ((fun r=>.i r) r):=by
 refine ok_of_body hmix m114 rfl ?_
 unfold M_dl at h
 simp only [ZC,A114,V114,body_eq]
 obtain ⟨cZ1,h⟩ | ⟨cZ1,h⟩:=cond_s h
 · cases h
 · obtain ⟨yZ2,hyZ2,h⟩:=bind_s h
   obtain ⟨hyZ2a,hyZ2b⟩:=geti_s hyZ2
   obtain ⟨oZ6,hoZ6,h⟩:=bind_s h
   try refine ZF (ZA cZ1 (ZA hyZ2a hyZ2b)) ?_
   refine join_rule0 (blk_rule0 (loop_rule (w_ba xZ0) hoZ6 ?_)) ?_
   · exact ZK (ZA S_ba.eq_1 SX_ba.eq_1)
   · simp only [ZC,SX_ba,A114R2]
     cases h
     exact ZL (ZA cZ1 (ZA hyZ2a hyZ2b)) V114.eq_1
theorem w_cj (sZ0:List Int) {r:List Int} (h:M_cj sZ0=some r):Ok Tryz.prog 55 [.lst .o 1 (sZ0.map AV.i)] ((fun r=>.lst .u 1 (r.map AV.i)) r):=by
 refine ok_of_body hmix m55 rfl ?_
 unfold M_cj at h
 simp only [ZC,A55,V55,body_eq]
 obtain ⟨cZ1,h⟩ | ⟨cZ1,h⟩:=cond_s h
 · refine ZF cZ1 ?_
   refine And.intro ?_ ?_
   · replace h:=amb_l h
     cases h
     exact ZL cZ1 V55.eq_1
   · replace h:=amb_r h
     obtain ⟨uZ2,huZ2,h⟩:=bind_s h
     have huZ2g:=grd_s huZ2
     cases h
     exact ZL (ZA cZ1 huZ2g) V55.eq_1
 · obtain ⟨uZ3,huZ3,h⟩:=bind_s h
   have huZ3g:=grd_s huZ3
   cases h
   exact ZL (ZA cZ1 huZ3g) V55.eq_1
def S_ai (v:Int×Int×List Int):St:=⟨[(0,.sl 1000000000 0 v.2.2.length),(2,.i v.1),(3,.i v.2.1)],[(1000000000,.arr 1 (v.2.2.map AV.i))]⟩
def SX_ai (v:List Int):St:=⟨[],[(1000000000,.arr 1 (v.map AV.i))]⟩
theorem w_ai (sZ1:Int×Int×List Int) (o:(Int×Int×List Int) ⊕ (List Int)) (h:M_ai sZ1=some o):AWP (OkS Tryz.prog) A115M1L1 (qL [0,2,3] [1000000000] (S_ai) (qX 0 [] [1000000000] (SX_ai)) o) (S_ai sZ1):=by
 unfold M_ai at h
 simp only [ZC,S_ai,A115M1L1]
 obtain ⟨cZ2,h⟩ | ⟨cZ2,h⟩:=cond_s h
 · obtain ⟨kZ3,hkZ3,h⟩:=bind_s h
   obtain ⟨hkZ3a,hkZ3b⟩:=grd_s hkZ3
   obtain ⟨yZ4,hyZ4,h⟩:=bind_s h
   obtain ⟨kZ5,hkZ5,h⟩:=bind_s h
   obtain ⟨hkZ5a,hkZ5b⟩:=grd_s hkZ5
   obtain ⟨yZ6,hyZ6,h⟩:=bind_s h
   obtain ⟨lZ7,hlZ7,h⟩:=bnd_s h
   have eZ8:(sZ1.2.2.map AV.i).set (Int.toNat sZ1.1) (.i yZ4)=lZ7.map AV.i:=by rw [← hlZ7,List.map_set]
   obtain ⟨yZ9,hyZ9,h⟩:=bind_s h
   obtain ⟨lZ10,hlZ10,h⟩:=bnd_s h
   have eZ11:(lZ7.map AV.i).set (Int.toNat sZ1.2.1) (.i yZ6)=lZ10.map AV.i:=by rw [← hlZ10,List.map_set]
   cases h
   exact ZL (ZA cZ2 (ZA hkZ3a (ZA hkZ3b (ZA hyZ4 (ZA hkZ5a (ZA hkZ5b (ZA hyZ6 (ZA eZ8 (ZA hyZ9 eZ11))))))))) (ZA S_ai.eq_1 (ZA SX_ai.eq_1 (ZA hlZ7.symm hlZ10.symm)))
 · cases h
   exact ZL cZ2 (ZA S_ai.eq_1 SX_ai.eq_1)
theorem w_dm (aaZ0:List Int) {r:List Int} (h:M_dm aaZ0=some r):OkM Tryz.prog 115 [.sl 1000000000 0 aaZ0.length] [(1000000000,.arr 1 (aaZ0.map AV.i))] ((fun (r:List Int)=>.tup []) r) ((fun (r:List Int)=>[(1000000000,.arr 1 (r.map AV.i))]) r):=by
 refine okM_of_body (lr:=[1000000000]) hmix m115M1 rfl rfl ?_
 unfold M_dm at h
 simp only [ZC,A115M1,V115M1]
 obtain ⟨oZ12,hoZ12,h⟩:=bind_s h
 try refine ZF trivial ?_
 first | refine tail_rule0 (blk_rule0 (loop_rule (w_ai) hoZ12 ?_)) (fun τ qZ13=>?_) | refine tail_blk0 (loop_rule (w_ai) hoZ12 ?_) (fun τ qZ13=>?_)
 · exact ZK (ZA S_ai.eq_1 SX_ai.eq_1)
 · cases h
   refine finM_shp qZ13 (by decide) ?_ rfl
   exact ZK (ZA V115M1.eq_1 SX_ai.eq_1)
def S_w (s1Z0:List Int) (s2Z0:List Int) (v:Int):St:=⟨[(0,.lst .o 1 (s1Z0.map AV.i)),(1,.lst .o 1 (s2Z0.map AV.i)),(9,.lst .o 1 (s1Z0.map AV.i)),(10,.i (s1Z0.length:Int)),(11,.i v)],[]⟩
def SX_w (s1Z0:List Int) (s2Z0:List Int) (v:Unit):St:=⟨[(0,.lst .o 1 (s1Z0.map AV.i)),(1,.lst .o 1 (s2Z0.map AV.i))],[]⟩
theorem w_w (s1Z0:List Int) (s2Z0:List Int) (sZ1:Int) (o:Int ⊕ (Unit ⊕ Int)) (h:M_w s1Z0 s2Z0 sZ1=some o):AWP (OkS Tryz.prog) A116L1 (qL [0,1,9,10,11] [] (S_w s1Z0 s2Z0) (qS (qX 0 [0,1] [] (SX_w s1Z0 s2Z0)) (qR V116 (fun r=>.i r))) o) (S_w s1Z0 s2Z0 sZ1):=by
 unfold M_w at h
 simp only [ZC,S_w,A116L1]
 obtain ⟨cZ2,h⟩ | ⟨cZ2,h⟩:=cond_s h
 · obtain ⟨yZ3,hyZ3,h⟩:=bind_s h
   obtain ⟨hyZ3a,hyZ3b⟩:=geti_s hyZ3
   obtain ⟨cZ4,h⟩ | ⟨cZ4,h⟩:=cond_s h
   · cases h
     exact ZL (ZA cZ2 (ZA hyZ3a (ZA hyZ3b cZ4))) V116.eq_1
   · obtain ⟨yZ5,hyZ5,h⟩:=bind_s h
     obtain ⟨hyZ5a,hyZ5b⟩:=geti_s hyZ5
     obtain ⟨rZ6,hrZ6,h⟩:=bind_s h
     refine ZF (ZA cZ2 (ZA hyZ3a (ZA hyZ3b (ZA cZ4 (ZA hyZ5a hyZ5b))))) ?_
     refine ZS (ZA cZ2 (ZA hyZ3a (ZA hyZ3b (ZA cZ4 (ZA hyZ5a hyZ5b))))) (w_bn _ _ hrZ6) ?_
     refine ZG ?_
     obtain ⟨cZ7,h⟩ | ⟨cZ7,h⟩:=cond_s h
     · cases h
       exact ZL (ZA cZ2 (ZA hyZ3a (ZA hyZ3b (ZA cZ4 (ZA hyZ5a (ZA hyZ5b cZ7)))))) V116.eq_1
     · cases h
       exact ZL (ZA cZ2 (ZA hyZ3a (ZA hyZ3b (ZA cZ4 (ZA hyZ5a (ZA hyZ5b cZ7)))))) (ZA S_w.eq_1 SX_w.eq_1)
 · cases h
   exact ZL cZ2 (ZA S_w.eq_1 SX_w.eq_1)
theorem w_by (s1Z0:List Int) (s2Z0:List Int) {r:Int} (h:M_by s1Z0 s2Z0=some r):Ok Tryz.prog 116 [.lst .o 1 (s1Z0.map AV.i),.lst .o 1 (s2Z0.map AV.i)] ((fun r=>.i r) r):=by
 refine ok_of_body hmix m116 rfl ?_
 unfold M_by at h
 simp only [ZC,A116,V116,body_eq]
 obtain ⟨oZ8,hoZ8,h⟩:=bind_s h
 try refine ZF trivial ?_
 refine join_rule (o:=oZ8) (blk_rule sideR (loop_rule (w_w s1Z0 s2Z0) hoZ8 ?_)) (fun vZ9 hv=>?_) (fun xZ10 hv e τ hne hq=>?_)
 · exact ZK (ZA S_w.eq_1 SX_w.eq_1)
 · subst hv
   simp only [] at h
   simp only [ZC,SX_w,A116R2]
   obtain ⟨cZ11,h⟩ | ⟨cZ11,h⟩:=cond_s h
   · cases h
     exact ZL cZ11 V116.eq_1
   · cases h
     exact ZL cZ11 V116.eq_1
 · subst hv
   simp only [] at h
   obtain ⟨rfl,qZ12⟩:=hq
   cases h
   exact qZ12
def S_aj (ringZ0:List Int) (rZ8:List Int×Int×Bool) (v:Int):St:=⟨[(1,.lst .o 1 (ringZ0.map AV.i)),(7,.sl 7 0 rZ8.1.length),(56,.sl 7 0 rZ8.1.length),(57,.i (rZ8.1.length:Int)),(58,.i v)],[(7,.arr 1 (rZ8.1.map AV.i))]⟩
def SX_aj (ringZ0:List Int) (rZ8:List Int×Int×Bool) (v:Unit):St:=⟨[(1,.lst .o 1 (ringZ0.map AV.i)),(7,.sl 7 0 rZ8.1.length)],[(7,.arr 1 (rZ8.1.map AV.i))]⟩
theorem w_aj (ringZ0:List Int) (rZ8:List Int×Int×Bool) (sZ14:Int) (o:Int ⊕ (Unit ⊕ (List Int×Bool))) (h:M_aj rZ8 sZ14=some o):AWP (OkS Tryz.prog) A75L3 (qL [1,7,56,57,58] [7] (S_aj ringZ0 rZ8) (qS (qX 0 [1,7] [7] (SX_aj ringZ0 rZ8)) (qR V75 (fun r=>.tup [.lst .u 1 (r.1.map AV.i),.b r.2]))) o) (S_aj ringZ0 rZ8 sZ14):=by
 unfold M_aj at h
 simp only [ZC,S_aj,A75L3]
 obtain ⟨cZ15,h⟩ | ⟨cZ15,h⟩:=cond_s h
 · obtain ⟨kZ16,hkZ16,h⟩:=bind_s h
   obtain ⟨hkZ16a,hkZ16b⟩:=grd_s hkZ16
   obtain ⟨yZ17,hyZ17,h⟩:=bind_s h
   obtain ⟨uZ18,huZ18,h⟩:=bind_s h
   obtain ⟨huZ18a,huZ18b,huZ18c,huZ18d⟩:=grd_s huZ18
   obtain ⟨lZ19,hlZ19,h⟩:=bnd_s h
   have eZ20:sub (rZ8.1.map AV.i) 0 (Int.toNat sZ14)=lZ19.map AV.i:=by rw [sub_mapT,hlZ19]
   obtain ⟨rZ21,hrZ21,h⟩:=bind_s h
   refine ZF (ZA cZ15 (ZA hkZ16a (ZA hkZ16b (ZA hyZ17 (ZA huZ18a (ZA huZ18b (ZA huZ18c (ZA huZ18d eZ20)))))))) ?_
   refine ZS (ZA cZ15 (ZA hkZ16a (ZA hkZ16b (ZA hyZ17 (ZA huZ18a (ZA huZ18b (ZA huZ18c (ZA huZ18d eZ20)))))))) (w_ae _ _ hrZ21) ?_
   refine ZG ?_
   obtain ⟨cZ22,h⟩ | ⟨cZ22,h⟩:=cond_s h
   · cases h
     exact ZL (ZA cZ15 (ZA hkZ16a (ZA hkZ16b (ZA hyZ17 (ZA huZ18a (ZA huZ18b (ZA huZ18c (ZA huZ18d (ZA eZ20 cZ22))))))))) V75.eq_1
   · cases h
     exact ZL (ZA cZ15 (ZA hkZ16a (ZA hkZ16b (ZA hyZ17 (ZA huZ18a (ZA huZ18b (ZA huZ18c (ZA huZ18d (ZA eZ20 cZ22))))))))) (ZA S_aj.eq_1 SX_aj.eq_1)
 · cases h
   exact ZL cZ15 (ZA S_aj.eq_1 SX_aj.eq_1)
theorem w_bz (nZ0:TNetwork) (ringZ0:List Int) {r:List Int×Bool} (h:M_bz nZ0 ringZ0=some r):Ok Tryz.prog 75 [.agg [.lst .o 1 (nZ0.Nodes.map AV.z),.lst .o 4 (nZ0.Fibers.map (e_TFiber .o))],.lst .o 1 (ringZ0.map AV.i)] ((fun r=>.tup [.lst .u 1 (r.1.map AV.i),.b r.2]) r):=by
 refine ok_of_body hmix m75 rfl ?_
 unfold M_bz at h
 simp only [ZC,A75,V75,body_eq]
 obtain ⟨oZ4,hoZ4,h⟩:=bind_s h
 try refine ZF trivial ?_
 refine join_rule0 (sh:=(fun v=>⟨[(1,.lst .o 1 (ringZ0.map AV.i)),(2,.pt 2 0 0),(26,.b v)],[(2,.var (.agg [.lst .o 1 (nZ0.Nodes.map AV.z),.lst .o 4 (nZ0.Fibers.map (e_TFiber .o))]))]⟩)) (s:=oZ4) ?_ ?_
 · replace h:=hoZ4
   obtain ⟨cZ1,h⟩ | ⟨cZ1,h⟩:=cond_s h
   · cases h
     exact ZL cZ1 trivial
   · obtain ⟨yZ2,hyZ2,h⟩:=bind_s h
     obtain ⟨hyZ2a,hyZ2b⟩:=geti_s hyZ2
     obtain ⟨rZ3,hrZ3,h⟩:=bind_s h
     refine ZF (ZA cZ1 (ZA hyZ2a hyZ2b)) ?_
     refine ZS (ZA cZ1 (ZA hyZ2a hyZ2b)) (w_bj _ _ _ hrZ3) ?_
     refine ZG ?_
     cases h
     exact ZL (ZA cZ1 (ZA hyZ2a hyZ2b)) trivial
 · simp only [ZC,A75R1]
   obtain ⟨cZ5,h⟩ | ⟨cZ5,h⟩:=cond_s h
   · cases h
     exact ZL cZ5 V75.eq_1
   · obtain ⟨yZ6,hyZ6,h⟩:=bind_s h
     obtain ⟨hyZ6a,hyZ6b⟩:=geti_s hyZ6
     obtain ⟨yZ7,hyZ7,h⟩:=bind_s h
     obtain ⟨hyZ7a,hyZ7b⟩:=geti_s hyZ7
     obtain ⟨rZ8,hrZ8,h⟩:=bind_s h
     refine ZF (ZA cZ5 (ZA hyZ6a (ZA hyZ6b (ZA hyZ7a hyZ7b)))) ?_
     refine ZU (ZA cZ5 (ZA hyZ6a (ZA hyZ6b (ZA hyZ7a hyZ7b)))) (w_dk _ _ _ hrZ8) ?_
     refine ZG ?_
     obtain ⟨oZ12,hoZ12,h⟩:=bind_s h
     try refine ZF (ZA cZ5 (ZA hyZ6a (ZA hyZ6b (ZA hyZ7a hyZ7b)))) ?_
     refine join_rule0 (sh:=(fun v=>⟨[(1,.lst .o 1 (ringZ0.map AV.i)),(7,.sl 7 0 rZ8.1.length),(55,.b v)],[(7,.arr 1 (rZ8.1.map AV.i))]⟩)) (s:=oZ12) ?_ ?_
     · replace h:=hoZ12
       obtain ⟨cZ9,h⟩ | ⟨cZ9,h⟩:=cond_s h
       · cases h
         exact ZL (ZA cZ5 (ZA hyZ6a (ZA hyZ6b (ZA hyZ7a (ZA hyZ7b cZ9))))) trivial
       · obtain ⟨cZ10,h⟩ | ⟨cZ10,h⟩:=cond_s h
         · cases h
           exact ZL (ZA cZ5 (ZA hyZ6a (ZA hyZ6b (ZA hyZ7a (ZA hyZ7b (ZA cZ9 cZ10)))))) trivial
         · obtain ⟨rZ11,hrZ11,h⟩:=bind_s h
           refine ZF (ZA cZ5 (ZA hyZ6a (ZA hyZ6b (ZA hyZ7a (ZA hyZ7b (ZA cZ9 cZ10)))))) ?_
           refine ZS (ZA cZ5 (ZA hyZ6a (ZA hyZ6b (ZA hyZ7a (ZA hyZ7b (ZA cZ9 cZ10)))))) (w_dl _ hrZ11) ?_
           refine ZG ?_
           cases h
           exact ZL (ZA cZ5 (ZA hyZ6a (ZA hyZ6b (ZA hyZ7a (ZA hyZ7b (ZA cZ9 cZ10)))))) trivial
     · simp only [ZC,A75R2]
       obtain ⟨cZ13,h⟩ | ⟨cZ13,h⟩:=cond_s h
       · cases h
         exact ZL (ZA cZ5 (ZA hyZ6a (ZA hyZ6b (ZA hyZ7a (ZA hyZ7b cZ13))))) V75.eq_1
       · obtain ⟨oZ23,hoZ23,h⟩:=bind_s h
         try refine ZF (ZA cZ5 (ZA hyZ6a (ZA hyZ6b (ZA hyZ7a (ZA hyZ7b cZ13))))) ?_
         refine join_rule (o:=oZ23) (blk_rule sideR (loop_rule (w_aj ringZ0 rZ8) hoZ23 ?_)) (fun vZ24 hv=>?_) (fun xZ25 hv e τ hne hq=>?_)
         · exact ZK (ZA S_aj.eq_1 SX_aj.eq_1)
         · subst hv
           simp only [] at h
           simp only [ZC,SX_aj,A75R4]
           obtain ⟨rZ26,hrZ26,h⟩:=bind_s h
           refine ZF (ZA cZ5 (ZA hyZ6a (ZA hyZ6b (ZA hyZ7a (ZA hyZ7b cZ13))))) ?_
           refine ZU (ZA cZ5 (ZA hyZ6a (ZA hyZ6b (ZA hyZ7a (ZA hyZ7b cZ13))))) (w_cj _ hrZ26) ?_
           refine ZG ?_
           obtain ⟨rZ27,hrZ27,h⟩:=bind_s h
           refine ZF (ZA cZ5 (ZA hyZ6a (ZA hyZ6b (ZA hyZ7a (ZA hyZ7b cZ13))))) ?_
           refine ZW (ZA cZ5 (ZA hyZ6a (ZA hyZ6b (ZA hyZ7a (ZA hyZ7b cZ13))))) (w_dm _ hrZ27) (h2:=by first | exact nm_ok [1000000000] rfl (by decide +kernel) | exact nm_ok2 [1000000000] [] rfl (by decide +kernel) ZQ | exact ZQ) (hk:=?_)
           refine ZG ?_
           obtain ⟨lZ28,hlZ28,h⟩:=bnd_s h
           have eZ29:sub (rZ27.map AV.i) 0 rZ26.length=lZ28.map AV.i:=by rw [sub_mapT,hlZ28]
           obtain ⟨rZ30,hrZ30,h⟩:=bind_s h
           refine ZF (ZA cZ5 (ZA hyZ6a (ZA hyZ6b (ZA hyZ7a (ZA hyZ7b (ZA cZ13 eZ29)))))) ?_
           refine ZS (ZA cZ5 (ZA hyZ6a (ZA hyZ6b (ZA hyZ7a (ZA hyZ7b (ZA cZ13 eZ29)))))) (w_by _ _ hrZ30) ?_
           refine ZG ?_
           cases h
           exact ZL (ZA cZ5 (ZA hyZ6a (ZA hyZ6b (ZA hyZ7a (ZA hyZ7b (ZA cZ13 eZ29)))))) V75.eq_1
         · subst hv
           simp only [] at h
           obtain ⟨rfl,qZ31⟩:=hq
           cases h
           exact qZ31
def S_c (aaZ0:Int) (abZ0:Int) (acZ0:Int) (adZ0:List Int) (aeZ0:TNetwork) (v:Int×TNetwork×List (List Int)):St:=⟨[(0,.i aaZ0),(1,.i abZ0),(2,.i acZ0),(3,.lst .m 1 (adZ0.map AV.i)),(4,.pt 1000000001 0 0),(5,.pt 1000000002 0 0),(6,.pt 1000000004 0 0),(18,.lst .o 4 (((aeZ0).Fibers).map (e_TFiber .o))),(19,.i (((aeZ0).Fibers).length:Int)),(20,.i v.1)],[(470000128,.arr 1 (v.2.2.map (e_Li .u))),(1000000001,.var (.agg [.lst .o 1 (((v.2.1).Nodes).map AV.z),.lst .o 4 (((v.2.1).Fibers).map (e_TFiber .o))])),(1000000002,.var (.sl 470000128 0 v.2.2.length)),(1000000004,.var (.fn 129 [.pt 1000000001 0 0,.pt 1000000002 0 0,.pt 1000000004 0 0]))]⟩
def SX_c (v:TNetwork×List (List Int)):St:=⟨[],[(470000128,.arr 1 (v.2.map (e_Li .u))),(1000000001,.var (.agg [.lst .o 1 (((v.1).Nodes).map AV.z),.lst .o 4 (((v.1).Fibers).map (e_TFiber .o))])),(1000000002,.var (.sl 470000128 0 v.2.length)),(1000000004,.var (.fn 129 [.pt 1000000001 0 0,.pt 1000000002 0 0,.pt 1000000004 0 0]))]⟩
theorem w_c (aaZ0:Int) (abZ0:Int) (acZ0:Int) (adZ0:List Int) (aeZ0:TNetwork) (afZ0:List (List Int)) (rcZ0:Int→Int→Int→List Int→TNetwork→List (List Int)→Option (TNetwork×List (List Int))) (ihZ0:∀ (aaZ0:Int) (abZ0:Int) (acZ0:Int) (adZ0:List Int) (aeZ0:TNetwork) (afZ0:List (List Int)) {r:TNetwork×List (List Int)},rcZ0 aaZ0 abZ0 acZ0 adZ0 aeZ0 afZ0=some r→OkM Tryz.prog 129 [.i aaZ0,.i abZ0,.i acZ0,.sl 1000000000 0 adZ0.length,.pt 1000000001 0 0,.pt 1000000002 0 0,.pt 1000000004 0 0] [(1000000000,.arr 1 (adZ0.map AV.i)),(1000000001,.var (.agg [.lst .o 1 (((aeZ0).Nodes).map AV.z),.lst .o 4 (((aeZ0).Fibers).map (e_TFiber .o))])),(1000000002,.var (.sl 1000000003 0 afZ0.length)),(1000000003,.arr 1 (afZ0.map (e_Li .u))),(1000000004,.var (.fn 129 [.pt 1000000001 0 0,.pt 1000000002 0 0,.pt 1000000004 0 0]))] ((fun (r:TNetwork×List (List Int))=>.tup []) r) ((fun (r:TNetwork×List (List Int))=>[(470000128,.arr 1 (r.2.map (e_Li .u))),(1000000001,.var (.agg [.lst .o 1 (((r.1).Nodes).map AV.z),.lst .o 4 (((r.1).Fibers).map (e_TFiber .o))])),(1000000002,.var (.sl 470000128 0 r.2.length)),(1000000004,.var (.fn 129 [.pt 1000000001 0 0,.pt 1000000002 0 0,.pt 1000000004 0 0]))]) r)) (sZ1:Int×TNetwork×List (List Int)) (o:(Int×TNetwork×List (List Int)) ⊕ (TNetwork×List (List Int))) (h:M_c aaZ0 abZ0 acZ0 adZ0 aeZ0 rcZ0 sZ1=some o):AWP (OkS Tryz.prog) A129M2L2 (qL [0,1,2,3,4,5,6,18,19,20] [470000128,1000000001,1000000002,1000000004] (S_c aaZ0 abZ0 acZ0 adZ0 aeZ0) (qX 0 [] [470000128,1000000001,1000000002,1000000004] (SX_c)) o) (S_c aaZ0 abZ0 acZ0 adZ0 aeZ0 sZ1):=by
 unfold M_c at h
 simp only [ZC,S_c,A129M2L2]
 obtain ⟨cZ2,h⟩ | ⟨cZ2,h⟩:=cond_s h
 · obtain ⟨yZ3,hyZ3,h⟩:=bind_s h
   obtain ⟨hyZ3a,hyZ3b⟩:=geti_s hyZ3
   obtain ⟨rZ4,hrZ4,h⟩:=bind_s h
   refine ZF (ZA cZ2 (ZA hyZ3a hyZ3b)) ?_
   refine ZS (ZA cZ2 (ZA hyZ3a hyZ3b)) (w_bu _ _ hrZ4) ?_
   refine ZG ?_
   obtain ⟨oZ7,hoZ7,h⟩:=bind_s h
   try refine ZF (ZA cZ2 (ZA hyZ3a hyZ3b)) ?_
   refine join_rule0 (sh:=(fun v=>⟨[(0,.i aaZ0),(1,.i abZ0),(2,.i acZ0),(3,.lst .m 1 (adZ0.map AV.i)),(4,.pt 1000000001 0 0),(5,.pt 1000000002 0 0),(6,.pt 1000000004 0 0),(11,.i sZ1.1),(13,.i rZ4),(18,.lst .o 4 (((aeZ0).Fibers).map (e_TFiber .o))),(19,.i (((aeZ0).Fibers).length:Int)),(20,.i sZ1.1),(35,.b v)],[(470000128,.arr 1 (sZ1.2.2.map (e_Li .u))),(1000000001,.var (.agg [.lst .o 1 (((sZ1.2.1).Nodes).map AV.z),.lst .o 4 (((sZ1.2.1).Fibers).map (e_TFiber .o))])),(1000000002,.var (.sl 470000128 0 sZ1.2.2.length)),(1000000004,.var (.fn 129 [.pt 1000000001 0 0,.pt 1000000002 0 0,.pt 1000000004 0 0]))]⟩)) (s:=oZ7) ?_ ?_
   · replace h:=hoZ7
     obtain ⟨cZ5,h⟩ | ⟨cZ5,h⟩:=cond_s h
     · cases h
       exact ZL (ZA cZ2 (ZA hyZ3a (ZA hyZ3b cZ5))) trivial
     · obtain ⟨rZ6,hrZ6,h⟩:=bind_s h
       refine ZF (ZA cZ2 (ZA hyZ3a (ZA hyZ3b cZ5))) ?_
       refine ZS (ZA cZ2 (ZA hyZ3a (ZA hyZ3b cZ5))) (w_ae _ _ hrZ6) ?_
       refine ZG ?_
       cases h
       exact ZL (ZA cZ2 (ZA hyZ3a (ZA hyZ3b cZ5))) trivial
   · simp only [ZC,A129M2R1]
     obtain ⟨cZ8,h⟩ | ⟨cZ8,h⟩:=cond_s h
     · cases h
       exact ZL (ZA cZ2 (ZA hyZ3a (ZA hyZ3b cZ8))) (ZA S_c.eq_1 SX_c.eq_1)
     · have jjZ9:(0:Int)≤(adZ0.length:Int):=Int.natCast_nonneg _
       obtain ⟨lZ10,hlZ10,h⟩:=bnd_s h
       have eZ11:Row.arr 1 [(.i sZ1.1:AV)]=Row.arr 1 (lZ10.map AV.i):=by rw [← hlZ10]; rfl
       have jjZ12:lZ10.length=1:=by rw [← hlZ10]; rfl
       obtain ⟨uZ13,huZ13,h⟩:=bind_s h
       have huZ13g:=grd_s huZ13
       obtain ⟨lZ14,hlZ14,h⟩:=bnd_s h
       have eZ15:adZ0.map AV.i++lZ10.map AV.i=lZ14.map AV.i:=by rw [← hlZ14,List.map_append]
       have eZ16:adZ0.length+1=lZ14.length:=by simp [← hlZ10,← hlZ14] <;> omega
       rw [eZ16] at huZ13g
       have jjZ17:(0:Nat) < 1:=by decide
       obtain ⟨cZ18,h⟩ | ⟨cZ18,h⟩:=cond_s h
       · obtain ⟨rZ19,hrZ19,h⟩:=bind_s h
         refine ZF (ZA cZ2 (ZA hyZ3a (ZA hyZ3b (ZA cZ8 (ZA jjZ9 (ZA eZ11 (ZA jjZ12 (ZA huZ13g (ZA eZ15 (ZA eZ16 (ZA jjZ17 cZ18))))))))))) ?_
         refine ZU (ZA cZ2 (ZA hyZ3a (ZA hyZ3b (ZA cZ8 (ZA jjZ9 (ZA eZ11 (ZA jjZ12 (ZA huZ13g (ZA eZ15 (ZA eZ16 (ZA jjZ17 cZ18))))))))))) (w_bz _ _ hrZ19) ?_
         refine ZG ?_
         obtain ⟨cZ20,h⟩ | ⟨cZ20,h⟩:=cond_s h
         · obtain ⟨lZ21,hlZ21,h⟩:=bnd_s h
           have eZ22:Row.arr 1 [(.lst .u 1 (lZ14.map AV.i):AV)]=Row.arr 1 (lZ21.map (e_Li .u)):=by rw [← hlZ21]; rfl
           have jjZ23:lZ21.length=1:=by rw [← hlZ21]; rfl
           obtain ⟨uZ24,huZ24,h⟩:=bind_s h
           have huZ24g:=grd_s huZ24
           obtain ⟨lZ25,hlZ25,h⟩:=bnd_s h
           have eZ26:sZ1.2.2.map (e_Li .u)++lZ21.map (e_Li .u)=lZ25.map (e_Li .u):=by rw [← hlZ25,List.map_append]
           have eZ27:sZ1.2.2.length+1=lZ25.length:=by simp [← hlZ10,← hlZ14,← hlZ21,← hlZ25] <;> omega
           rw [eZ27] at huZ24g
           cases h
           exact ZL (ZA cZ2 (ZA hyZ3a (ZA hyZ3b (ZA cZ8 (ZA jjZ9 (ZA eZ11 (ZA jjZ12 (ZA huZ13g (ZA eZ15 (ZA eZ16 (ZA jjZ17 (ZA cZ18 (ZA cZ20 (ZA eZ22 (ZA jjZ23 (ZA huZ24g (ZA eZ26 eZ27))))))))))))))))) (ZA S_c.eq_1 (ZA SX_c.eq_1 (ZA hlZ10.symm (ZA hlZ14.symm (ZA hlZ21.symm (ZA hlZ25.symm (ZA jjZ9 (ZA jjZ12 (ZA jjZ17 jjZ23)))))))))
         · cases h
           exact ZL (ZA cZ2 (ZA hyZ3a (ZA hyZ3b (ZA cZ8 (ZA jjZ9 (ZA eZ11 (ZA jjZ12 (ZA huZ13g (ZA eZ15 (ZA eZ16 (ZA jjZ17 (ZA cZ18 cZ20)))))))))))) (ZA S_c.eq_1 (ZA SX_c.eq_1 (ZA hlZ10.symm (ZA hlZ14.symm (ZA jjZ9 (ZA jjZ12 jjZ17))))))
       · obtain ⟨uZ28,huZ28,h⟩:=bind_s h
         have huZ28g:=grd_s huZ28
         obtain ⟨cZ29,h⟩ | ⟨cZ29,h⟩:=cond_s h
         · obtain ⟨uZ30,huZ30,h⟩:=bind_s h
           have huZ30g:=grd_s huZ30
           obtain ⟨rZ31,hrZ31,h⟩:=bind_s h
           refine ZF (ZA cZ2 (ZA hyZ3a (ZA hyZ3b (ZA cZ8 (ZA jjZ9 (ZA eZ11 (ZA jjZ12 (ZA huZ13g (ZA eZ15 (ZA eZ16 (ZA jjZ17 (ZA cZ18 (ZA huZ28g (ZA cZ29 huZ30g)))))))))))))) ?_
           refine ZW (ZA cZ2 (ZA hyZ3a (ZA hyZ3b (ZA cZ8 (ZA jjZ9 (ZA eZ11 (ZA jjZ12 (ZA huZ13g (ZA eZ15 (ZA eZ16 (ZA jjZ17 (ZA cZ18 (ZA huZ28g (ZA cZ29 huZ30g)))))))))))))) (ihZ0 _ _ _ _ _ _ hrZ31) (h2:=by first | exact nm_ok [470000128,1000000001,1000000002,1000000004] rfl (by decide +kernel) | exact nm_ok2 [470000128,1000000001,1000000002,1000000004] [477300128] rfl (by decide +kernel) ZQ | exact ZQ) (hk:=?_)
           refine ZG ?_
           cases h
           exact ZL (ZA cZ2 (ZA hyZ3a (ZA hyZ3b (ZA cZ8 (ZA jjZ9 (ZA eZ11 (ZA jjZ12 (ZA huZ13g (ZA eZ15 (ZA eZ16 (ZA jjZ17 (ZA cZ18 (ZA huZ28g (ZA cZ29 huZ30g)))))))))))))) (ZA S_c.eq_1 (ZA SX_c.eq_1 (ZA hlZ10.symm (ZA hlZ14.symm (ZA jjZ9 (ZA jjZ12 jjZ17))))))
         · cases h
           exact ZL (ZA cZ2 (ZA hyZ3a (ZA hyZ3b (ZA cZ8 (ZA jjZ9 (ZA eZ11 (ZA jjZ12 (ZA huZ13g (ZA eZ15 (ZA eZ16 (ZA jjZ17 (ZA cZ18 (ZA huZ28g cZ29))))))))))))) (ZA S_c.eq_1 (ZA SX_c.eq_1 (ZA hlZ10.symm (ZA hlZ14.symm (ZA jjZ9 (ZA jjZ12 jjZ17))))))
 · cases h
   exact ZL cZ2 (ZA S_c.eq_1 SX_c.eq_1)
theorem wB_cc (rcZ0:Int→Int→Int→List Int→TNetwork→List (List Int)→Option (TNetwork×List (List Int))) (ihZ0:∀ (aaZ0:Int) (abZ0:Int) (acZ0:Int) (adZ0:List Int) (aeZ0:TNetwork) (afZ0:List (List Int)) {r:TNetwork×List (List Int)},rcZ0 aaZ0 abZ0 acZ0 adZ0 aeZ0 afZ0=some r→OkM Tryz.prog 129 [.i aaZ0,.i abZ0,.i acZ0,.sl 1000000000 0 adZ0.length,.pt 1000000001 0 0,.pt 1000000002 0 0,.pt 1000000004 0 0] [(1000000000,.arr 1 (adZ0.map AV.i)),(1000000001,.var (.agg [.lst .o 1 (((aeZ0).Nodes).map AV.z),.lst .o 4 (((aeZ0).Fibers).map (e_TFiber .o))])),(1000000002,.var (.sl 1000000003 0 afZ0.length)),(1000000003,.arr 1 (afZ0.map (e_Li .u))),(1000000004,.var (.fn 129 [.pt 1000000001 0 0,.pt 1000000002 0 0,.pt 1000000004 0 0]))] ((fun (r:TNetwork×List (List Int))=>.tup []) r) ((fun (r:TNetwork×List (List Int))=>[(470000128,.arr 1 (r.2.map (e_Li .u))),(1000000001,.var (.agg [.lst .o 1 (((r.1).Nodes).map AV.z),.lst .o 4 (((r.1).Fibers).map (e_TFiber .o))])),(1000000002,.var (.sl 470000128 0 r.2.length)),(1000000004,.var (.fn 129 [.pt 1000000001 0 0,.pt 1000000002 0 0,.pt 1000000004 0 0]))]) r)) (aaZ0:Int) (abZ0:Int) (acZ0:Int) (adZ0:List Int) (aeZ0:TNetwork) (afZ0:List (List Int)) {r:TNetwork×List (List Int)} (h:M_dn rcZ0 aaZ0 abZ0 acZ0 adZ0 aeZ0 afZ0=some r):OkM Tryz.prog 129 [.i aaZ0,.i abZ0,.i acZ0,.sl 1000000000 0 adZ0.length,.pt 1000000001 0 0,.pt 1000000002 0 0,.pt 1000000004 0 0] [(1000000000,.arr 1 (adZ0.map AV.i)),(1000000001,.var (.agg [.lst .o 1 (((aeZ0).Nodes).map AV.z),.lst .o 4 (((aeZ0).Fibers).map (e_TFiber .o))])),(1000000002,.var (.sl 1000000003 0 afZ0.length)),(1000000003,.arr 1 (afZ0.map (e_Li .u))),(1000000004,.var (.fn 129 [.pt 1000000001 0 0,.pt 1000000002 0 0,.pt 1000000004 0 0]))] ((fun (r:TNetwork×List (List Int))=>.tup []) r) ((fun (r:TNetwork×List (List Int))=>[(470000128,.arr 1 (r.2.map (e_Li .u))),(1000000001,.var (.agg [.lst .o 1 (((r.1).Nodes).map AV.z),.lst .o 4 (((r.1).Fibers).map (e_TFiber .o))])),(1000000002,.var (.sl 470000128 0 r.2.length)),(1000000004,.var (.fn 129 [.pt 1000000001 0 0,.pt 1000000002 0 0,.pt 1000000004 0 0]))]) r):=by
 refine okM_of_body (lr:=[470000128,1000000001,1000000002,1000000004]) hmix m129M2 rfl rfl ?_
 unfold M_dn at h
 simp only [ZC,A129M2,V129M2]
 obtain ⟨oZ32,hoZ32,h⟩:=bind_s h
 try refine ZF trivial ?_
 first | refine tail_rule0 (blk_rule0 (loop_rule (w_c aaZ0 abZ0 acZ0 adZ0 aeZ0 afZ0 rcZ0 ihZ0) hoZ32 ?_)) (fun τ qZ33=>?_) | refine tail_blk0 (loop_rule (w_c aaZ0 abZ0 acZ0 adZ0 aeZ0 afZ0 rcZ0 ihZ0) hoZ32 ?_) (fun τ qZ33=>?_)
 · exact ZK (ZA S_c.eq_1 SX_c.eq_1)
 · cases h
   refine finM_shp qZ33 (by decide) ?_ rfl
   exact ZK (ZA V129M2.eq_1 SX_c.eq_1)
theorem w_cc:∀ (n:Nat) (aaZ0:Int) (abZ0:Int) (acZ0:Int) (adZ0:List Int) (aeZ0:TNetwork) (afZ0:List (List Int)) {r:TNetwork×List (List Int)} (_:M_cc n aaZ0 abZ0 acZ0 adZ0 aeZ0 afZ0=some r),OkM Tryz.prog 129 [.i aaZ0,.i abZ0,.i acZ0,.sl 1000000000 0 adZ0.length,.pt 1000000001 0 0,.pt 1000000002 0 0,.pt 1000000004 0 0] [(1000000000,.arr 1 (adZ0.map AV.i)),(1000000001,.var (.agg [.lst .o 1 (((aeZ0).Nodes).map AV.z),.lst .o 4 (((aeZ0).Fibers).map (e_TFiber .o))])),(1000000002,.var (.sl 1000000003 0 afZ0.length)),(1000000003,.arr 1 (afZ0.map (e_Li .u))),(1000000004,.var (.fn 129 [.pt 1000000001 0 0,.pt 1000000002 0 0,.pt 1000000004 0 0]))] ((fun (r:TNetwork×List (List Int))=>.tup []) r) ((fun (r:TNetwork×List (List Int))=>[(470000128,.arr 1 (r.2.map (e_Li .u))),(1000000001,.var (.agg [.lst .o 1 (((r.1).Nodes).map AV.z),.lst .o 4 (((r.1).Fibers).map (e_TFiber .o))])),(1000000002,.var (.sl 470000128 0 r.2.length)),(1000000004,.var (.fn 129 [.pt 1000000001 0 0,.pt 1000000002 0 0,.pt 1000000004 0 0]))]) r)
 | 0,aaZ0,abZ0,acZ0,adZ0,aeZ0,afZ0,_,h=>by cases h
 | n+1,aaZ0,abZ0,acZ0,adZ0,aeZ0,afZ0,_,h=>wB_cc (M_cc n) (w_cc n) aaZ0 abZ0 acZ0 adZ0 aeZ0 afZ0 h
def S_d (aaZ0:Int) (abZ0:Int) (acZ0:Int) (adZ0:List Int) (aeZ0:TNetwork) (v:Int×TNetwork×List (List Int)):St:=⟨[(0,.i aaZ0),(1,.i abZ0),(2,.i acZ0),(3,.lst .u 1 (adZ0.map AV.i)),(4,.pt 1000000000 0 0),(5,.pt 1000000001 0 0),(6,.pt 1000000003 0 0),(18,.lst .o 4 (((aeZ0).Fibers).map (e_TFiber .o))),(19,.i (((aeZ0).Fibers).length:Int)),(20,.i v.1)],[(470000064,.arr 1 (v.2.2.map (e_Li .u))),(1000000000,.var (.agg [.lst .o 1 (((v.2.1).Nodes).map AV.z),.lst .o 4 (((v.2.1).Fibers).map (e_TFiber .o))])),(1000000001,.var (.sl 470000064 0 v.2.2.length)),(1000000003,.var (.fn 129 [.pt 1000000000 0 0,.pt 1000000001 0 0,.pt 1000000003 0 0]))]⟩
def SX_d (v:TNetwork×List (List Int)):St:=⟨[],[(470000064,.arr 1 (v.2.map (e_Li .u))),(1000000000,.var (.agg [.lst .o 1 (((v.1).Nodes).map AV.z),.lst .o 4 (((v.1).Fibers).map (e_TFiber .o))])),(1000000001,.var (.sl 470000064 0 v.2.length)),(1000000003,.var (.fn 129 [.pt 1000000000 0 0,.pt 1000000001 0 0,.pt 1000000003 0 0]))]⟩
theorem w_d (aaZ0:Int) (abZ0:Int) (acZ0:Int) (adZ0:List Int) (aeZ0:TNetwork) (sZ1:Int×TNetwork×List (List Int)) (o:(Int×TNetwork×List (List Int)) ⊕ (TNetwork×List (List Int))) (h:M_d aaZ0 abZ0 acZ0 adZ0 aeZ0 sZ1=some o):AWP (OkS Tryz.prog) A129M1L2 (qL [0,1,2,3,4,5,6,18,19,20] [470000064,1000000000,1000000001,1000000003] (S_d aaZ0 abZ0 acZ0 adZ0 aeZ0) (qX 0 [] [470000064,1000000000,1000000001,1000000003] (SX_d)) o) (S_d aaZ0 abZ0 acZ0 adZ0 aeZ0 sZ1):=by
 unfold M_d at h
 simp only [ZC,S_d,A129M1L2]
 obtain ⟨cZ2,h⟩ | ⟨cZ2,h⟩:=cond_s h
 · obtain ⟨yZ3,hyZ3,h⟩:=bind_s h
   obtain ⟨hyZ3a,hyZ3b⟩:=geti_s hyZ3
   obtain ⟨rZ4,hrZ4,h⟩:=bind_s h
   refine ZF (ZA cZ2 (ZA hyZ3a hyZ3b)) ?_
   refine ZS (ZA cZ2 (ZA hyZ3a hyZ3b)) (w_bu _ _ hrZ4) ?_
   refine ZG ?_
   obtain ⟨oZ7,hoZ7,h⟩:=bind_s h
   try refine ZF (ZA cZ2 (ZA hyZ3a hyZ3b)) ?_
   refine join_rule0 (sh:=(fun v=>⟨[(0,.i aaZ0),(1,.i abZ0),(2,.i acZ0),(3,.lst .u 1 (adZ0.map AV.i)),(4,.pt 1000000000 0 0),(5,.pt 1000000001 0 0),(6,.pt 1000000003 0 0),(11,.i sZ1.1),(13,.i rZ4),(18,.lst .o 4 (((aeZ0).Fibers).map (e_TFiber .o))),(19,.i (((aeZ0).Fibers).length:Int)),(20,.i sZ1.1),(35,.b v)],[(470000064,.arr 1 (sZ1.2.2.map (e_Li .u))),(1000000000,.var (.agg [.lst .o 1 (((sZ1.2.1).Nodes).map AV.z),.lst .o 4 (((sZ1.2.1).Fibers).map (e_TFiber .o))])),(1000000001,.var (.sl 470000064 0 sZ1.2.2.length)),(1000000003,.var (.fn 129 [.pt 1000000000 0 0,.pt 1000000001 0 0,.pt 1000000003 0 0]))]⟩)) (s:=oZ7) ?_ ?_
   · replace h:=hoZ7
     obtain ⟨cZ5,h⟩ | ⟨cZ5,h⟩:=cond_s h
     · cases h
       exact ZL (ZA cZ2 (ZA hyZ3a (ZA hyZ3b cZ5))) trivial
     · obtain ⟨rZ6,hrZ6,h⟩:=bind_s h
       refine ZF (ZA cZ2 (ZA hyZ3a (ZA hyZ3b cZ5))) ?_
       refine ZS (ZA cZ2 (ZA hyZ3a (ZA hyZ3b cZ5))) (w_ae _ _ hrZ6) ?_
       refine ZG ?_
       cases h
       exact ZL (ZA cZ2 (ZA hyZ3a (ZA hyZ3b cZ5))) trivial
   · simp only [ZC,A129M1R1]
     obtain ⟨cZ8,h⟩ | ⟨cZ8,h⟩:=cond_s h
     · cases h
       exact ZL (ZA cZ2 (ZA hyZ3a (ZA hyZ3b cZ8))) (ZA S_d.eq_1 SX_d.eq_1)
     · have jjZ9:(0:Int)≤(adZ0.length:Int):=Int.natCast_nonneg _
       obtain ⟨lZ10,hlZ10,h⟩:=bnd_s h
       have eZ11:Row.arr 1 [(.i sZ1.1:AV)]=Row.arr 1 (lZ10.map AV.i):=by rw [← hlZ10]; rfl
       have jjZ12:lZ10.length=1:=by rw [← hlZ10]; rfl
       obtain ⟨uZ13,huZ13,h⟩:=bind_s h
       have huZ13g:=grd_s huZ13
       obtain ⟨lZ14,hlZ14,h⟩:=bnd_s h
       have eZ15:adZ0.map AV.i++lZ10.map AV.i=lZ14.map AV.i:=by rw [← hlZ14,List.map_append]
       have eZ16:adZ0.length+1=lZ14.length:=by simp [← hlZ10,← hlZ14] <;> omega
       rw [eZ16] at huZ13g
       have jjZ17:(0:Nat) < 1:=by decide
       obtain ⟨cZ18,h⟩ | ⟨cZ18,h⟩:=cond_s h
       · obtain ⟨rZ19,hrZ19,h⟩:=bind_s h
         refine ZF (ZA cZ2 (ZA hyZ3a (ZA hyZ3b (ZA cZ8 (ZA jjZ9 (ZA eZ11 (ZA jjZ12 (ZA huZ13g (ZA eZ15 (ZA eZ16 (ZA jjZ17 cZ18))))))))))) ?_
         refine ZU (ZA cZ2 (ZA hyZ3a (ZA hyZ3b (ZA cZ8 (ZA jjZ9 (ZA eZ11 (ZA jjZ12 (ZA huZ13g (ZA eZ15 (ZA eZ16 (ZA jjZ17 cZ18))))))))))) (w_bz _ _ hrZ19) ?_
         refine ZG ?_
         obtain ⟨cZ20,h⟩ | ⟨cZ20,h⟩:=cond_s h
         · obtain ⟨lZ21,hlZ21,h⟩:=bnd_s h
           have eZ22:Row.arr 1 [(.lst .u 1 (lZ14.map AV.i):AV)]=Row.arr 1 (lZ21.map (e_Li .u)):=by rw [← hlZ21]; rfl
           have jjZ23:lZ21.length=1:=by rw [← hlZ21]; rfl
           obtain ⟨uZ24,huZ24,h⟩:=bind_s h
           have huZ24g:=grd_s huZ24
           obtain ⟨lZ25,hlZ25,h⟩:=bnd_s h
           have eZ26:sZ1.2.2.map (e_Li .u)++lZ21.map (e_Li .u)=lZ25.map (e_Li .u):=by rw [← hlZ25,List.map_append]
           have eZ27:sZ1.2.2.length+1=lZ25.length:=by simp [← hlZ10,← hlZ14,← hlZ21,← hlZ25] <;> omega
           rw [eZ27] at huZ24g
           cases h
           exact ZL (ZA cZ2 (ZA hyZ3a (ZA hyZ3b (ZA cZ8 (ZA jjZ9 (ZA eZ11 (ZA jjZ12 (ZA huZ13g (ZA eZ15 (ZA eZ16 (ZA jjZ17 (ZA cZ18 (ZA cZ20 (ZA eZ22 (ZA jjZ23 (ZA huZ24g (ZA eZ26 eZ27))))))))))))))))) (ZA S_d.eq_1 (ZA SX_d.eq_1 (ZA hlZ10.symm (ZA hlZ14.symm (ZA hlZ21.symm (ZA hlZ25.symm (ZA jjZ9 (ZA jjZ12 (ZA jjZ17 jjZ23)))))))))
         · cases h
           exact ZL (ZA cZ2 (ZA hyZ3a (ZA hyZ3b (ZA cZ8 (ZA jjZ9 (ZA eZ11 (ZA jjZ12 (ZA huZ13g (ZA eZ15 (ZA eZ16 (ZA jjZ17 (ZA cZ18 cZ20)))))))))))) (ZA S_d.eq_1 (ZA SX_d.eq_1 (ZA hlZ10.symm (ZA hlZ14.symm (ZA jjZ9 (ZA jjZ12 jjZ17))))))
       · obtain ⟨uZ28,huZ28,h⟩:=bind_s h
         have huZ28g:=grd_s huZ28
         obtain ⟨cZ29,h⟩ | ⟨cZ29,h⟩:=cond_s h
         · obtain ⟨uZ30,huZ30,h⟩:=bind_s h
           have huZ30g:=grd_s huZ30
           obtain ⟨rZ31,hrZ31,h⟩:=bind_s h
           refine ZF (ZA cZ2 (ZA hyZ3a (ZA hyZ3b (ZA cZ8 (ZA jjZ9 (ZA eZ11 (ZA jjZ12 (ZA huZ13g (ZA eZ15 (ZA eZ16 (ZA jjZ17 (ZA cZ18 (ZA huZ28g (ZA cZ29 huZ30g)))))))))))))) ?_
           refine ZW (ZA cZ2 (ZA hyZ3a (ZA hyZ3b (ZA cZ8 (ZA jjZ9 (ZA eZ11 (ZA jjZ12 (ZA huZ13g (ZA eZ15 (ZA eZ16 (ZA jjZ17 (ZA cZ18 (ZA huZ28g (ZA cZ29 huZ30g)))))))))))))) (w_cc N0 _ _ _ _ _ _ hrZ31) (h2:=by first | exact nm_ok [470000128,1000000001,1000000002,1000000004] rfl (by decide +kernel) | exact nm_ok2 [470000128,1000000001,1000000002,1000000004] [477300128] rfl (by decide +kernel) ZQ | exact ZQ) (hk:=?_)
           refine ZG ?_
           cases h
           exact ZL (ZA cZ2 (ZA hyZ3a (ZA hyZ3b (ZA cZ8 (ZA jjZ9 (ZA eZ11 (ZA jjZ12 (ZA huZ13g (ZA eZ15 (ZA eZ16 (ZA jjZ17 (ZA cZ18 (ZA huZ28g (ZA cZ29 huZ30g)))))))))))))) (ZA S_d.eq_1 (ZA SX_d.eq_1 (ZA hlZ10.symm (ZA hlZ14.symm (ZA jjZ9 (ZA jjZ12 jjZ17))))))
         · cases h
           exact ZL (ZA cZ2 (ZA hyZ3a (ZA hyZ3b (ZA cZ8 (ZA jjZ9 (ZA eZ11 (ZA jjZ12 (ZA huZ13g (ZA eZ15 (ZA eZ16 (ZA jjZ17 (ZA cZ18 (ZA huZ28g cZ29))))))))))))) (ZA S_d.eq_1 (ZA SX_d.eq_1 (ZA hlZ10.symm (ZA hlZ14.symm (ZA jjZ9 (ZA jjZ12 jjZ17))))))
 · cases h
   exact ZL cZ2 (ZA S_d.eq_1 SX_d.eq_1)
theorem w_en (aaZ0:Int) (abZ0:Int) (acZ0:Int) (adZ0:List Int) (aeZ0:TNetwork) (afZ0:List (List Int)) {r:TNetwork×List (List Int)} (h:M_en aaZ0 abZ0 acZ0 adZ0 aeZ0 afZ0=some r):OkM Tryz.prog 129 [.i aaZ0,.i abZ0,.i acZ0,.lst .u 1 (adZ0.map AV.i),.pt 1000000000 0 0,.pt 1000000001 0 0,.pt 1000000003 0 0] [(1000000000,.var (.agg [.lst .o 1 (((aeZ0).Nodes).map AV.z),.lst .o 4 (((aeZ0).Fibers).map (e_TFiber .o))])),(1000000001,.var (.sl 1000000002 0 afZ0.length)),(1000000002,.arr 1 (afZ0.map (e_Li .u))),(1000000003,.var (.fn 129 [.pt 1000000000 0 0,.pt 1000000001 0 0,.pt 1000000003 0 0]))] ((fun (r:TNetwork×List (List Int))=>.tup []) r) ((fun (r:TNetwork×List (List Int))=>[(470000064,.arr 1 (r.2.map (e_Li .u))),(1000000000,.var (.agg [.lst .o 1 (((r.1).Nodes).map AV.z),.lst .o 4 (((r.1).Fibers).map (e_TFiber .o))])),(1000000001,.var (.sl 470000064 0 r.2.length)),(1000000003,.var (.fn 129 [.pt 1000000000 0 0,.pt 1000000001 0 0,.pt 1000000003 0 0]))]) r):=by
 refine okM_of_body (lr:=[470000064,1000000000,1000000001,1000000003]) hmix m129M1 rfl rfl ?_
 unfold M_en at h
 simp only [ZC,A129M1,V129M1]
 obtain ⟨oZ32,hoZ32,h⟩:=bind_s h
 try refine ZF trivial ?_
 first | refine tail_rule0 (blk_rule0 (loop_rule (w_d aaZ0 abZ0 acZ0 adZ0 aeZ0) hoZ32 ?_)) (fun τ qZ33=>?_) | refine tail_blk0 (loop_rule (w_d aaZ0 abZ0 acZ0 adZ0 aeZ0) hoZ32 ?_) (fun τ qZ33=>?_)
 · exact ZK (ZA S_d.eq_1 SX_d.eq_1)
 · cases h
   refine finM_shp qZ33 (by decide) ?_ rfl
   exact ZK (ZA V129M1.eq_1 SX_d.eq_1)
theorem w_ca (aZ0:List Int) (bZ0:List Int) {r:Int} (h:M_ca aZ0 bZ0=some r):Ok Tryz.prog 131 [.lst .o 1 (aZ0.map AV.i),.lst .o 1 (bZ0.map AV.i)] ((fun r=>.i r) r):=by
 refine ok_of_body hmix m131 rfl ?_
 unfold M_ca at h
 simp only [ZC,A131,V131,body_eq]
 obtain ⟨rZ1,hrZ1,h⟩:=bind_s h
 refine ZF trivial ?_
 refine ZS trivial (w_bn _ _ hrZ1) ?_
 refine ZG ?_
 obtain ⟨rZ2,hrZ2,h⟩:=bind_s h
 refine ZF trivial ?_
 refine ZS trivial (w_by _ _ hrZ2) ?_
 refine ZG ?_
 obtain ⟨lZ3,hlZ3,h⟩:=bnd_s h
 have eZ4:Row.arr 1 [(.i rZ1:AV),(.i rZ2:AV)]=Row.arr 1 (lZ3.map AV.i):=by rw [← hlZ3]; rfl
 have jjZ5:lZ3.length=2:=by rw [← hlZ3]; rfl
 have nZ6:sub (lZ3.map AV.i) 0 2=lZ3.map AV.i:=sub_n _ (by simp [← hlZ3])
 obtain ⟨rZ7,hrZ7,h⟩:=bind_s h
 refine ZF (ZA eZ4 (ZA jjZ5 nZ6)) ?_
 refine ZS (ZA eZ4 (ZA jjZ5 nZ6)) (w_cb _ hrZ7) ?_
 refine ZG ?_
 cases h
 exact ZL (ZA eZ4 (ZA jjZ5 nZ6)) (ZA V131.eq_1 (ZA hlZ3.symm jjZ5))
def S_bb (nZ0:TNetwork) (v:Int×TNetwork×List (List Int)):St:=⟨[(3,.pt 3 0 0),(4,.pt 4 0 0),(10,.i (nZ0.Nodes.length:Int)),(11,.i v.1)],[(1,.var (.agg [.lst .o 1 (((v.2.1).Nodes).map AV.z),.lst .o 4 (((v.2.1).Fibers).map (e_TFiber .o))])),(3,.var (.sl 500000192 0 v.2.2.length)),(4,.var (.fn 129 [.pt 1 0 0,.pt 3 0 0,.pt 4 0 0])),(500000192,.arr 1 (v.2.2.map (e_Li .u)))]⟩
def SX_bb (v:List (List Int)):St:=⟨[(3,.pt 3 0 0)],[(3,.var (.sl 500000192 0 v.length)),(500000192,.arr 1 (v.map (e_Li .u)))]⟩
theorem w_bb (nZ0:TNetwork) (sZ1:Int×TNetwork×List (List Int)) (o:(Int×TNetwork×List (List Int)) ⊕ (List (List Int))) (h:M_bb nZ0 sZ1=some o):AWP (OkS Tryz.prog) A89L1 (qL [3,4,10,11] [1,3,4,500000192] (S_bb nZ0) (qX 0 [3] [3,500000192] (SX_bb)) o) (S_bb nZ0 sZ1):=by
 unfold M_bb at h
 simp only [ZC,S_bb,A89L1]
 obtain ⟨cZ2,h⟩ | ⟨cZ2,h⟩:=cond_s h
 · obtain ⟨uZ3,huZ3,h⟩:=bind_s h
   have huZ3g:=grd_s huZ3
   obtain ⟨rZ4,hrZ4,h⟩:=bind_s h
   refine ZF (ZA cZ2 huZ3g) ?_
   refine ZW (ZA cZ2 huZ3g) (w_en _ _ _ _ _ _ hrZ4) (h2:=by first | exact nm_ok [470000064,1000000000,1000000001,1000000003] rfl (by decide +kernel) | exact nm_ok2 [470000064,1000000000,1000000001,1000000003] [472000064] rfl (by decide +kernel) ZQ | exact ZQ) (hk:=?_)
   refine ZG ?_
   cases h
   exact ZL (ZA cZ2 huZ3g) (ZA S_bb.eq_1 SX_bb.eq_1)
 · cases h
   exact ZL cZ2 (ZA S_bb.eq_1 SX_bb.eq_1)
theorem w_do (nZ0:TNetwork) {r:List (List Int)} (h:M_do nZ0=some r):Ok Tryz.prog 89 [.agg [.lst .o 1 (nZ0.Nodes.map AV.z),.lst .o 4 (nZ0.Fibers.map (e_TFiber .o))]] ((fun r=>.lst .u 1 (r.map (e_Li .u))) r):=by
 refine ok_of_body hmix m89 rfl ?_
 unfold M_do at h
 simp only [ZC,A89,V89,body_eq]
 obtain ⟨oZ5,hoZ5,h⟩:=bind_s h
 try refine ZF trivial ?_
 refine join_rule0 (blk_rule0 (loop_rule (w_bb nZ0) hoZ5 ?_)) ?_
 · exact ZK (ZA S_bb.eq_1 SX_bb.eq_1)
 · simp only [ZC,SX_bb,A89R2]
   obtain ⟨lZ6,hlZ6,h⟩:=bind_s h
   have eZ7:lZ6.length=oZ5.length:=sortX_len hlZ6
   refine ZF trivial ?_
   refine call_m (by simp only [VS1,VS2,VS3,VS4,VS5,VS6,VT1,VT2,finM_ret,finM_nrm,decide_true,decide_false,List.nodup_nil,List.nodup_cons,oks_p,oks_m,oks_h,ne_eq,not_false_eq_true,Int.reduceEq,Int.reduceNe,true_and,false_and,Nat.reduceSub,Nat.reduceMul,↓reduceIte,reduceCtorEq,Nat.reduceEqDiff,Nat.reduceAdd,Nat.reduceLeDiff,Int.reduceLE]; exact (okM_sort sort130 (e_Li .u) (shape_e_Li .u) (xs:=oZ5) (cmp:=(fun x0 x1=>M_ca x0 x1)) (C:=[]) (by simp [List.length_nil]) (by simp only [VS1,VS2,VS3,VS4,VS5,VS6,VT1,VT2,finM_ret,finM_nrm,decide_true,decide_false,List.nodup_nil,List.nodup_cons,oks_p,oks_m,oks_h,ne_eq,not_false_eq_true,Int.reduceEq,Int.reduceNe,true_and,false_and,Nat.reduceSub,Nat.reduceMul,↓reduceIte,reduceCtorEq,Nat.reduceEqDiff,Nat.reduceAdd,Nat.reduceLeDiff,Int.reduceLE,List.map_cons,List.map_nil]) rfl (by simp [Wf,VS1,VS2,VS3,VS4,VS5,VS6,VT1,VT2]) (by simp [VS1,VS2,VS3,VS4,VS5,VS6,VT1,VT2]) ((mtc_fn m131)) (fun _ _ _ hq=>by simp only [e_Li_nrm,VS1,VS2,VS3,VS4,VS5,VS6,VT1,VT2,finM_ret,finM_nrm,decide_true,decide_false,List.nodup_nil,List.nodup_cons,oks_p,oks_m,oks_h,ne_eq,not_false_eq_true,Int.reduceEq,Int.reduceNe,true_and,false_and,Nat.reduceSub,Nat.reduceMul,↓reduceIte,reduceCtorEq,Nat.reduceEqDiff,Nat.reduceAdd,Nat.reduceLeDiff,Int.reduceLE]; exact w_ca _ _ hq) hlZ6)) (by simp [VS1,VS2,VS3,VS4,VS5,VS6,VT1,VT2]) (by first | exact nm_ok [1000000000] rfl (by decide +kernel) | simp [VS1,VS2,VS3,VS4,VS5,VS6,VT1,VT2]) ?_
   refine ZG ?_
   have nZ8:sub (lZ6.map (e_Li .u)) 0 oZ5.length=lZ6.map (e_Li .u):=sub_n _ (by simp [eZ7])
   cases h
   exact ZL nZ8 (ZA V89.eq_1 eZ7)
theorem w_dp (nZ0:TNetwork) {r:List (List Int)×Bool} (h:M_dp nZ0=some r):Ok Tryz.prog 41 [.agg [.lst .o 1 (nZ0.Nodes.map AV.z),.lst .o 4 (nZ0.Fibers.map (e_TFiber .o))]] ((fun r=>.tup [.lst .u 1 (r.1.map (e_Li .u)),.b r.2]) r):=by
 refine ok_of_body hmix m41 rfl ?_
 unfold M_dp at h
 simp only [ZC,A41,V41,body_eq]
 obtain ⟨rZ1,hrZ1,h⟩:=bind_s h
 refine ZF trivial ?_
 refine ZS trivial (w_bt _ hrZ1) ?_
 refine ZG ?_
 obtain ⟨cZ2,h⟩ | ⟨cZ2,h⟩:=cond_s h
 · cases h
   exact ZL cZ2 V41.eq_1
 · obtain ⟨rZ3,hrZ3,h⟩:=bind_s h
   refine ZF cZ2 ?_
   refine ZU cZ2 (w_do _ hrZ3) ?_
   refine ZG ?_
   obtain ⟨cZ4,h⟩ | ⟨cZ4,h⟩:=cond_s h
   · cases h
     exact ZL (ZA cZ2 cZ4) V41.eq_1
   · cases h
     exact ZL (ZA cZ2 cZ4) V41.eq_1
theorem w_ep (xZ0:Int) {r:Int} (h:M_ep xZ0=some r):Ok Tryz.prog 152 [.sc (.int .u64 xZ0)] ((fun r=>.i r) r):=by
 refine ok_of_body hmix m152 rfl ?_
 unfold M_ep at h
 simp only [ZC,A152,V152,body_eq]
 obtain ⟨oZ2,hoZ2,h⟩:=bind_s h
 try refine ZF trivial ?_
 refine join_rule0 (sh:=(fun v=>⟨[(0,.sc (.int .u64 v.1)),(2,.i v.2)],[]⟩)) (s:=oZ2) ?_ ?_
 · replace h:=hoZ2
   obtain ⟨cZ1,h⟩ | ⟨cZ1,h⟩:=cond_s h
   · cases h
     exact ZL cZ1 trivial
   · cases h
     exact ZL cZ1 trivial
 · simp only [ZC,A152R1]
   obtain ⟨oZ4,hoZ4,h⟩:=bind_s h
   try refine ZF trivial ?_
   refine join_rule0 (sh:=(fun v=>⟨[(0,.sc (.int .u64 v.1)),(2,.i v.2)],[]⟩)) (s:=oZ4) ?_ ?_
   · replace h:=hoZ4
     obtain ⟨cZ3,h⟩ | ⟨cZ3,h⟩:=cond_s h
     · cases h
       exact ZL cZ3 trivial
     · cases h
       exact ZL cZ3 trivial
   · simp only [ZC,A152R2]
     obtain ⟨oZ6,hoZ6,h⟩:=bind_s h
     try refine ZF trivial ?_
     refine join_rule0 (sh:=(fun v=>⟨[(0,.sc (.int .u64 v.1)),(2,.i v.2)],[]⟩)) (s:=oZ6) ?_ ?_
     · replace h:=hoZ6
       obtain ⟨cZ5,h⟩ | ⟨cZ5,h⟩:=cond_s h
       · cases h
         exact ZL cZ5 trivial
       · cases h
         exact ZL cZ5 trivial
     · simp only [ZC,A152R3]
       obtain ⟨yZ7,hyZ7,h⟩:=bind_s h
       obtain ⟨hyZ7a,hyZ7b⟩:=getz_s hyZ7
       cases h
       exact ZL (ZA hyZ7a hyZ7b) V152.eq_1
theorem w_dq (xZ0:Int) {r:Int} (h:M_dq xZ0=some r):Ok Tryz.prog 119 [.sc (.int .u64 xZ0)] ((fun r=>.i r) r):=by
 refine ok_of_body hmix m119 rfl ?_
 unfold M_dq at h
 simp only [ZC,A119,V119,body_eq]
 obtain ⟨rZ1,hrZ1,h⟩:=bind_s h
 refine ZF trivial ?_
 refine ZS trivial (w_ep _ hrZ1) ?_
 refine ZG ?_
 cases h
 exact ZL trivial V119.eq_1
theorem w_dr (xZ0:Int) (yZ0:Int) {r:Bool} (h:M_dr xZ0 yZ0=some r):Ok Tryz.prog 164 [.i xZ0,.i yZ0] ((fun r=>.b r) r):=by
 refine ok_of_body hmix m164 rfl ?_
 unfold M_dr at h
 simp only [ZC,A164,V164,body_eq]
 obtain ⟨rZ1,hrZ1,h⟩:=bind_s h
 refine ZF trivial ?_
 refine ZS trivial (w_bs _ hrZ1) ?_
 refine ZG ?_
 obtain ⟨cZ2,h⟩ | ⟨cZ2,h⟩:=cond_s h
 · obtain ⟨rZ3,hrZ3,h⟩:=bind_s h
   refine ZF cZ2 ?_
   refine ZS cZ2 (w_bs _ hrZ3) ?_
   refine ZG ?_
   obtain ⟨cZ4,h⟩ | ⟨cZ4,h⟩:=cond_s h
   · cases h
     exact ZL (ZA cZ2 cZ4) V164.eq_1
   · cases h
     exact ZL (ZA cZ2 cZ4) V164.eq_1
 · cases h
   exact ZL cZ2 V164.eq_1
def S_n (aaZ0:Int) (abZ0:Int) (sZ1:Int×List Int) (v:Int×List Int):St:=⟨[(0,.sl 1000000000 0 v.2.length),(1,.i aaZ0),(2,.i abZ0),(6,.i sZ1.1),(7,.i v.1)],[(1000000000,.arr 1 (v.2.map AV.i))]⟩
def SX_n (aaZ0:Int) (abZ0:Int) (sZ1:Int×List Int) (v:List Int):St:=⟨[(0,.sl 1000000000 0 v.length),(1,.i aaZ0),(2,.i abZ0),(6,.i sZ1.1)],[(1000000000,.arr 1 (v.map AV.i))]⟩
theorem w_n (aaZ0:Int) (abZ0:Int) (sZ1:Int×List Int) (sZ3:Int×List Int) (o:(Int×List Int) ⊕ (List Int)) (h:M_n aaZ0 sZ3=some o):AWP (OkS Tryz.prog) A158M1L2 (qL [0,1,2,6,7] [1000000000] (S_n aaZ0 abZ0 sZ1) (qX 2 [0,1,2,6] [1000000000] (SX_n aaZ0 abZ0 sZ1)) o) (S_n aaZ0 abZ0 sZ1 sZ3):=by
 unfold M_n at h
 simp only [ZC,S_n,A158M1L2]
 obtain ⟨oZ10,hoZ10,h⟩:=bind_s h
 try refine ZF trivial ?_
 refine join_rule0 (sh:=(fun v=>⟨[(0,.sl 1000000000 0 sZ3.2.length),(1,.i aaZ0),(2,.i abZ0),(6,.i sZ1.1),(7,.i sZ3.1),(30,.b v)],[(1000000000,.arr 1 (sZ3.2.map AV.i))]⟩)) (s:=oZ10) ?_ ?_
 · replace h:=hoZ10
   obtain ⟨cZ4,h⟩ | ⟨cZ4,h⟩:=cond_s h
   · obtain ⟨kZ5,hkZ5,h⟩:=bind_s h
     obtain ⟨hkZ5a,hkZ5b⟩:=grd_s hkZ5
     obtain ⟨yZ6,hyZ6,h⟩:=bind_s h
     obtain ⟨kZ7,hkZ7,h⟩:=bind_s h
     obtain ⟨hkZ7a,hkZ7b⟩:=grd_s hkZ7
     obtain ⟨yZ8,hyZ8,h⟩:=bind_s h
     obtain ⟨rZ9,hrZ9,h⟩:=bind_s h
     refine ZF (ZA cZ4 (ZA hkZ5a (ZA hkZ5b (ZA hyZ6 (ZA hkZ7a (ZA hkZ7b hyZ8)))))) ?_
     refine ZS (ZA cZ4 (ZA hkZ5a (ZA hkZ5b (ZA hyZ6 (ZA hkZ7a (ZA hkZ7b hyZ8)))))) (w_dr _ _ hrZ9) ?_
     refine ZG ?_
     cases h
     exact ZL (ZA cZ4 (ZA hkZ5a (ZA hkZ5b (ZA hyZ6 (ZA hkZ7a (ZA hkZ7b hyZ8)))))) trivial
   · cases h
     exact ZL cZ4 trivial
 · simp only [ZC,A158M1R1]
   obtain ⟨cZ11,h⟩ | ⟨cZ11,h⟩:=cond_s h
   · obtain ⟨kZ12,hkZ12,h⟩:=bind_s h
     obtain ⟨hkZ12a,hkZ12b⟩:=grd_s hkZ12
     obtain ⟨yZ13,hyZ13,h⟩:=bind_s h
     obtain ⟨kZ14,hkZ14,h⟩:=bind_s h
     obtain ⟨hkZ14a,hkZ14b⟩:=grd_s hkZ14
     obtain ⟨yZ15,hyZ15,h⟩:=bind_s h
     obtain ⟨lZ16,hlZ16,h⟩:=bnd_s h
     have eZ17:(sZ3.2.map AV.i).set (Int.toNat sZ3.1) (.i yZ13)=lZ16.map AV.i:=by rw [← hlZ16,List.map_set]
     obtain ⟨yZ18,hyZ18,h⟩:=bind_s h
     obtain ⟨lZ19,hlZ19,h⟩:=bnd_s h
     have eZ20:(lZ16.map AV.i).set (Int.toNat (IntKind.wrap .i64 (sZ3.1 - 1))) (.i yZ15)=lZ19.map AV.i:=by rw [← hlZ19,List.map_set]
     cases h
     exact ZL (ZA cZ11 (ZA hkZ12a (ZA hkZ12b (ZA hyZ13 (ZA hkZ14a (ZA hkZ14b (ZA hyZ15 (ZA eZ17 (ZA hyZ18 eZ20))))))))) (ZA S_n.eq_1 (ZA SX_n.eq_1 (ZA hlZ16.symm hlZ19.symm)))
   · cases h
     exact ZL cZ11 (ZA S_n.eq_1 SX_n.eq_1)
def S_ak (aaZ0:Int) (abZ0:Int) (v:Int×List Int):St:=⟨[(0,.sl 1000000000 0 v.2.length),(1,.i aaZ0),(2,.i abZ0),(6,.i v.1)],[(1000000000,.arr 1 (v.2.map AV.i))]⟩
def SX_ak (v:List Int):St:=⟨[],[(1000000000,.arr 1 (v.map AV.i))]⟩
theorem w_ak (aaZ0:Int) (abZ0:Int) (sZ1:Int×List Int) (o:(Int×List Int) ⊕ (List Int)) (h:M_ak aaZ0 abZ0 sZ1=some o):AWP (OkS Tryz.prog) A158M1L4 (qL [0,1,2,6] [1000000000] (S_ak aaZ0 abZ0) (qX 0 [] [1000000000] (SX_ak)) o) (S_ak aaZ0 abZ0 sZ1):=by
 unfold M_ak at h
 simp only [ZC,S_ak,A158M1L4]
 obtain ⟨cZ2,h⟩ | ⟨cZ2,h⟩:=cond_s h
 · obtain ⟨oZ23,hoZ23,h⟩:=bind_s h
   try refine ZF cZ2 ?_
   refine join_rule0 (sh:=(fun v=>⟨[(0,.sl 1000000000 0 v.length),(1,.i aaZ0),(2,.i abZ0),(6,.i sZ1.1)],[(1000000000,.arr 1 (v.map AV.i))]⟩)) (s:=oZ23) ?_ ?_
   · replace h:=hoZ23
     obtain ⟨oZ21,hoZ21,h⟩:=bind_s h
     try refine ZF cZ2 ?_
     first | refine tail_rule0 (blk_rule0 (loop_rule (w_n aaZ0 abZ0 sZ1) hoZ21 ?_)) (fun τ qZ22=>?_) | refine tail_blk0 (loop_rule (w_n aaZ0 abZ0 sZ1) hoZ21 ?_) (fun τ qZ22=>?_)
     · exact ZK (ZA S_n.eq_1 SX_n.eq_1)
     · cases h
       try refine ZF trivial ?_
       refine ⟨rfl,Shp.sub qZ22 (by decide) (by decide) ?_⟩
       exact ZK SX_n.eq_1
   · simp only [ZC,A158M1R3]
     cases h
     exact ZL cZ2 (ZA S_ak.eq_1 SX_ak.eq_1)
 · cases h
   exact ZL cZ2 (ZA S_ak.eq_1 SX_ak.eq_1)
theorem w_ds (aaZ0:Int) (abZ0:Int) (acZ0:List Int) {r:List Int} (h:M_ds aaZ0 abZ0 acZ0=some r):OkM Tryz.prog 158 [.sl 1000000000 0 acZ0.length,.i aaZ0,.i abZ0] [(1000000000,.arr 1 (acZ0.map AV.i))] ((fun (r:List Int)=>.tup []) r) ((fun (r:List Int)=>[(1000000000,.arr 1 (r.map AV.i))]) r):=by
 refine okM_of_body (lr:=[1000000000]) hmix m158M1 rfl rfl ?_
 unfold M_ds at h
 simp only [ZC,A158M1,V158M1]
 obtain ⟨oZ24,hoZ24,h⟩:=bind_s h
 try refine ZF trivial ?_
 first | refine tail_rule0 (blk_rule0 (loop_rule (w_ak aaZ0 abZ0) hoZ24 ?_)) (fun τ qZ25=>?_) | refine tail_blk0 (loop_rule (w_ak aaZ0 abZ0) hoZ24 ?_) (fun τ qZ25=>?_)
 · exact ZK (ZA S_ak.eq_1 SX_ak.eq_1)
 · cases h
   refine finM_shp qZ25 (by decide) ?_ rfl
   exact ZK (ZA V158M1.eq_1 SX_ak.eq_1)
def S_bo (aaZ0:Int) (abZ0:Int) (acZ0:Int) (adZ0:List Int) (v:Unit):St:=⟨[(0,.sl 1000000000 0 adZ0.length),(1,.i aaZ0),(2,.i abZ0),(3,.i acZ0),(8,.b true),(9,.b true)],[(1000000000,.arr 1 (adZ0.map AV.i))]⟩
def SX_bo (v:Empty):St:=⟨[],[]⟩
theorem w_bo (aaZ0:Int) (abZ0:Int) (acZ0:Int) (adZ0:List Int) (sZ1:Unit) (o:Unit ⊕ (Empty ⊕ (List Int))) (h:M_bo aaZ0 abZ0 acZ0 adZ0 sZ1=some o):AWP (OkS Tryz.prog) A138M1L1 (qL [0,1,2,3,8,9] [1000000000] (S_bo aaZ0 abZ0 acZ0 adZ0) (qS (qX 0 [] [] (SX_bo)) (qM V138M1 [1000000000] (fun (r:List Int)=>.tup []) (fun (r:List Int)=>[(1000000000,.arr 1 (r.map AV.i))]))) o) (S_bo aaZ0 abZ0 acZ0 adZ0 sZ1):=by
 unfold M_bo at h
 simp only [ZC,S_bo,A138M1L1]
 obtain ⟨cZ2,h⟩ | ⟨cZ2,h⟩:=cond_s h
 · obtain ⟨rZ3,hrZ3,h⟩:=bind_s h
   refine ZF cZ2 ?_
   refine ZW cZ2 (w_ds _ _ _ hrZ3) (h2:=by first | exact nm_ok [1000000000] rfl (by decide +kernel) | exact nm_ok2 [1000000000] [] rfl (by decide +kernel) ZQ | exact ZQ) (hk:=?_)
   refine ZG ?_
   cases h
   exact ZL cZ2 V138M1.eq_1
 · obtain ⟨cZ4,h⟩ | ⟨cZ4,h⟩:=cond_s h
   · cases h
   · cases h
theorem w_eo (aaZ0:Int) (abZ0:Int) (acZ0:Int) (adZ0:List Int) {r:List Int} (h:M_eo aaZ0 abZ0 acZ0 adZ0=some r):OkM Tryz.prog 138 [.sl 1000000000 0 adZ0.length,.i aaZ0,.i abZ0,.i acZ0] [(1000000000,.arr 1 (adZ0.map AV.i))] ((fun (r:List Int)=>.tup []) r) ((fun (r:List Int)=>[(1000000000,.arr 1 (r.map AV.i))]) r):=by
 refine okM_of_body (lr:=[1000000000]) hmix m138M1 rfl rfl ?_
 unfold M_eo at h
 simp only [ZC,A138M1,V138M1]
 obtain ⟨oZ5,hoZ5,h⟩:=bind_s h
 try refine ZF trivial ?_
 first | refine tail_rule (o:=oZ5) (blk_rule sideM (loop_rule (w_bo aaZ0 abZ0 acZ0 adZ0) hoZ5 ?_)) (fun vZ6 hv τ qZ8=>?_) (fun xZ7 hv e τ hne hq=>?_) | refine tail_blk (o:=oZ5) sideM (loop_rule (w_bo aaZ0 abZ0 acZ0 adZ0) hoZ5 ?_) (fun vZ6 hv τ qZ8=>?_) (fun xZ7 hv e τ hne hq=>?_)
 · exact ZK (ZA S_bo.eq_1 SX_bo.eq_1)
 · exact vZ6.elim
 · subst hv
   simp only [] at h
   obtain ⟨rfl,qZ9⟩:=hq
   cases h
   exact qZ9
theorem w_dt (aaZ0:List Int) {r:List Int} (h:M_dt aaZ0=some r):OkM Tryz.prog 106 [.sl 1000000000 0 aaZ0.length] [(1000000000,.arr 1 (aaZ0.map AV.i))] ((fun (r:List Int)=>.tup []) r) ((fun (r:List Int)=>[(1000000000,.arr 1 (r.map AV.i))]) r):=by
 refine okM_of_body (lr:=[1000000000]) hmix m106M1 rfl rfl ?_
 unfold M_dt at h
 simp only [ZC,A106M1,V106M1]
 obtain ⟨rZ1,hrZ1,h⟩:=bind_s h
 refine ZF trivial ?_
 refine ZS trivial (w_dq _ hrZ1) ?_
 refine ZG ?_
 obtain ⟨rZ2,hrZ2,h⟩:=bind_s h
 refine ZF trivial ?_
 refine ZW trivial (w_eo _ _ _ _ hrZ2) (h2:=by first | exact nm_ok [1000000000] rfl (by decide +kernel) | exact nm_ok2 [1000000000] [] rfl (by decide +kernel) ZQ | exact ZQ) (hk:=?_)
 refine ZG ?_
 cases h
 exact ZL trivial V106M1.eq_1
def S_x (nZ0:TNetwork) (ringZ0:List Int) (rZ1:List Int) (rZ2:List Int) (rZ3:List Int×Bool) (v:Int×List Int):St:=⟨[(1,.lst .o 1 (ringZ0.map AV.i)),(6,.sl 6 0 rZ1.length),(7,.sl 7 0 v.2.length),(8,.sl 8 0 rZ3.1.length),(24,.lst .o 4 (nZ0.Fibers.map (e_TFiber .o))),(25,.i (nZ0.Fibers.length:Int)),(26,.i v.1)],[(6,.arr 1 (rZ2.map AV.i)),(7,.arr 1 (v.2.map AV.i)),(8,.arr 1 (rZ3.1.map AV.i))]⟩
def SX_x (rZ1:List Int) (rZ2:List Int) (v:List Int):St:=⟨[(6,.sl 6 0 rZ1.length),(7,.sl 7 0 v.length)],[(6,.arr 1 (rZ2.map AV.i)),(7,.arr 1 (v.map AV.i))]⟩
theorem w_x (nZ0:TNetwork) (ringZ0:List Int) (rZ1:List Int) (rZ2:List Int) (rZ3:List Int×Bool) (sZ4:Int×List Int) (o:(Int×List Int) ⊕ (List Int)) (h:M_x nZ0 ringZ0 rZ3 sZ4=some o):AWP (OkS Tryz.prog) A64L2 (qL [1,6,7,8,24,25,26] [6,7,8] (S_x nZ0 ringZ0 rZ1 rZ2 rZ3) (qX 0 [6,7] [6,7] (SX_x rZ1 rZ2)) o) (S_x nZ0 ringZ0 rZ1 rZ2 rZ3 sZ4):=by
 unfold M_x at h
 simp only [ZC,S_x,A64L2]
 obtain ⟨cZ5,h⟩ | ⟨cZ5,h⟩:=cond_s h
 · obtain ⟨yZ6,hyZ6,h⟩:=bind_s h
   obtain ⟨hyZ6a,hyZ6b⟩:=geti_s hyZ6
   obtain ⟨oZ12,hoZ12,h⟩:=bind_s h
   try refine ZF (ZA cZ5 (ZA hyZ6a hyZ6b)) ?_
   refine join_rule0 (sh:=(fun v=>⟨[(1,.lst .o 1 (ringZ0.map AV.i)),(6,.sl 6 0 rZ1.length),(7,.sl 7 0 sZ4.2.length),(8,.sl 8 0 rZ3.1.length),(10,.i sZ4.1),(24,.lst .o 4 (nZ0.Fibers.map (e_TFiber .o))),(25,.i (nZ0.Fibers.length:Int)),(26,.i sZ4.1),(46,.b v)],[(6,.arr 1 (rZ2.map AV.i)),(7,.arr 1 (sZ4.2.map AV.i)),(8,.arr 1 (rZ3.1.map AV.i))]⟩)) (s:=oZ12) ?_ ?_
   · replace h:=hoZ12
     obtain ⟨rZ7,hrZ7,h⟩:=bind_s h
     refine ZF (ZA cZ5 (ZA hyZ6a hyZ6b)) ?_
     refine ZS (ZA cZ5 (ZA hyZ6a hyZ6b)) (w_ae _ _ hrZ7) ?_
     refine ZG ?_
     obtain ⟨cZ8,h⟩ | ⟨cZ8,h⟩:=cond_s h
     · obtain ⟨rZ9,hrZ9,h⟩:=bind_s h
       refine ZF (ZA cZ5 (ZA hyZ6a (ZA hyZ6b cZ8))) ?_
       refine ZS (ZA cZ5 (ZA hyZ6a (ZA hyZ6b cZ8))) (w_ae _ _ hrZ9) ?_
       refine ZG ?_
       obtain ⟨cZ10,h⟩ | ⟨cZ10,h⟩:=cond_s h
       · obtain ⟨rZ11,hrZ11,h⟩:=bind_s h
         refine ZF (ZA cZ5 (ZA hyZ6a (ZA hyZ6b (ZA cZ8 cZ10)))) ?_
         refine ZS (ZA cZ5 (ZA hyZ6a (ZA hyZ6b (ZA cZ8 cZ10)))) (w_ae _ _ hrZ11) ?_
         refine ZG ?_
         cases h
         exact ZL (ZA cZ5 (ZA hyZ6a (ZA hyZ6b (ZA cZ8 cZ10)))) trivial
       · cases h
         exact ZL (ZA cZ5 (ZA hyZ6a (ZA hyZ6b (ZA cZ8 cZ10)))) trivial
     · cases h
       exact ZL (ZA cZ5 (ZA hyZ6a (ZA hyZ6b cZ8))) trivial
   · simp only [ZC,A64R1]
     obtain ⟨cZ13,h⟩ | ⟨cZ13,h⟩:=cond_s h
     · obtain ⟨lZ14,hlZ14,h⟩:=bnd_s h
       have eZ15:Row.arr 1 [(.i sZ4.1:AV)]=Row.arr 1 (lZ14.map AV.i):=by rw [← hlZ14]; rfl
       have jjZ16:lZ14.length=1:=by rw [← hlZ14]; rfl
       obtain ⟨uZ17,huZ17,h⟩:=bind_s h
       have huZ17g:=grd_s huZ17
       obtain ⟨lZ18,hlZ18,h⟩:=bnd_s h
       have eZ19:sZ4.2.map AV.i++lZ14.map AV.i=lZ18.map AV.i:=by rw [← hlZ18,List.map_append]
       have eZ20:sZ4.2.length+1=lZ18.length:=by simp [← hlZ14,← hlZ18] <;> omega
       rw [eZ20] at huZ17g
       cases h
       exact ZL (ZA cZ5 (ZA hyZ6a (ZA hyZ6b (ZA cZ13 (ZA eZ15 (ZA jjZ16 (ZA huZ17g (ZA eZ19 eZ20)))))))) (ZA S_x.eq_1 (ZA SX_x.eq_1 (ZA hlZ14.symm (ZA hlZ18.symm jjZ16))))
     · cases h
       exact ZL (ZA cZ5 (ZA hyZ6a (ZA hyZ6b cZ13))) (ZA S_x.eq_1 SX_x.eq_1)
 · cases h
   exact ZL cZ5 (ZA S_x.eq_1 SX_x.eq_1)
theorem w_du (nZ0:TNetwork) (ringZ0:List Int) {r:List Int×List Int} (h:M_du nZ0 ringZ0=some r):Ok Tryz.prog 64 [.agg [.lst .o 1 (nZ0.Nodes.map AV.z),.lst .o 4 (nZ0.Fibers.map (e_TFiber .o))],.lst .o 1 (ringZ0.map AV.i)] ((fun r=>.tup [.lst .u 1 (r.1.map AV.i),.lst .u 1 (r.2.map AV.i)]) r):=by
 refine ok_of_body hmix m64 rfl ?_
 unfold M_du at h
 simp only [ZC,A64,V64,body_eq]
 obtain ⟨rZ1,hrZ1,h⟩:=bind_s h
 refine ZF trivial ?_
 refine ZU trivial (w_cj _ hrZ1) ?_
 refine ZG ?_
 obtain ⟨rZ2,hrZ2,h⟩:=bind_s h
 refine ZF trivial ?_
 refine ZW trivial (w_dt _ hrZ2) (h2:=by first | exact nm_ok [1000000000] rfl (by decide +kernel) | exact nm_ok2 [1000000000] [] rfl (by decide +kernel) ZQ | exact ZQ) (hk:=?_)
 refine ZG ?_
 obtain ⟨rZ3,hrZ3,h⟩:=bind_s h
 refine ZF trivial ?_
 refine ZU trivial (w_bz _ _ hrZ3) ?_
 refine ZG ?_
 obtain ⟨oZ21,hoZ21,h⟩:=bind_s h
 try refine ZF trivial ?_
 refine join_rule0 (blk_rule0 (loop_rule (w_x nZ0 ringZ0 rZ1 rZ2 rZ3) hoZ21 ?_)) ?_
 · exact ZK (ZA S_x.eq_1 SX_x.eq_1)
 · simp only [ZC,SX_x,A64R3]
   obtain ⟨lZ22,hlZ22,h⟩:=bnd_s h
   have eZ23:sub (rZ2.map AV.i) 0 rZ1.length=lZ22.map AV.i:=by rw [sub_mapT,hlZ22]
   cases h
   exact ZL eZ23 V64.eq_1
theorem w_dv (aaZ0:Int) {r:Nat×Nat×List Int} (h:M_dv aaZ0=some r):OkM Tryz.prog 133 [.lst .u 1 [],.i aaZ0] [] ((fun (r:Nat×Nat×List Int)=>.sl 4 r.1 r.2.1) r) ((fun (r:Nat×Nat×List Int)=>[(4,.arr 1 (r.2.2.map AV.i))]) r):=by
 refine okM_of_body (lr:=[4]) hmix m133M1 rfl rfl ?_
 unfold M_dv at h
 simp only [ZC,A133M1,V133M1]
 obtain ⟨cZ1,h⟩ | ⟨cZ1,h⟩:=cond_s h
 · cases h
 · obtain ⟨cZ2,h⟩ | ⟨cZ2,h⟩:=cond_s h
   · obtain ⟨uZ3,huZ3,h⟩:=bind_s h
     obtain ⟨huZ31,huZ32⟩:=grd_s huZ3
     obtain ⟨lZ4,hlZ4,h⟩:=bnd_s h
     have eZ5:List.replicate (Int.toNat (IntKind.wrap .i64 (aaZ0 - (IntKind.wrap .i64 (0 - ((0:Nat):Int)))))) (.i 0:AV)=lZ4.map AV.i:=by rw [← hlZ4,List.map_replicate]
     obtain ⟨uZ6,huZ6,h⟩:=bind_s h
     obtain ⟨huZ6a,huZ6b,huZ6c,huZ6d⟩:=grd_s huZ6
     cases h
     exact ZL (ZA cZ1 (ZA cZ2 (ZA huZ31 (ZA huZ32 (ZA eZ5 (ZA huZ6a (ZA huZ6b (ZA huZ6c huZ6d)))))))) (ZA V133M1.eq_1 (ZA hlZ4.symm @Zr))
   · cases h
     exact ZL (ZA cZ1 cZ2) V133M1.eq_1
def S_al (slicesZ0:List (List Int)) (v:Int×Int):St:=⟨[(0,.lst .o 1 (slicesZ0.map (e_Li .o))),(3,.i v.1),(9,.lst .o 1 (slicesZ0.map (e_Li .o))),(10,.i (slicesZ0.length:Int)),(11,.i v.2)],[]⟩
def SX_al (slicesZ0:List (List Int)) (v:Int):St:=⟨[(0,.lst .o 1 (slicesZ0.map (e_Li .o))),(3,.i v)],[]⟩
theorem w_al (slicesZ0:List (List Int)) (sZ1:Int×Int) (o:(Int×Int) ⊕ Int) (h:M_al slicesZ0 sZ1=some o):AWP (OkS Tryz.prog) A93L1 (qL [0,3,9,10,11] [] (S_al slicesZ0) (qX 0 [0,3] [] (SX_al slicesZ0)) o) (S_al slicesZ0 sZ1):=by
 unfold M_al at h
 simp only [ZC,S_al,A93L1]
 obtain ⟨cZ2,h⟩ | ⟨cZ2,h⟩:=cond_s h
 · obtain ⟨yZ3,hyZ3,h⟩:=bind_s h
   obtain ⟨hyZ3a,hyZ3b⟩:=geti_s hyZ3
   obtain ⟨cZ4,h⟩ | ⟨cZ4,h⟩:=cond_s h
   · cases h
   · cases h
     exact ZL (ZA cZ2 (ZA hyZ3a (ZA hyZ3b cZ4))) (ZA S_al.eq_1 SX_al.eq_1)
 · cases h
   exact ZL cZ2 (ZA S_al.eq_1 SX_al.eq_1)
def S_bk (slicesZ0:List (List Int)) (v:Nat×Nat×Int×List Int):St:=⟨[(6,.sl 6 v.1 v.2.1),(25,.lst .o 1 (slicesZ0.map (e_Li .o))),(26,.i (slicesZ0.length:Int)),(27,.i v.2.2.1)],[(6,.arr 1 (v.2.2.2.map AV.i))]⟩
def SX_bk (v:Nat×Nat×List Int):St:=⟨[(6,.sl 6 v.1 v.2.1)],[(6,.arr 1 (v.2.2.map AV.i))]⟩
theorem w_bk (slicesZ0:List (List Int)) (sZ7:Nat×Nat×Int×List Int) (o:(Nat×Nat×Int×List Int) ⊕ (Nat×Nat×List Int)) (h:M_bk slicesZ0 sZ7=some o):AWP (OkS Tryz.prog) A93L3 (qL [6,25,26,27] [6] (S_bk slicesZ0) (qX 2 [6] [6] (SX_bk)) o) (S_bk slicesZ0 sZ7):=by
 unfold M_bk at h
 simp only [ZC,S_bk,A93L3]
 obtain ⟨cZ8,h⟩ | ⟨cZ8,h⟩:=cond_s h
 · obtain ⟨yZ9,hyZ9,h⟩:=bind_s h
   obtain ⟨hyZ9a,hyZ9b⟩:=geti_s hyZ9
   obtain ⟨lZ10,hlZ10,h⟩:=bnd_s h
   have eZ11:sub (sZ7.2.2.2.map AV.i) sZ7.1 sZ7.2.1=lZ10.map AV.i:=by rw [sub_mapT,hlZ10]
   obtain ⟨uZ12,huZ12,h⟩:=bind_s h
   have huZ12g:=grd_s huZ12
   obtain ⟨lZ13,hlZ13,h⟩:=bnd_s h
   have eZ14:lZ10.map AV.i++yZ9.map AV.i=lZ13.map AV.i:=by rw [← hlZ13,List.map_append]
   cases h
   exact ZL (ZA cZ8 (ZA hyZ9a (ZA hyZ9b (ZA eZ11 (ZA huZ12g eZ14))))) (ZA S_bk.eq_1 SX_bk.eq_1)
 · cases h
   exact ZL cZ8 (ZA S_bk.eq_1 SX_bk.eq_1)
theorem w_dw (slicesZ0:List (List Int)) {r:List Int} (h:M_dw slicesZ0=some r):Ok Tryz.prog 93 [.lst .o 1 (slicesZ0.map (e_Li .o))] ((fun r=>.lst .u 1 (r.map AV.i)) r):=by
 refine ok_of_body hmix m93 rfl ?_
 unfold M_dw at h
 simp only [ZC,A93,V93,body_eq]
 obtain ⟨oZ5,hoZ5,h⟩:=bind_s h
 try refine ZF trivial ?_
 refine join_rule0 (blk_rule0 (loop_rule (w_al slicesZ0) hoZ5 ?_)) ?_
 · exact ZK (ZA S_al.eq_1 SX_al.eq_1)
 · simp only [ZC,SX_al,A93R2]
   obtain ⟨rZ6,hrZ6,h⟩:=bind_s h
   refine ZF trivial ?_
   refine ZW trivial (w_dv _ hrZ6) (h2:=by first | exact nm_ok [4] rfl (by decide +kernel) | exact nm_ok2 [4] [2500004] rfl (by decide +kernel) ZQ | exact ZQ) (hk:=?_)
   refine ZG ?_
   obtain ⟨oZ15,hoZ15,h⟩:=bind_s h
   try refine ZF trivial ?_
   refine join_rule0 (blk_rule0 (loop_rule (w_bk slicesZ0) hoZ15 ?_)) ?_
   · exact ZK (ZA S_bk.eq_1 SX_bk.eq_1)
   · simp only [ZC,SX_bk,A93R4]
     obtain ⟨lZ16,hlZ16,h⟩:=bnd_s h
     have eZ17:sub (oZ15.2.2.map AV.i) oZ15.1 oZ15.2.1=lZ16.map AV.i:=by rw [sub_mapT,hlZ16]
     cases h
     exact ZL eZ17 V93.eq_1
def S_o (acZ0:Nat) (adZ0:Nat) (aeZ0:Bool) (rZ6:List Int) (v:Int×Int×List Bool):St:=⟨[(2,.sl 1000000000 acZ0 adZ0),(3,.b aeZ0),(9,.i v.1),(23,.sl 23 0 rZ6.length),(24,.i (rZ6.length:Int)),(25,.i v.2.1)],[(23,.arr 1 (rZ6.map AV.i)),(1000000000,.arr 1 (v.2.2.map AV.b))]⟩
def SX_o (v:Int×List Bool):St:=⟨[(9,.i v.1)],[(1000000000,.arr 1 (v.2.map AV.b))]⟩
theorem w_o (acZ0:Nat) (adZ0:Nat) (aeZ0:Bool) (rZ6:List Int) (sZ7:Int×Int×List Bool) (o:(Int×Int×List Bool) ⊕ (Int×List Bool)) (h:M_o acZ0 adZ0 aeZ0 rZ6 sZ7=some o):AWP (OkS Tryz.prog) A48M2L2 (qL [2,3,9,23,24,25] [23,1000000000] (S_o acZ0 adZ0 aeZ0 rZ6) (qX 0 [9] [1000000000] (SX_o)) o) (S_o acZ0 adZ0 aeZ0 rZ6 sZ7):=by
 unfold M_o at h
 simp only [ZC,S_o,A48M2L2]
 obtain ⟨cZ8,h⟩ | ⟨cZ8,h⟩:=cond_s h
 · obtain ⟨kZ9,hkZ9,h⟩:=bind_s h
   obtain ⟨hkZ9a,hkZ9b⟩:=grd_s hkZ9
   obtain ⟨yZ10,hyZ10,h⟩:=bind_s h
   obtain ⟨oZ14,hoZ14,h⟩:=bind_s h
   try refine ZF (ZA cZ8 (ZA hkZ9a (ZA hkZ9b hyZ10))) ?_
   refine join_rule0 (sh:=(fun v=>⟨[(2,.sl 1000000000 acZ0 adZ0),(3,.b aeZ0),(9,.i v),(13,.i yZ10),(23,.sl 23 0 rZ6.length),(24,.i (rZ6.length:Int)),(25,.i sZ7.2.1)],[(23,.arr 1 (rZ6.map AV.i)),(1000000000,.arr 1 (sZ7.2.2.map AV.b))]⟩)) (s:=oZ14) ?_ ?_
   · replace h:=hoZ14
     obtain ⟨kZ11,hkZ11,h⟩:=bind_s h
     obtain ⟨hkZ11a,hkZ11b⟩:=grd_s hkZ11
     obtain ⟨yZ12,hyZ12,h⟩:=bind_s h
     obtain ⟨cZ13,h⟩ | ⟨cZ13,h⟩:=cond_s h
     · cases h
       exact ZL (ZA cZ8 (ZA hkZ9a (ZA hkZ9b (ZA hyZ10 (ZA hkZ11a (ZA hkZ11b (ZA hyZ12 cZ13))))))) trivial
     · cases h
       exact ZL (ZA cZ8 (ZA hkZ9a (ZA hkZ9b (ZA hyZ10 (ZA hkZ11a (ZA hkZ11b (ZA hyZ12 cZ13))))))) trivial
   · simp only [ZC,A48M2R1]
     obtain ⟨kZ15,hkZ15,h⟩:=bind_s h
     obtain ⟨hkZ15a,hkZ15b⟩:=grd_s hkZ15
     obtain ⟨yZ16,hyZ16,h⟩:=bind_s h
     obtain ⟨cZ17,h⟩ | ⟨cZ17,h⟩:=cond_s h
     · obtain ⟨lZ18,hlZ18,h⟩:=bnd_s h
       have eZ19:(sZ7.2.2.map AV.b).set (acZ0+(Int.toNat yZ10)) (.b true)=lZ18.map AV.b:=by rw [← hlZ18,List.map_set]
       cases h
       exact ZL (ZA cZ8 (ZA hkZ9a (ZA hkZ9b (ZA hyZ10 (ZA hkZ15a (ZA hkZ15b (ZA hyZ16 (ZA cZ17 eZ19)))))))) (ZA S_o.eq_1 (ZA SX_o.eq_1 hlZ18.symm))
     · obtain ⟨lZ20,hlZ20,h⟩:=bnd_s h
       have eZ21:(sZ7.2.2.map AV.b).set (acZ0+(Int.toNat yZ10)) (.b aeZ0)=lZ20.map AV.b:=by rw [← hlZ20,List.map_set]
       cases h
       exact ZL (ZA cZ8 (ZA hkZ9a (ZA hkZ9b (ZA hyZ10 (ZA hkZ15a (ZA hkZ15b (ZA hyZ16 (ZA cZ17 eZ21)))))))) (ZA S_o.eq_1 (ZA SX_o.eq_1 hlZ20.symm))
 · cases h
   exact ZL cZ8 (ZA S_o.eq_1 SX_o.eq_1)
theorem w_dx (aaZ0:TNetwork) (abZ0:List Int) (acZ0:Nat) (adZ0:Nat) (aeZ0:Bool) (afZ0:List Bool) {r:Int×List Bool} (h:M_dx aaZ0 abZ0 acZ0 adZ0 aeZ0 afZ0=some r):OkM Tryz.prog 48 [.agg [.lst .o 1 (((aaZ0).Nodes).map AV.z),.lst .o 4 (((aaZ0).Fibers).map (e_TFiber .o))],.lst .m 1 (abZ0.map AV.i),.sl 1000000000 acZ0 adZ0,.b aeZ0] [(1000000000,.arr 1 (afZ0.map AV.b))] ((fun (r:Int×List Bool)=>.i r.1) r) ((fun (r:Int×List Bool)=>[(1000000000,.arr 1 (r.2.map AV.b))]) r):=by
 refine okM_of_body (lr:=[1000000000]) hmix m48M2 rfl rfl ?_
 unfold M_dx at h
 simp only [ZC,A48M2,V48M2]
 obtain ⟨rZ1,hrZ1,h⟩:=bind_s h
 refine ZF trivial ?_
 refine ZU trivial (w_du _ _ hrZ1) ?_
 refine ZG ?_
 obtain ⟨lZ2,hlZ2,h⟩:=bnd_s h
 have eZ3:Row.arr 1 [(.lst .u 1 (rZ1.1.map AV.i):AV),(.lst .u 1 (rZ1.2.map AV.i):AV)]=Row.arr 1 (lZ2.map (e_Li .u)):=by rw [← hlZ2]; rfl
 have jjZ4:lZ2.length=2:=by rw [← hlZ2]; rfl
 have nZ5:sub (lZ2.map (e_Li .u)) 0 2=lZ2.map (e_Li .u):=sub_n _ (by simp [← hlZ2])
 obtain ⟨rZ6,hrZ6,h⟩:=bind_s h
 refine ZF (ZA eZ3 (ZA jjZ4 nZ5)) ?_
 refine ZU (ZA eZ3 (ZA jjZ4 nZ5)) (w_dw _ hrZ6) ?_
 refine ZG ?_
 obtain ⟨oZ22,hoZ22,h⟩:=bind_s h
 try refine ZF (ZA eZ3 (ZA jjZ4 nZ5)) ?_
 refine join_rule0 (blk_rule0 (loop_rule (w_o acZ0 adZ0 aeZ0 rZ6) hoZ22 ?_)) ?_
 · exact ZK (ZA S_o.eq_1 (ZA SX_o.eq_1 (ZA hlZ2.symm jjZ4)))
 · simp only [ZC,SX_o,A48M2R3]
   cases h
   exact ZL (ZA eZ3 (ZA jjZ4 nZ5)) (ZA V48M2.eq_1 jjZ4)
def S_bc (nZ0:TNetwork) (rZ1:List (List Int)×Bool) (v:Nat×Int×List Bool):St:=⟨[(1,.pt 1 0 0),(6,.sl 6 0 0),(7,.sl 7 0 v.1),(24,.sl 4 0 rZ1.1.length),(25,.i (rZ1.1.length:Int)),(26,.i v.2.1)],[(1,.var (.agg [.lst .o 1 (nZ0.Nodes.map AV.z),.lst .o 4 (nZ0.Fibers.map (e_TFiber .o))])),(4,.arr 1 (rZ1.1.map (e_Li .u))),(6,.arr 1 []),(7,.arr 1 (v.2.2.map AV.b))]⟩
def SX_bc (v:Nat×List Bool):St:=⟨[(6,.sl 6 0 0),(7,.sl 7 0 v.1)],[(6,.arr 1 []),(7,.arr 1 (v.2.map AV.b))]⟩
theorem w_bc (nZ0:TNetwork) (rZ1:List (List Int)×Bool) (sZ6:Nat×Int×List Bool) (o:(Nat×Int×List Bool) ⊕ (Nat×List Bool)) (h:M_bc nZ0 rZ1 sZ6=some o):AWP (OkS Tryz.prog) A11L1 (qL [1,6,7,24,25,26] [1,4,6,7] (S_bc nZ0 rZ1) (qX 0 [6,7] [6,7] (SX_bc)) o) (S_bc nZ0 rZ1 sZ6):=by
 unfold M_bc at h
 simp only [ZC,S_bc,A11L1]
 obtain ⟨cZ7,h⟩ | ⟨cZ7,h⟩:=cond_s h
 · obtain ⟨kZ8,hkZ8,h⟩:=bind_s h
   obtain ⟨hkZ8a,hkZ8b⟩:=grd_s hkZ8
   obtain ⟨yZ9,hyZ9,h⟩:=bind_s h
   obtain ⟨rZ10,hrZ10,h⟩:=bind_s h
   refine ZF (ZA cZ7 (ZA hkZ8a (ZA hkZ8b hyZ9))) ?_
   refine ZW (ZA cZ7 (ZA hkZ8a (ZA hkZ8b hyZ9))) (w_dx _ _ _ _ _ _ hrZ10) (h2:=by first | exact nm_ok [1000000000] rfl (by decide +kernel) | exact nm_ok2 [1000000000] [] rfl (by decide +kernel) ZQ | exact ZQ) (hk:=?_)
   refine ZG ?_
   cases h
   exact ZL (ZA cZ7 (ZA hkZ8a (ZA hkZ8b hyZ9))) (ZA S_bc.eq_1 SX_bc.eq_1)
 · cases h
   exact ZL cZ7 (ZA S_bc.eq_1 SX_bc.eq_1)
def S_p (oZ11:Nat×List Bool) (v:Int×List Int):St:=⟨[(6,.sl 6 0 v.2.length),(35,.sl 7 0 oZ11.1),(36,.i (oZ11.1:Int)),(37,.i v.1)],[(6,.arr 1 (v.2.map AV.i)),(7,.arr 1 (oZ11.2.map AV.b))]⟩
def SX_p (v:List Int):St:=⟨[(6,.sl 6 0 v.length)],[(6,.arr 1 (v.map AV.i))]⟩
theorem w_p (oZ11:Nat×List Bool) (sZ12:Int×List Int) (o:(Int×List Int) ⊕ (List Int)) (h:M_p oZ11 sZ12=some o):AWP (OkS Tryz.prog) A11L3 (qL [6,35,36,37] [6,7] (S_p oZ11) (qX 2 [6] [6] (SX_p)) o) (S_p oZ11 sZ12):=by
 unfold M_p at h
 simp only [ZC,S_p,A11L3]
 obtain ⟨cZ13,h⟩ | ⟨cZ13,h⟩:=cond_s h
 · obtain ⟨kZ14,hkZ14,h⟩:=bind_s h
   obtain ⟨hkZ14a,hkZ14b⟩:=grd_s hkZ14
   obtain ⟨yZ15,hyZ15,h⟩:=bind_s h
   obtain ⟨cZ16,h⟩ | ⟨cZ16,h⟩:=cond_s h
   · obtain ⟨lZ17,hlZ17,h⟩:=bnd_s h
     have eZ18:Row.arr 1 [(.i sZ12.1:AV)]=Row.arr 1 (lZ17.map AV.i):=by rw [← hlZ17]; rfl
     have jjZ19:lZ17.length=1:=by rw [← hlZ17]; rfl
     obtain ⟨uZ20,huZ20,h⟩:=bind_s h
     have huZ20g:=grd_s huZ20
     obtain ⟨lZ21,hlZ21,h⟩:=bnd_s h
     have eZ22:sZ12.2.map AV.i++lZ17.map AV.i=lZ21.map AV.i:=by rw [← hlZ21,List.map_append]
     have eZ23:sZ12.2.length+1=lZ21.length:=by simp [← hlZ17,← hlZ21] <;> omega
     rw [eZ23] at huZ20g
     cases h
     exact ZL (ZA cZ13 (ZA hkZ14a (ZA hkZ14b (ZA hyZ15 (ZA cZ16 (ZA eZ18 (ZA jjZ19 (ZA huZ20g (ZA eZ22 eZ23))))))))) (ZA S_p.eq_1 (ZA SX_p.eq_1 (ZA hlZ17.symm (ZA hlZ21.symm jjZ19))))
   · cases h
     exact ZL (ZA cZ13 (ZA hkZ14a (ZA hkZ14b (ZA hyZ15 cZ16)))) (ZA S_p.eq_1 SX_p.eq_1)
 · cases h
   exact ZL cZ13 (ZA S_p.eq_1 SX_p.eq_1)
theorem w_cr (nZ0:TNetwork) {r:List Int×Bool} (h:M_cr nZ0=some r):Ok Tryz.prog 11 [.agg [.lst .o 1 (nZ0.Nodes.map AV.z),.lst .o 4 (nZ0.Fibers.map (e_TFiber .o))]] ((fun r=>.tup [.lst .u 1 (r.1.map AV.i),.b r.2]) r):=by
 refine ok_of_body hmix m11 rfl ?_
 unfold M_cr at h
 simp only [ZC,A11,V11,body_eq]
 obtain ⟨rZ1,hrZ1,h⟩:=bind_s h
 refine ZF trivial ?_
 refine ZU trivial (w_dp _ hrZ1) ?_
 refine ZG ?_
 obtain ⟨cZ2,h⟩ | ⟨cZ2,h⟩:=cond_s h
 · cases h
   exact ZL cZ2 V11.eq_1
 · obtain ⟨uZ3,huZ3,h⟩:=bind_s h
   obtain ⟨huZ31,huZ32,huZ33,huZ34⟩:=grd_s huZ3
   obtain ⟨lZ4,hlZ4,h⟩:=bnd_s h
   have eZ5:List.replicate (Int.toNat (nZ0.Fibers.length:Int)) (.b false:AV)=lZ4.map AV.b:=by rw [← hlZ4,List.map_replicate]
   obtain ⟨oZ11,hoZ11,h⟩:=bind_s h
   try refine ZF (ZA cZ2 (ZA huZ31 (ZA huZ32 (ZA huZ33 (ZA huZ34 eZ5))))) ?_
   refine join_rule0 (blk_rule0 (loop_rule (w_bc nZ0 rZ1) hoZ11 ?_)) ?_
   · exact ZK (ZA S_bc.eq_1 (ZA SX_bc.eq_1 (ZA hlZ4.symm @Zr)))
   · simp only [ZC,SX_bc,A11R2]
     obtain ⟨oZ24,hoZ24,h⟩:=bind_s h
     try refine ZF (ZA cZ2 (ZA huZ31 (ZA huZ32 (ZA huZ33 (ZA huZ34 eZ5))))) ?_
     refine join_rule0 (blk_rule0 (loop_rule (w_p oZ11) hoZ24 ?_)) ?_
     · exact ZK (ZA S_p.eq_1 SX_p.eq_1)
     · simp only [ZC,SX_p,A11R4]
       cases h
       exact ZL (ZA cZ2 (ZA huZ31 (ZA huZ32 (ZA huZ33 (ZA huZ34 eZ5))))) V11.eq_1
theorem w_cd (nZ0:TNetwork) (fiberZ0:Int) (nodeZ0:Int) {r:Int} (h:M_cd nZ0 fiberZ0 nodeZ0=some r):Ok Tryz.prog 123 [.agg [.lst .o 1 (nZ0.Nodes.map AV.z),.lst .o 4 (nZ0.Fibers.map (e_TFiber .o))],.i fiberZ0,.i nodeZ0] ((fun r=>.i r) r):=by
 refine ok_of_body hmix m123 rfl ?_
 unfold M_cd at h
 simp only [ZC,A123,V123,body_eq]
 obtain ⟨yZ1,hyZ1,h⟩:=bind_s h
 obtain ⟨hyZ1a,hyZ1b⟩:=geti_s hyZ1
 obtain ⟨cZ2,h⟩ | ⟨cZ2,h⟩:=cond_s h
 · cases h
   exact ZL (ZA hyZ1a (ZA hyZ1b cZ2)) V123.eq_1
 · obtain ⟨cZ3,h⟩ | ⟨cZ3,h⟩:=cond_s h
   · cases h
     exact ZL (ZA hyZ1a (ZA hyZ1b (ZA cZ2 cZ3))) V123.eq_1
   · cases h
     exact ZL (ZA hyZ1a (ZA hyZ1b (ZA cZ2 cZ3))) V123.eq_1
def S_bd (lZ0:List Int) (nZ0:Int) (v:Int):St:=⟨[(0,.lst .o 1 (lZ0.map AV.i)),(1,.i nZ0),(5,.i v)],[]⟩
def SX_bd (v:Unit):St:=⟨[],[]⟩
theorem w_bd (lZ0:List Int) (nZ0:Int) (sZ1:Int) (o:Int ⊕ (Unit ⊕ Bool)) (h:M_bd lZ0 nZ0 sZ1=some o):AWP (OkS Tryz.prog) A83L1 (qL [0,1,5] [] (S_bd lZ0 nZ0) (qS (qX 0 [] [] (SX_bd)) (qR V83 (fun r=>.b r))) o) (S_bd lZ0 nZ0 sZ1):=by
 unfold M_bd at h
 simp only [ZC,S_bd,A83L1]
 obtain ⟨cZ2,h⟩ | ⟨cZ2,h⟩:=cond_s h
 · obtain ⟨yZ3,hyZ3,h⟩:=bind_s h
   obtain ⟨hyZ3a,hyZ3b⟩:=geti_s hyZ3
   obtain ⟨cZ4,h⟩ | ⟨cZ4,h⟩:=cond_s h
   · cases h
     exact ZL (ZA cZ2 (ZA hyZ3a (ZA hyZ3b cZ4))) V83.eq_1
   · cases h
     exact ZL (ZA cZ2 (ZA hyZ3a (ZA hyZ3b cZ4))) (ZA S_bd.eq_1 SX_bd.eq_1)
 · cases h
   exact ZL cZ2 (ZA S_bd.eq_1 SX_bd.eq_1)
theorem w_be (lZ0:List Int) (nZ0:Int) {r:Bool} (h:M_be lZ0 nZ0=some r):Ok Tryz.prog 83 [.lst .o 1 (lZ0.map AV.i),.i nZ0] ((fun r=>.b r) r):=by
 refine ok_of_body hmix m83 rfl ?_
 unfold M_be at h
 simp only [ZC,A83,V83,body_eq]
 obtain ⟨oZ5,hoZ5,h⟩:=bind_s h
 try refine ZF trivial ?_
 refine join_rule (o:=oZ5) (blk_rule sideR (loop_rule (w_bd lZ0 nZ0) hoZ5 ?_)) (fun vZ6 hv=>?_) (fun xZ7 hv e τ hne hq=>?_)
 · exact ZK (ZA S_bd.eq_1 SX_bd.eq_1)
 · subst hv
   simp only [] at h
   simp only [ZC,SX_bd,A83R2]
   cases h
   exact ZL trivial V83.eq_1
 · subst hv
   simp only [] at h
   obtain ⟨rfl,qZ8⟩:=hq
   cases h
   exact qZ8
theorem w_ck (lZ0:List Int) {r:List Int} (h:M_ck lZ0=some r):Ok Tryz.prog 54 [.lst .o 1 (lZ0.map AV.i)] ((fun r=>.lst .u 1 (r.map AV.i)) r):=by
 refine ok_of_body hmix m54 rfl ?_
 unfold M_ck at h
 simp only [ZC,A54,V54,body_eq]
 obtain ⟨uZ1,huZ1,h⟩:=bind_s h
 have huZ1g:=grd_s huZ1
 cases h
 exact ZL huZ1g V54.eq_1
def S_bf (ringZ0:List Int) (v:Int×List Int):St:=⟨[(0,.lst .o 1 (ringZ0.map AV.i)),(3,.sl 3 0 v.2.length),(4,.i v.1)],[(3,.arr 1 (v.2.map AV.i))]⟩
def SX_bf (v:List Int):St:=⟨[(3,.sl 3 0 v.length)],[(3,.arr 1 (v.map AV.i))]⟩
theorem w_bf (ringZ0:List Int) (sZ1:Int×List Int) (o:(Int×List Int) ⊕ (List Int)) (h:M_bf ringZ0 sZ1=some o):AWP (OkS Tryz.prog) A108L1 (qL [0,3,4] [3] (S_bf ringZ0) (qX 0 [3] [3] (SX_bf)) o) (S_bf ringZ0 sZ1):=by
 unfold M_bf at h
 simp only [ZC,S_bf,A108L1]
 obtain ⟨cZ2,h⟩ | ⟨cZ2,h⟩:=cond_s h
 · obtain ⟨yZ3,hyZ3,h⟩:=bind_s h
   obtain ⟨hyZ3a,hyZ3b⟩:=geti_s hyZ3
   obtain ⟨lZ4,hlZ4,h⟩:=bnd_s h
   have eZ5:Row.arr 1 [(.i yZ3:AV)]=Row.arr 1 (lZ4.map AV.i):=by rw [← hlZ4]; rfl
   have jjZ6:lZ4.length=1:=by rw [← hlZ4]; rfl
   obtain ⟨uZ7,huZ7,h⟩:=bind_s h
   have huZ7g:=grd_s huZ7
   obtain ⟨lZ8,hlZ8,h⟩:=bnd_s h
   have eZ9:sZ1.2.map AV.i++lZ4.map AV.i=lZ8.map AV.i:=by rw [← hlZ8,List.map_append]
   have eZ10:sZ1.2.length+1=lZ8.length:=by simp [← hlZ4,← hlZ8] <;> omega
   rw [eZ10] at huZ7g
   cases h
   exact ZL (ZA cZ2 (ZA hyZ3a (ZA hyZ3b (ZA eZ5 (ZA jjZ6 (ZA huZ7g (ZA eZ9 eZ10))))))) (ZA S_bf.eq_1 (ZA SX_bf.eq_1 (ZA hlZ4.symm (ZA hlZ8.symm jjZ6))))
 · cases h
   exact ZL cZ2 (ZA S_bf.eq_1 SX_bf.eq_1)
theorem w_dy (ringZ0:List Int) {r:List Int} (h:M_dy ringZ0=some r):Ok Tryz.prog 108 [.lst .o 1 (ringZ0.map AV.i)] ((fun r=>.lst .u 1 (r.map AV.i)) r):=by
 refine ok_of_body hmix m108 rfl ?_
 unfold M_dy at h
 simp only [ZC,A108,V108,body_eq]
 obtain ⟨oZ11,hoZ11,h⟩:=bind_s h
 try refine ZF trivial ?_
 refine join_rule0 (blk_rule0 (loop_rule (w_bf ringZ0) hoZ11 ?_)) ?_
 · exact ZK (ZA S_bf.eq_1 SX_bf.eq_1)
 · simp only [ZC,SX_bf,A108R2]
   cases h
   exact ZL trivial V108.eq_1
def S_bg (aZ0:List Int) (bZ0:List Int) (v:Int):St:=⟨[(0,.lst .o 1 (aZ0.map AV.i)),(1,.lst .o 1 (bZ0.map AV.i)),(5,.i v)],[]⟩
def SX_bg (v:Unit):St:=⟨[],[]⟩
theorem w_bg (aZ0:List Int) (bZ0:List Int) (sZ2:Int) (o:Int ⊕ (Unit ⊕ Bool)) (h:M_bg aZ0 bZ0 sZ2=some o):AWP (OkS Tryz.prog) A142L1 (qL [0,1,5] [] (S_bg aZ0 bZ0) (qS (qX 0 [] [] (SX_bg)) (qR V142 (fun r=>.b r))) o) (S_bg aZ0 bZ0 sZ2):=by
 unfold M_bg at h
 simp only [ZC,S_bg,A142L1]
 obtain ⟨cZ3,h⟩ | ⟨cZ3,h⟩:=cond_s h
 · obtain ⟨yZ4,hyZ4,h⟩:=bind_s h
   obtain ⟨hyZ4a,hyZ4b⟩:=geti_s hyZ4
   obtain ⟨yZ5,hyZ5,h⟩:=bind_s h
   obtain ⟨hyZ5a,hyZ5b⟩:=geti_s hyZ5
   obtain ⟨cZ6,h⟩ | ⟨cZ6,h⟩:=cond_s h
   · cases h
     exact ZL (ZA cZ3 (ZA hyZ4a (ZA hyZ4b (ZA hyZ5a (ZA hyZ5b cZ6))))) V142.eq_1
   · cases h
     exact ZL (ZA cZ3 (ZA hyZ4a (ZA hyZ4b (ZA hyZ5a (ZA hyZ5b cZ6))))) (ZA S_bg.eq_1 SX_bg.eq_1)
 · cases h
   exact ZL cZ3 (ZA S_bg.eq_1 SX_bg.eq_1)
theorem w_bw (aZ0:List Int) (bZ0:List Int) {r:Bool} (h:M_bw aZ0 bZ0=some r):Ok Tryz.prog 142 [.lst .o 1 (aZ0.map AV.i),.lst .o 1 (bZ0.map AV.i)] ((fun r=>.b r) r):=by
 refine ok_of_body hmix m142 rfl ?_
 unfold M_bw at h
 simp only [ZC,A142,V142,body_eq]
 obtain ⟨cZ1,h⟩ | ⟨cZ1,h⟩:=cond_s h
 · cases h
   exact ZL cZ1 V142.eq_1
 · obtain ⟨oZ7,hoZ7,h⟩:=bind_s h
   try refine ZF cZ1 ?_
   refine join_rule (o:=oZ7) (blk_rule sideR (loop_rule (w_bg aZ0 bZ0) hoZ7 ?_)) (fun vZ8 hv=>?_) (fun xZ9 hv e τ hne hq=>?_)
   · exact ZK (ZA S_bg.eq_1 SX_bg.eq_1)
   · subst hv
     simp only [] at h
     simp only [ZC,SX_bg,A142R2]
     cases h
     exact ZL cZ1 V142.eq_1
   · subst hv
     simp only [] at h
     obtain ⟨rfl,qZ10⟩:=hq
     cases h
     exact qZ10
def S_am (aaZ0:List (List Int)) (abZ0:List Int) (v:Int):St:=⟨[(0,.sl 1000000000 0 aaZ0.length),(1,.lst .m 1 (abZ0.map AV.i)),(5,.i v)],[(1000000000,.arr 1 (aaZ0.map (e_Li .m)))]⟩
def SX_am (aaZ0:List (List Int)) (abZ0:List Int) (v:Int):St:=⟨[(0,.sl 1000000000 0 aaZ0.length),(1,.lst .m 1 (abZ0.map AV.i)),(5,.i v)],[(1000000000,.arr 1 (aaZ0.map (e_Li .m)))]⟩
theorem w_am (aaZ0:List (List Int)) (abZ0:List Int) (sZ1:Int) (o:Int ⊕ Int) (h:M_am aaZ0 abZ0 sZ1=some o):AWP (OkS Tryz.prog) A157M3L1 (qL [0,1,5] [1000000000] (S_am aaZ0 abZ0) (qX 0 [0,1,5] [1000000000] (SX_am aaZ0 abZ0)) o) (S_am aaZ0 abZ0 sZ1):=by
 unfold M_am at h
 simp only [ZC,S_am,A157M3L1]
 obtain ⟨cZ2,h⟩ | ⟨cZ2,h⟩:=cond_s h
 · obtain ⟨kZ3,hkZ3,h⟩:=bind_s h
   obtain ⟨hkZ3a,hkZ3b⟩:=grd_s hkZ3
   obtain ⟨yZ4,hyZ4,h⟩:=bind_s h
   obtain ⟨rZ5,hrZ5,h⟩:=bind_s h
   refine ZF (ZA cZ2 (ZA hkZ3a (ZA hkZ3b hyZ4))) ?_
   refine ZS (ZA cZ2 (ZA hkZ3a (ZA hkZ3b hyZ4))) (w_bw _ _ hrZ5) ?_
   refine ZG ?_
   obtain ⟨cZ6,h⟩ | ⟨cZ6,h⟩:=cond_s h
   · cases h
     exact ZL (ZA cZ2 (ZA hkZ3a (ZA hkZ3b (ZA hyZ4 cZ6)))) (ZA S_am.eq_1 SX_am.eq_1)
   · cases h
     exact ZL (ZA cZ2 (ZA hkZ3a (ZA hkZ3b (ZA hyZ4 cZ6)))) (ZA S_am.eq_1 SX_am.eq_1)
 · cases h
   exact ZL cZ2 (ZA S_am.eq_1 SX_am.eq_1)
theorem w_dz (aaZ0:List (List Int)) (abZ0:List Int) {r:List (List Int)×List (List Int)} (h:M_dz aaZ0 abZ0=some r):OkM Tryz.prog 157 [.sl 1000000000 0 aaZ0.length,.sl 1000000001 0 abZ0.length] [(1000000000,.arr 1 (aaZ0.map (e_Li .m))),(1000000001,.arr 1 (abZ0.map AV.i))] ((fun (r:List (List Int)×List (List Int))=>.sl 4 0 r.1.length) r) ((fun (r:List (List Int)×List (List Int))=>[(4,.arr 1 (r.1.map (e_Li .m))),(1000000000,.arr 1 (r.2.map (e_Li .m)))]) r):=by
 refine okM_of_body (lr:=[4,1000000000]) hmix m157M3 rfl rfl ?_
 unfold M_dz at h
 simp only [ZC,A157M3,V157M3]
 obtain ⟨oZ7,hoZ7,h⟩:=bind_s h
 try refine ZF trivial ?_
 refine join_rule0 (blk_rule0 (loop_rule (w_am aaZ0 abZ0) hoZ7 ?_)) ?_
 · exact ZK (ZA S_am.eq_1 SX_am.eq_1)
 · simp only [ZC,SX_am,A157M3R2]
   obtain ⟨uZ8,huZ8,h⟩:=bind_s h
   obtain ⟨huZ8a,huZ8b,huZ8c,huZ8d⟩:=grd_s huZ8
   obtain ⟨lZ9,hlZ9,h⟩:=bnd_s h
   have eZ10:sub (aaZ0.map (e_Li .m)) 0 (Int.toNat oZ7)=lZ9.map (e_Li .m):=by rw [sub_mapT,hlZ9]
   obtain ⟨uZ11,huZ11,h⟩:=bind_s h
   have huZ11g:=grd_s huZ11
   obtain ⟨lZ12,hlZ12,h⟩:=bnd_s h
   have eZ13:Row.arr 1 [(.lst .m 1 (abZ0.map AV.i):AV)]=Row.arr 1 (lZ12.map (e_Li .m)):=by rw [← hlZ12]; rfl
   have jjZ14:lZ12.length=1:=by rw [← hlZ12]; rfl
   obtain ⟨uZ15,huZ15,h⟩:=bind_s h
   have huZ15g:=grd_s huZ15
   obtain ⟨lZ16,hlZ16,h⟩:=bnd_s h
   have eZ17:lZ9.map (e_Li .m)++lZ12.map (e_Li .m)=lZ16.map (e_Li .m):=by rw [← hlZ16,List.map_append]
   have eZ18:lZ9.length+1=lZ16.length:=by simp [← hlZ12,← hlZ16] <;> omega
   rw [eZ18] at huZ15g
   obtain ⟨uZ19,huZ19,h⟩:=bind_s h
   obtain ⟨huZ19a,huZ19b,huZ19c,huZ19d⟩:=grd_s huZ19
   obtain ⟨lZ20,hlZ20,h⟩:=bnd_s h
   have eZ21:sub (aaZ0.map (e_Li .m)) (Int.toNat oZ7) (aaZ0.length - (Int.toNat oZ7))=lZ20.map (e_Li .m):=by rw [sub_mapT,hlZ20]
   obtain ⟨uZ22,huZ22,h⟩:=bind_s h
   have huZ22g:=grd_s huZ22
   obtain ⟨lZ23,hlZ23,h⟩:=bnd_s h
   have eZ24:lZ16.map (e_Li .m)++lZ20.map (e_Li .m)=lZ23.map (e_Li .m):=by rw [← hlZ23,List.map_append]
   have eZ25:lZ16.length+lZ20.length=lZ23.length:=by simp [← hlZ12,← hlZ16,← hlZ23] <;> omega
   rw [eZ25] at huZ22g
   cases h
   exact ZL (ZA huZ8a (ZA huZ8b (ZA huZ8c (ZA huZ8d (ZA eZ10 (ZA huZ11g (ZA eZ13 (ZA jjZ14 (ZA huZ15g (ZA eZ17 (ZA eZ18 (ZA huZ19a (ZA huZ19b (ZA huZ19c (ZA huZ19d (ZA eZ21 (ZA huZ22g (ZA eZ24 eZ25)))))))))))))))))) (ZA V157M3.eq_1 (ZA hlZ12.symm (ZA hlZ16.symm (ZA hlZ23.symm jjZ14))))
def S_e (aaZ0:Int) (abZ0:Int) (afZ0:List Int) (agZ0:List Int) (v:Int×List ByteArray×List TFiber×List (List Int)):St:=⟨[(0,.pt 1000000000 0 0),(1,.i aaZ0),(2,.i abZ0),(3,.sl 1000000002 0 afZ0.length),(4,.sl 1000000003 0 agZ0.length),(10,.i v.1)],[(470000002,.arr 1 (v.2.2.2.map (e_Li .m))),(1000000000,.var (.agg [.lst .o 1 (v.2.1.map AV.z),.lst .o 4 (v.2.2.1.map (e_TFiber .o)),.sl 470000002 0 v.2.2.2.length])),(1000000002,.arr 1 (afZ0.map AV.i)),(1000000003,.arr 1 (agZ0.map AV.i))]⟩
def SX_e (afZ0:List Int) (agZ0:List Int) (v:List ByteArray×List TFiber×List (List Int)):St:=⟨[],[(470000002,.arr 1 (v.2.2.map (e_Li .m))),(1000000000,.var (.agg [.lst .o 1 (v.1.map AV.z),.lst .o 4 (v.2.1.map (e_TFiber .o)),.sl 470000002 0 v.2.2.length])),(1000000002,.arr 1 (afZ0.map AV.i)),(1000000003,.arr 1 (agZ0.map AV.i))]⟩
theorem w_e (aaZ0:Int) (abZ0:Int) (acZ0:List ByteArray) (adZ0:List TFiber) (aeZ0:List (List Int)) (afZ0:List Int) (agZ0:List Int) (rcZ0:Int→Int→List ByteArray→List TFiber→List (List Int)→List Int→List Int→Option (List ByteArray×List TFiber×List (List Int)×List Int×List Int)) (ihZ0:∀ (aaZ0:Int) (abZ0:Int) (acZ0:List ByteArray) (adZ0:List TFiber) (aeZ0:List (List Int)) (afZ0:List Int) (agZ0:List Int) {r:List ByteArray×List TFiber×List (List Int)×List Int×List Int},rcZ0 aaZ0 abZ0 acZ0 adZ0 aeZ0 afZ0 agZ0=some r→OkM Tryz.prog 132 [.pt 1000000000 0 0,.i aaZ0,.i abZ0,.sl 1000000002 0 afZ0.length,.sl 1000000003 0 agZ0.length] [(1000000000,.var (.agg [.lst .o 1 (acZ0.map AV.z),.lst .o 4 (adZ0.map (e_TFiber .o)),.sl 1000000001 0 aeZ0.length])),(1000000001,.arr 1 (aeZ0.map (e_Li .m))),(1000000002,.arr 1 (afZ0.map AV.i)),(1000000003,.arr 1 (agZ0.map AV.i))] ((fun (r:List ByteArray×List TFiber×List (List Int)×List Int×List Int)=>.tup []) r) ((fun (r:List ByteArray×List TFiber×List (List Int)×List Int×List Int)=>[(470000002,.arr 1 (r.2.2.1.map (e_Li .m))),(1000000000,.var (.agg [.lst .o 1 (r.1.map AV.z),.lst .o 4 (r.2.1.map (e_TFiber .o)),.sl 470000002 0 r.2.2.1.length])),(1000000002,.arr 1 (r.2.2.2.1.map AV.i)),(1000000003,.arr 1 (r.2.2.2.2.map AV.i))]) r)) (sZ1:Int×List ByteArray×List TFiber×List (List Int)) (o:(Int×List ByteArray×List TFiber×List (List Int)) ⊕ (List ByteArray×List TFiber×List (List Int))) (h:M_e aaZ0 abZ0 afZ0 agZ0 rcZ0 sZ1=some o):AWP (OkS Tryz.prog) A132M2L5 (qL [0,1,2,3,4,10] [470000002,1000000000,1000000002,1000000003] (S_e aaZ0 abZ0 afZ0 agZ0) (qX 0 [] [470000002,1000000000,1000000002,1000000003] (SX_e afZ0 agZ0)) o) (S_e aaZ0 abZ0 afZ0 agZ0 sZ1):=by
 unfold M_e at h
 simp only [ZC,S_e,A132M2L5]
 obtain ⟨oZ3,hoZ3,h⟩:=bind_s h
 try refine ZF trivial ?_
 refine join_rule0 (sh:=(fun v=>⟨[(0,.pt 1000000000 0 0),(1,.i aaZ0),(2,.i abZ0),(3,.sl 1000000002 0 afZ0.length),(4,.sl 1000000003 0 agZ0.length),(10,.i sZ1.1),(28,.b v)],[(470000002,.arr 1 (sZ1.2.2.2.map (e_Li .m))),(1000000000,.var (.agg [.lst .o 1 (sZ1.2.1.map AV.z),.lst .o 4 (sZ1.2.2.1.map (e_TFiber .o)),.sl 470000002 0 sZ1.2.2.2.length])),(1000000002,.arr 1 (afZ0.map AV.i)),(1000000003,.arr 1 (agZ0.map AV.i))]⟩)) (s:=oZ3) ?_ ?_
 · replace h:=hoZ3
   obtain ⟨cZ2,h⟩ | ⟨cZ2,h⟩:=cond_s h
   · cases h
     exact ZL cZ2 trivial
   · cases h
     exact ZL cZ2 trivial
 · simp only [ZC,A132M2R1]
   obtain ⟨cZ4,h⟩ | ⟨cZ4,h⟩:=cond_s h
   · obtain ⟨rZ5,hrZ5,h⟩:=bind_s h
     refine ZF cZ4 ?_
     refine ZS cZ4 (w_cd _ _ _ hrZ5) ?_
     refine ZG ?_
     obtain ⟨oZ8,hoZ8,h⟩:=bind_s h
     try refine ZF cZ4 ?_
     refine join_rule0 (sh:=(fun v=>⟨[(0,.pt 1000000000 0 0),(1,.i aaZ0),(2,.i abZ0),(3,.sl 1000000002 0 afZ0.length),(4,.sl 1000000003 0 agZ0.length),(10,.i sZ1.1),(11,.i rZ5),(45,.b v)],[(470000002,.arr 1 (sZ1.2.2.2.map (e_Li .m))),(1000000000,.var (.agg [.lst .o 1 (sZ1.2.1.map AV.z),.lst .o 4 (sZ1.2.2.1.map (e_TFiber .o)),.sl 470000002 0 sZ1.2.2.2.length])),(1000000002,.arr 1 (afZ0.map AV.i)),(1000000003,.arr 1 (agZ0.map AV.i))]⟩)) (s:=oZ8) ?_ ?_
     · replace h:=hoZ8
       obtain ⟨cZ6,h⟩ | ⟨cZ6,h⟩:=cond_s h
       · cases h
         exact ZL (ZA cZ4 cZ6) trivial
       · obtain ⟨rZ7,hrZ7,h⟩:=bind_s h
         refine ZF (ZA cZ4 cZ6) ?_
         refine ZS (ZA cZ4 cZ6) (w_be _ _ hrZ7) ?_
         refine ZG ?_
         cases h
         exact ZL (ZA cZ4 cZ6) trivial
     · simp only [ZC,A132M2R2]
       obtain ⟨cZ9,h⟩ | ⟨cZ9,h⟩:=cond_s h
       · cases h
         exact ZL (ZA cZ4 cZ9) (ZA S_e.eq_1 SX_e.eq_1)
       · obtain ⟨rZ10,hrZ10,h⟩:=bind_s h
         refine ZF (ZA cZ4 cZ9) ?_
         refine ZU (ZA cZ4 cZ9) (w_ck _ hrZ10) ?_
         refine ZG ?_
         obtain ⟨lZ11,hlZ11,h⟩:=bnd_s h
         have eZ12:Row.arr 1 [(.i sZ1.1:AV)]=Row.arr 1 (lZ11.map AV.i):=by rw [← hlZ11]; rfl
         have jjZ13:lZ11.length=1:=by rw [← hlZ11]; rfl
         obtain ⟨uZ14,huZ14,h⟩:=bind_s h
         have huZ14g:=grd_s huZ14
         obtain ⟨lZ15,hlZ15,h⟩:=bnd_s h
         have eZ16:rZ10.map AV.i++lZ11.map AV.i=lZ15.map AV.i:=by rw [← hlZ15,List.map_append]
         have eZ17:rZ10.length+1=lZ15.length:=by simp [← hlZ11,← hlZ15] <;> omega
         rw [eZ17] at huZ14g
         obtain ⟨cZ18,h⟩ | ⟨cZ18,h⟩:=cond_s h
         · obtain ⟨oZ25,hoZ25,h⟩:=bind_s h
           try refine ZF (ZA cZ4 (ZA cZ9 (ZA eZ12 (ZA jjZ13 (ZA huZ14g (ZA eZ16 (ZA eZ17 cZ18))))))) ?_
           refine join_rule0 (sh:=(fun v=>⟨[(0,.pt 1000000000 0 0),(1,.i aaZ0),(2,.i abZ0),(3,.sl 1000000002 0 afZ0.length),(4,.sl 1000000003 0 agZ0.length),(10,.i sZ1.1)],[(470000002,.arr 1 (v.map (e_Li .m))),(1000000000,.var (.agg [.lst .o 1 (sZ1.2.1.map AV.z),.lst .o 4 (sZ1.2.2.1.map (e_TFiber .o)),.sl 470000002 0 v.length])),(1000000002,.arr 1 (afZ0.map AV.i)),(1000000003,.arr 1 (agZ0.map AV.i))]⟩)) (s:=oZ25) ?_ ?_
           · replace h:=hoZ25
             obtain ⟨oZ22,hoZ22,h⟩:=bind_s h
             try refine ZF (ZA cZ4 (ZA cZ9 (ZA eZ12 (ZA jjZ13 (ZA huZ14g (ZA eZ16 (ZA eZ17 cZ18))))))) ?_
             refine join_rule0 (sh:=(fun v=>⟨[(0,.pt 1000000000 0 0),(1,.i aaZ0),(2,.i abZ0),(3,.sl 1000000002 0 afZ0.length),(4,.sl 1000000003 0 agZ0.length),(10,.i sZ1.1),(12,.sl 12 0 lZ15.length),(63,.b v)],[(12,.arr 1 (lZ15.map AV.i)),(470000002,.arr 1 (sZ1.2.2.2.map (e_Li .m))),(1000000000,.var (.agg [.lst .o 1 (sZ1.2.1.map AV.z),.lst .o 4 (sZ1.2.2.1.map (e_TFiber .o)),.sl 470000002 0 sZ1.2.2.2.length])),(1000000002,.arr 1 (afZ0.map AV.i)),(1000000003,.arr 1 (agZ0.map AV.i))]⟩)) (s:=oZ22) ?_ ?_
             · replace h:=hoZ22
               obtain ⟨cZ19,h⟩ | ⟨cZ19,h⟩:=cond_s h
               · obtain ⟨rZ20,hrZ20,h⟩:=bind_s h
                 refine ZF (ZA cZ4 (ZA cZ9 (ZA eZ12 (ZA jjZ13 (ZA huZ14g (ZA eZ16 (ZA eZ17 (ZA cZ18 cZ19)))))))) ?_
                 refine ZU (ZA cZ4 (ZA cZ9 (ZA eZ12 (ZA jjZ13 (ZA huZ14g (ZA eZ16 (ZA eZ17 (ZA cZ18 cZ19)))))))) (w_dy _ hrZ20) ?_
                 refine ZG ?_
                 obtain ⟨rZ21,hrZ21,h⟩:=bind_s h
                 refine ZF (ZA cZ4 (ZA cZ9 (ZA eZ12 (ZA jjZ13 (ZA huZ14g (ZA eZ16 (ZA eZ17 (ZA cZ18 cZ19)))))))) ?_
                 refine ZS (ZA cZ4 (ZA cZ9 (ZA eZ12 (ZA jjZ13 (ZA huZ14g (ZA eZ16 (ZA eZ17 (ZA cZ18 cZ19)))))))) (w_bw _ _ hrZ21) ?_
                 refine ZG ?_
                 cases h
                 exact ZL (ZA cZ4 (ZA cZ9 (ZA eZ12 (ZA jjZ13 (ZA huZ14g (ZA eZ16 (ZA eZ17 (ZA cZ18 cZ19)))))))) (ZA hlZ11.symm (ZA hlZ15.symm jjZ13))
               · cases h
                 exact ZL (ZA cZ4 (ZA cZ9 (ZA eZ12 (ZA jjZ13 (ZA huZ14g (ZA eZ16 (ZA eZ17 (ZA cZ18 cZ19)))))))) (ZA hlZ11.symm (ZA hlZ15.symm jjZ13))
             · simp only [ZC,A132M2R3]
               obtain ⟨cZ23,h⟩ | ⟨cZ23,h⟩:=cond_s h
               · obtain ⟨rZ24,hrZ24,h⟩:=bind_s h
                 refine ZF (ZA cZ4 (ZA cZ9 (ZA eZ12 (ZA jjZ13 (ZA huZ14g (ZA eZ16 (ZA eZ17 (ZA cZ18 cZ23)))))))) ?_
                 refine ZW (ZA cZ4 (ZA cZ9 (ZA eZ12 (ZA jjZ13 (ZA huZ14g (ZA eZ16 (ZA eZ17 (ZA cZ18 cZ23)))))))) (w_dz _ _ hrZ24) (h2:=by first | exact nm_ok [4,1000000000] rfl (by decide +kernel) | exact nm_ok2 [4,1000000000] [7100004] rfl (by decide +kernel) ZQ | exact ZQ) (hk:=?_)
                 refine ZG ?_
                 cases h
                 exact ZL (ZA cZ4 (ZA cZ9 (ZA eZ12 (ZA jjZ13 (ZA huZ14g (ZA eZ16 (ZA eZ17 (ZA cZ18 cZ23)))))))) jjZ13
               · cases h
                 exact ZL (ZA cZ4 (ZA cZ9 (ZA eZ12 (ZA jjZ13 (ZA huZ14g (ZA eZ16 (ZA eZ17 (ZA cZ18 cZ23)))))))) jjZ13
           · simp only [ZC,A132M2R4]
             cases h
             exact ZL (ZA cZ4 (ZA cZ9 (ZA eZ12 (ZA jjZ13 (ZA huZ14g (ZA eZ16 (ZA eZ17 cZ18))))))) (ZA S_e.eq_1 (ZA SX_e.eq_1 jjZ13))
         · obtain ⟨rZ26,hrZ26,h⟩:=bind_s h
           refine ZF (ZA cZ4 (ZA cZ9 (ZA eZ12 (ZA jjZ13 (ZA huZ14g (ZA eZ16 (ZA eZ17 cZ18))))))) ?_
           refine ZS (ZA cZ4 (ZA cZ9 (ZA eZ12 (ZA jjZ13 (ZA huZ14g (ZA eZ16 (ZA eZ17 cZ18))))))) (w_be _ _ hrZ26) ?_
           refine ZG ?_
           obtain ⟨cZ27,h⟩ | ⟨cZ27,h⟩:=cond_s h
           · obtain ⟨rZ28,hrZ28,h⟩:=bind_s h
             refine ZF (ZA cZ4 (ZA cZ9 (ZA eZ12 (ZA jjZ13 (ZA huZ14g (ZA eZ16 (ZA eZ17 (ZA cZ18 cZ27)))))))) ?_
             refine ZU (ZA cZ4 (ZA cZ9 (ZA eZ12 (ZA jjZ13 (ZA huZ14g (ZA eZ16 (ZA eZ17 (ZA cZ18 cZ27)))))))) (w_ck _ hrZ28) ?_
             refine ZG ?_
             obtain ⟨lZ29,hlZ29,h⟩:=bnd_s h
             have eZ30:Row.arr 1 [(.i rZ5:AV)]=Row.arr 1 (lZ29.map AV.i):=by rw [← hlZ29]; rfl
             have jjZ31:lZ29.length=1:=by rw [← hlZ29]; rfl
             obtain ⟨uZ32,huZ32,h⟩:=bind_s h
             have huZ32g:=grd_s huZ32
             obtain ⟨lZ33,hlZ33,h⟩:=bnd_s h
             have eZ34:rZ28.map AV.i++lZ29.map AV.i=lZ33.map AV.i:=by rw [← hlZ33,List.map_append]
             have eZ35:rZ28.length+1=lZ33.length:=by simp [← hlZ11,← hlZ15,← hlZ29,← hlZ33] <;> omega
             rw [eZ35] at huZ32g
             obtain ⟨rZ36,hrZ36,h⟩:=bind_s h
             refine ZF (ZA cZ4 (ZA cZ9 (ZA eZ12 (ZA jjZ13 (ZA huZ14g (ZA eZ16 (ZA eZ17 (ZA cZ18 (ZA cZ27 (ZA eZ30 (ZA jjZ31 (ZA huZ32g (ZA eZ34 eZ35))))))))))))) ?_
             refine ZW (ZA cZ4 (ZA cZ9 (ZA eZ12 (ZA jjZ13 (ZA huZ14g (ZA eZ16 (ZA eZ17 (ZA cZ18 (ZA cZ27 (ZA eZ30 (ZA jjZ31 (ZA huZ32g (ZA eZ34 eZ35))))))))))))) (ihZ0 _ _ _ _ _ _ _ hrZ36) (h2:=by first | exact nm_ok [470000002,1000000000,1000000002,1000000003] rfl (by decide +kernel) | exact nm_ok2 [470000002,1000000000,1000000002,1000000003] [478700002] rfl (by decide +kernel) ZQ | exact ZQ) (hk:=?_)
             refine ZG ?_
             cases h
             exact ZL (ZA cZ4 (ZA cZ9 (ZA eZ12 (ZA jjZ13 (ZA huZ14g (ZA eZ16 (ZA eZ17 (ZA cZ18 (ZA cZ27 (ZA eZ30 (ZA jjZ31 (ZA huZ32g (ZA eZ34 eZ35))))))))))))) (ZA S_e.eq_1 (ZA SX_e.eq_1 (ZA hlZ11.symm (ZA hlZ15.symm (ZA hlZ29.symm (ZA hlZ33.symm (ZA jjZ13 jjZ31)))))))
           · cases h
             exact ZL (ZA cZ4 (ZA cZ9 (ZA eZ12 (ZA jjZ13 (ZA huZ14g (ZA eZ16 (ZA eZ17 (ZA cZ18 cZ27)))))))) (ZA S_e.eq_1 (ZA SX_e.eq_1 (ZA hlZ11.symm (ZA hlZ15.symm jjZ13))))
   · cases h
     exact ZL cZ4 (ZA S_e.eq_1 SX_e.eq_1)
theorem wB_ce (rcZ0:Int→Int→List ByteArray→List TFiber→List (List Int)→List Int→List Int→Option (List ByteArray×List TFiber×List (List Int)×List Int×List Int)) (ihZ0:∀ (aaZ0:Int) (abZ0:Int) (acZ0:List ByteArray) (adZ0:List TFiber) (aeZ0:List (List Int)) (afZ0:List Int) (agZ0:List Int) {r:List ByteArray×List TFiber×List (List Int)×List Int×List Int},rcZ0 aaZ0 abZ0 acZ0 adZ0 aeZ0 afZ0 agZ0=some r→OkM Tryz.prog 132 [.pt 1000000000 0 0,.i aaZ0,.i abZ0,.sl 1000000002 0 afZ0.length,.sl 1000000003 0 agZ0.length] [(1000000000,.var (.agg [.lst .o 1 (acZ0.map AV.z),.lst .o 4 (adZ0.map (e_TFiber .o)),.sl 1000000001 0 aeZ0.length])),(1000000001,.arr 1 (aeZ0.map (e_Li .m))),(1000000002,.arr 1 (afZ0.map AV.i)),(1000000003,.arr 1 (agZ0.map AV.i))] ((fun (r:List ByteArray×List TFiber×List (List Int)×List Int×List Int)=>.tup []) r) ((fun (r:List ByteArray×List TFiber×List (List Int)×List Int×List Int)=>[(470000002,.arr 1 (r.2.2.1.map (e_Li .m))),(1000000000,.var (.agg [.lst .o 1 (r.1.map AV.z),.lst .o 4 (r.2.1.map (e_TFiber .o)),.sl 470000002 0 r.2.2.1.length])),(1000000002,.arr 1 (r.2.2.2.1.map AV.i)),(1000000003,.arr 1 (r.2.2.2.2.map AV.i))]) r)) (aaZ0:Int) (abZ0:Int) (acZ0:List ByteArray) (adZ0:List TFiber) (aeZ0:List (List Int)) (afZ0:List Int) (agZ0:List Int) {r:List ByteArray×List TFiber×List (List Int)×List Int×List Int} (h:M_ea rcZ0 aaZ0 abZ0 acZ0 adZ0 aeZ0 afZ0 agZ0=some r):OkM Tryz.prog 132 [.pt 1000000000 0 0,.i aaZ0,.i abZ0,.sl 1000000002 0 afZ0.length,.sl 1000000003 0 agZ0.length] [(1000000000,.var (.agg [.lst .o 1 (acZ0.map AV.z),.lst .o 4 (adZ0.map (e_TFiber .o)),.sl 1000000001 0 aeZ0.length])),(1000000001,.arr 1 (aeZ0.map (e_Li .m))),(1000000002,.arr 1 (afZ0.map AV.i)),(1000000003,.arr 1 (agZ0.map AV.i))] ((fun (r:List ByteArray×List TFiber×List (List Int)×List Int×List Int)=>.tup []) r) ((fun (r:List ByteArray×List TFiber×List (List Int)×List Int×List Int)=>[(470000002,.arr 1 (r.2.2.1.map (e_Li .m))),(1000000000,.var (.agg [.lst .o 1 (r.1.map AV.z),.lst .o 4 (r.2.1.map (e_TFiber .o)),.sl 470000002 0 r.2.2.1.length])),(1000000002,.arr 1 (r.2.2.2.1.map AV.i)),(1000000003,.arr 1 (r.2.2.2.2.map AV.i))]) r):=by
 refine okM_of_body (lr:=[470000002,1000000000,1000000002,1000000003]) hmix m132M2 rfl rfl ?_
 unfold M_ea at h
 simp only [ZC,A132M2,V132M2]
 obtain ⟨oZ37,hoZ37,h⟩:=bind_s h
 try refine ZF trivial ?_
 first | refine tail_rule0 (blk_rule0 (loop_rule (w_e aaZ0 abZ0 acZ0 adZ0 aeZ0 afZ0 agZ0 rcZ0 ihZ0) hoZ37 ?_)) (fun τ qZ38=>?_) | refine tail_blk0 (loop_rule (w_e aaZ0 abZ0 acZ0 adZ0 aeZ0 afZ0 agZ0 rcZ0 ihZ0) hoZ37 ?_) (fun τ qZ38=>?_)
 · exact ZK (ZA S_e.eq_1 SX_e.eq_1)
 · cases h
   refine finM_shp qZ38 (by decide) ?_ rfl
   exact ZK (ZA V132M2.eq_1 SX_e.eq_1)
theorem w_ce:∀ (n:Nat) (aaZ0:Int) (abZ0:Int) (acZ0:List ByteArray) (adZ0:List TFiber) (aeZ0:List (List Int)) (afZ0:List Int) (agZ0:List Int) {r:List ByteArray×List TFiber×List (List Int)×List Int×List Int} (_:M_ce n aaZ0 abZ0 acZ0 adZ0 aeZ0 afZ0 agZ0=some r),OkM Tryz.prog 132 [.pt 1000000000 0 0,.i aaZ0,.i abZ0,.sl 1000000002 0 afZ0.length,.sl 1000000003 0 agZ0.length] [(1000000000,.var (.agg [.lst .o 1 (acZ0.map AV.z),.lst .o 4 (adZ0.map (e_TFiber .o)),.sl 1000000001 0 aeZ0.length])),(1000000001,.arr 1 (aeZ0.map (e_Li .m))),(1000000002,.arr 1 (afZ0.map AV.i)),(1000000003,.arr 1 (agZ0.map AV.i))] ((fun (r:List ByteArray×List TFiber×List (List Int)×List Int×List Int)=>.tup []) r) ((fun (r:List ByteArray×List TFiber×List (List Int)×List Int×List Int)=>[(470000002,.arr 1 (r.2.2.1.map (e_Li .m))),(1000000000,.var (.agg [.lst .o 1 (r.1.map AV.z),.lst .o 4 (r.2.1.map (e_TFiber .o)),.sl 470000002 0 r.2.2.1.length])),(1000000002,.arr 1 (r.2.2.2.1.map AV.i)),(1000000003,.arr 1 (r.2.2.2.2.map AV.i))]) r)
 | 0,aaZ0,abZ0,acZ0,adZ0,aeZ0,afZ0,agZ0,_,h=>by cases h
 | n+1,aaZ0,abZ0,acZ0,adZ0,aeZ0,afZ0,agZ0,_,h=>wB_ce (M_ce n) (w_ce n) aaZ0 abZ0 acZ0 adZ0 aeZ0 afZ0 agZ0 h
def S_bl (aaZ0:TNetwork) (v:Int×List ByteArray×List TFiber×List (List Int)):St:=⟨[(1,.pt 1 0 0),(3,.pt 8 0 0),(4,.i v.1)],[(1,.var (.agg [.lst .o 1 (((aaZ0).Nodes).map AV.z),.lst .o 4 (((aaZ0).Fibers).map (e_TFiber .o))])),(8,.var (.agg [.lst .o 1 (v.2.1.map AV.z),.lst .o 4 (v.2.2.1.map (e_TFiber .o)),.sl 500000514 0 v.2.2.2.length])),(500000514,.arr 1 (v.2.2.2.map (e_Li .m)))]⟩
def SX_bl (v:List ByteArray×List TFiber×List (List Int)):St:=⟨[(3,.pt 8 0 0)],[(8,.var (.agg [.lst .o 1 (v.1.map AV.z),.lst .o 4 (v.2.1.map (e_TFiber .o)),.sl 500000514 0 v.2.2.length])),(500000514,.arr 1 (v.2.2.map (e_Li .m)))]⟩
theorem w_bl (aaZ0:TNetwork) (sZ1:Int×List ByteArray×List TFiber×List (List Int)) (o:(Int×List ByteArray×List TFiber×List (List Int)) ⊕ (List ByteArray×List TFiber×List (List Int))) (h:M_bl aaZ0 sZ1=some o):AWP (OkS Tryz.prog) A90M1L1 (qL [1,3,4] [1,8,500000514] (S_bl aaZ0) (qX 0 [3] [8,500000514] (SX_bl)) o) (S_bl aaZ0 sZ1):=by
 unfold M_bl at h
 simp only [ZC,S_bl,A90M1L1]
 obtain ⟨cZ2,h⟩ | ⟨cZ2,h⟩:=cond_s h
 · obtain ⟨lZ3,hlZ3,h⟩:=bnd_s h
   have eZ4:Row.arr 1 [(.i sZ1.1:AV)]=Row.arr 1 (lZ3.map AV.i):=by rw [← hlZ3]; rfl
   have jjZ5:lZ3.length=1:=by rw [← hlZ3]; rfl
   obtain ⟨rZ6,hrZ6,h⟩:=bind_s h
   refine ZF (ZA cZ2 (ZA eZ4 jjZ5)) ?_
   refine ZW (ZA cZ2 (ZA eZ4 jjZ5)) (w_ce N0 _ _ _ _ _ _ _ hrZ6) (h2:=by first | exact nm_ok [470000002,1000000000,1000000002,1000000003] rfl (by decide +kernel) | exact nm_ok2 [470000002,1000000000,1000000002,1000000003] [472300002] rfl (by decide +kernel) ZQ | exact ZQ) (hk:=?_)
   refine ZG ?_
   cases h
   exact ZL (ZA cZ2 (ZA eZ4 jjZ5)) (ZA S_bl.eq_1 (ZA SX_bl.eq_1 (ZA hlZ3.symm jjZ5)))
 · cases h
   exact ZL cZ2 (ZA S_bl.eq_1 SX_bl.eq_1)
theorem w_eb (aaZ0:TNetwork) {r:List (List Int)} (h:M_eb aaZ0=some r):OkM Tryz.prog 90 [.agg [.lst .o 1 (((aaZ0).Nodes).map AV.z),.lst .o 4 (((aaZ0).Fibers).map (e_TFiber .o))]] [] ((fun (r:List (List Int))=>.sl 2 0 r.length) r) ((fun (r:List (List Int))=>[(2,.arr 1 (r.map (e_Li .m)))]) r):=by
 refine okM_of_body (lr:=[2]) hmix m90M1 rfl rfl ?_
 unfold M_eb at h
 simp only [ZC,A90M1,V90M1]
 obtain ⟨oZ7,hoZ7,h⟩:=bind_s h
 try refine ZF trivial ?_
 refine join_rule0 (blk_rule0 (loop_rule (w_bl aaZ0) hoZ7 ?_)) ?_
 · exact ZK (ZA S_bl.eq_1 SX_bl.eq_1)
 · simp only [ZC,SX_bl,A90M1R2]
   cases h
   exact ZL trivial V90M1.eq_1
theorem w_ec (aaZ0:TNetwork) {r:Bool×List (List Int)} (h:M_ec aaZ0=some r):OkM Tryz.prog 42 [.agg [.lst .o 1 (((aaZ0).Nodes).map AV.z),.lst .o 4 (((aaZ0).Fibers).map (e_TFiber .o))]] [] ((fun (r:Bool×List (List Int))=>.tup [.sl 2 0 r.2.length,.b r.1]) r) ((fun (r:Bool×List (List Int))=>[(2,.arr 1 (r.2.map (e_Li .m)))]) r):=by
 refine okM_of_body (lr:=[2]) hmix m42M1 rfl rfl ?_
 unfold M_ec at h
 simp only [ZC,A42M1,V42M1]
 obtain ⟨rZ1,hrZ1,h⟩:=bind_s h
 refine ZF trivial ?_
 refine ZS trivial (w_ci _ hrZ1) ?_
 refine ZG ?_
 obtain ⟨cZ2,h⟩ | ⟨cZ2,h⟩:=cond_s h
 · cases h
   exact ZL cZ2 V42M1.eq_1
 · obtain ⟨rZ3,hrZ3,h⟩:=bind_s h
   refine ZF cZ2 ?_
   refine ZW cZ2 (w_eb _ hrZ3) (h2:=by first | exact nm_ok [2] rfl (by decide +kernel) | exact nm_ok2 [2] [1100002] rfl (by decide +kernel) ZQ | exact ZQ) (hk:=?_)
   refine ZG ?_
   obtain ⟨cZ4,h⟩ | ⟨cZ4,h⟩:=cond_s h
   · cases h
     exact ZL (ZA cZ2 cZ4) V42M1.eq_1
   · cases h
     exact ZL (ZA cZ2 cZ4) V42M1.eq_1
def S_y (nZ0:TNetwork) (ringZ0:List Int) (fromZ0:Int) (v:Int×Int×List Int):St:=⟨[(1,.lst .o 1 (ringZ0.map AV.i)),(2,.i fromZ0),(3,.pt 3 0 0),(8,.sl 8 0 v.2.2.length),(9,.i v.1),(10,.i v.2.1)],[(3,.var (.agg [.lst .o 1 (nZ0.Nodes.map AV.z),.lst .o 4 (nZ0.Fibers.map (e_TFiber .o))])),(8,.arr 1 (v.2.2.map AV.i))]⟩
def SX_y (ringZ0:List Int) (fromZ0:Int) (v:Int×List Int):St:=⟨[(1,.lst .o 1 (ringZ0.map AV.i)),(2,.i fromZ0),(8,.sl 8 0 v.2.length),(9,.i v.1)],[(8,.arr 1 (v.2.map AV.i))]⟩
theorem w_y (nZ0:TNetwork) (ringZ0:List Int) (fromZ0:Int) (sZ1:Int×Int×List Int) (o:(Int×Int×List Int) ⊕ ((Int×List Int) ⊕ (List Int×Bool))) (h:M_y nZ0 ringZ0 sZ1=some o):AWP (OkS Tryz.prog) A141L2 (qL [1,2,3,8,9,10] [3,8] (S_y nZ0 ringZ0 fromZ0) (qS (qX 0 [1,2,8,9] [8] (SX_y ringZ0 fromZ0)) (qR V141 (fun r=>.tup [.lst .u 1 (r.1.map AV.i),.b r.2]))) o) (S_y nZ0 ringZ0 fromZ0 sZ1):=by
 unfold M_y at h
 simp only [ZC,S_y,A141L2]
 obtain ⟨cZ2,h⟩ | ⟨cZ2,h⟩:=cond_s h
 · obtain ⟨oZ10,hoZ10,h⟩:=bind_s h
   try refine ZF cZ2 ?_
   refine join_rule0 (sh:=(fun v=>⟨[(1,.lst .o 1 (ringZ0.map AV.i)),(2,.i fromZ0),(3,.pt 3 0 0),(8,.sl 8 0 sZ1.2.2.length),(9,.i sZ1.1),(10,.i sZ1.2.1),(43,.b v)],[(3,.var (.agg [.lst .o 1 (nZ0.Nodes.map AV.z),.lst .o 4 (nZ0.Fibers.map (e_TFiber .o))])),(8,.arr 1 (sZ1.2.2.map AV.i))]⟩)) (s:=oZ10) ?_ ?_
   · replace h:=hoZ10
     obtain ⟨yZ3,hyZ3,h⟩:=bind_s h
     obtain ⟨hyZ3a,hyZ3b⟩:=geti_s hyZ3
     obtain ⟨rZ4,hrZ4,h⟩:=bind_s h
     refine ZF (ZA cZ2 (ZA hyZ3a hyZ3b)) ?_
     refine ZS (ZA cZ2 (ZA hyZ3a hyZ3b)) (w_bm _ _ _ hrZ4) ?_
     refine ZG ?_
     obtain ⟨cZ5,h⟩ | ⟨cZ5,h⟩:=cond_s h
     · cases h
       exact ZL (ZA cZ2 (ZA hyZ3a (ZA hyZ3b cZ5))) trivial
     · obtain ⟨lZ6,hlZ6,h⟩:=bind_s h
       obtain ⟨hlZ6a,hlZ6b,hlZ6c,hlZ6d,hlZ6e⟩:=slT_s AV.i hlZ6
       obtain ⟨rZ7,hrZ7,h⟩:=bind_s h
       refine ZF (ZA cZ2 (ZA hyZ3a (ZA hyZ3b (ZA cZ5 (ZA hlZ6a (ZA hlZ6b (ZA hlZ6c (ZA hlZ6d hlZ6e)))))))) ?_
       refine ZS (ZA cZ2 (ZA hyZ3a (ZA hyZ3b (ZA cZ5 (ZA hlZ6a (ZA hlZ6b (ZA hlZ6c (ZA hlZ6d hlZ6e)))))))) (w_be _ _ hrZ7) ?_
       refine ZG ?_
       obtain ⟨cZ8,h⟩ | ⟨cZ8,h⟩:=cond_s h
       · cases h
         exact ZL (ZA cZ2 (ZA hyZ3a (ZA hyZ3b (ZA cZ5 (ZA hlZ6a (ZA hlZ6b (ZA hlZ6c (ZA hlZ6d (ZA hlZ6e cZ8))))))))) trivial
       · obtain ⟨rZ9,hrZ9,h⟩:=bind_s h
         refine ZF (ZA cZ2 (ZA hyZ3a (ZA hyZ3b (ZA cZ5 (ZA hlZ6a (ZA hlZ6b (ZA hlZ6c (ZA hlZ6d (ZA hlZ6e cZ8))))))))) ?_
         refine ZS (ZA cZ2 (ZA hyZ3a (ZA hyZ3b (ZA cZ5 (ZA hlZ6a (ZA hlZ6b (ZA hlZ6c (ZA hlZ6d (ZA hlZ6e cZ8))))))))) (w_be _ _ hrZ9) ?_
         refine ZG ?_
         cases h
         exact ZL (ZA cZ2 (ZA hyZ3a (ZA hyZ3b (ZA cZ5 (ZA hlZ6a (ZA hlZ6b (ZA hlZ6c (ZA hlZ6d (ZA hlZ6e cZ8))))))))) trivial
   · simp only [ZC,A141R1]
     obtain ⟨cZ11,h⟩ | ⟨cZ11,h⟩:=cond_s h
     · cases h
       exact ZL (ZA cZ2 cZ11) V141.eq_1
     · obtain ⟨lZ12,hlZ12,h⟩:=bnd_s h
       have eZ13:Row.arr 1 [(.i sZ1.1:AV)]=Row.arr 1 (lZ12.map AV.i):=by rw [← hlZ12]; rfl
       have jjZ14:lZ12.length=1:=by rw [← hlZ12]; rfl
       obtain ⟨uZ15,huZ15,h⟩:=bind_s h
       have huZ15g:=grd_s huZ15
       obtain ⟨lZ16,hlZ16,h⟩:=bnd_s h
       have eZ17:sZ1.2.2.map AV.i++lZ12.map AV.i=lZ16.map AV.i:=by rw [← hlZ16,List.map_append]
       have eZ18:sZ1.2.2.length+1=lZ16.length:=by simp [← hlZ12,← hlZ16] <;> omega
       rw [eZ18] at huZ15g
       obtain ⟨yZ19,hyZ19,h⟩:=bind_s h
       obtain ⟨hyZ19a,hyZ19b⟩:=geti_s hyZ19
       obtain ⟨rZ20,hrZ20,h⟩:=bind_s h
       refine ZF (ZA cZ2 (ZA cZ11 (ZA eZ13 (ZA jjZ14 (ZA huZ15g (ZA eZ17 (ZA eZ18 (ZA hyZ19a hyZ19b)))))))) ?_
       refine ZS (ZA cZ2 (ZA cZ11 (ZA eZ13 (ZA jjZ14 (ZA huZ15g (ZA eZ17 (ZA eZ18 (ZA hyZ19a hyZ19b)))))))) (w_cd _ _ _ hrZ20) ?_
       refine ZG ?_
       obtain ⟨cZ21,h⟩ | ⟨cZ21,h⟩:=cond_s h
       · cases h
         exact ZL (ZA cZ2 (ZA cZ11 (ZA eZ13 (ZA jjZ14 (ZA huZ15g (ZA eZ17 (ZA eZ18 (ZA hyZ19a (ZA hyZ19b cZ21))))))))) (ZA V141.eq_1 (ZA hlZ12.symm (ZA hlZ16.symm jjZ14)))
       · cases h
         exact ZL (ZA cZ2 (ZA cZ11 (ZA eZ13 (ZA jjZ14 (ZA huZ15g (ZA eZ17 (ZA eZ18 (ZA hyZ19a (ZA hyZ19b cZ21))))))))) (ZA S_y.eq_1 (ZA SX_y.eq_1 (ZA hlZ12.symm (ZA hlZ16.symm jjZ14))))
 · cases h
   exact ZL cZ2 (ZA S_y.eq_1 SX_y.eq_1)
theorem w_ed (nZ0:TNetwork) (ringZ0:List Int) (fromZ0:Int) {r:List Int×Bool} (h:M_ed nZ0 ringZ0 fromZ0=some r):Ok Tryz.prog 141 [.agg [.lst .o 1 (nZ0.Nodes.map AV.z),.lst .o 4 (nZ0.Fibers.map (e_TFiber .o))],.lst .o 1 (ringZ0.map AV.i),.i fromZ0] ((fun r=>.tup [.lst .u 1 (r.1.map AV.i),.b r.2]) r):=by
 refine ok_of_body hmix m141 rfl ?_
 unfold M_ed at h
 simp only [ZC,A141,V141,body_eq]
 obtain ⟨oZ22,hoZ22,h⟩:=bind_s h
 try refine ZF trivial ?_
 refine join_rule (o:=oZ22) (blk_rule sideR (loop_rule (w_y nZ0 ringZ0 fromZ0) hoZ22 ?_)) (fun vZ23 hv=>?_) (fun xZ24 hv e τ hne hq=>?_)
 · exact ZK (ZA S_y.eq_1 SX_y.eq_1)
 · subst hv
   simp only [] at h
   simp only [ZC,SX_y,A141R3]
   obtain ⟨cZ25,h⟩ | ⟨cZ25,h⟩:=cond_s h
   · cases h
     exact ZL cZ25 V141.eq_1
   · cases h
     exact ZL cZ25 V141.eq_1
 · subst hv
   simp only [] at h
   obtain ⟨rfl,qZ26⟩:=hq
   cases h
   exact qZ26
def S_bh (nZ0:TNetwork) (ringZ0:List Int) (v:Int):St:=⟨[(1,.lst .o 1 (ringZ0.map AV.i)),(2,.pt 2 0 0),(5,.i v)],[(2,.var (.agg [.lst .o 1 (nZ0.Nodes.map AV.z),.lst .o 4 (nZ0.Fibers.map (e_TFiber .o))]))]⟩
def SX_bh (v:Unit):St:=⟨[],[]⟩
theorem w_bh (nZ0:TNetwork) (ringZ0:List Int) (sZ1:Int) (o:Int ⊕ (Unit ⊕ (List Int))) (h:M_bh nZ0 ringZ0 sZ1=some o):AWP (OkS Tryz.prog) A112L1 (qL [1,2,5] [2] (S_bh nZ0 ringZ0) (qS (qX 0 [] [] (SX_bh)) (qR V112 (fun r=>.lst .u 1 (r.map AV.i)))) o) (S_bh nZ0 ringZ0 sZ1):=by
 unfold M_bh at h
 simp only [ZC,S_bh,A112L1]
 obtain ⟨cZ2,h⟩ | ⟨cZ2,h⟩:=cond_s h
 · obtain ⟨rZ3,hrZ3,h⟩:=bind_s h
   refine ZF cZ2 ?_
   refine ZU cZ2 (w_ed _ _ _ hrZ3) ?_
   refine ZG ?_
   obtain ⟨cZ4,h⟩ | ⟨cZ4,h⟩:=cond_s h
   · cases h
     exact ZL (ZA cZ2 cZ4) V112.eq_1
   · cases h
     exact ZL (ZA cZ2 cZ4) (ZA S_bh.eq_1 SX_bh.eq_1)
 · cases h
   exact ZL cZ2 (ZA S_bh.eq_1 SX_bh.eq_1)
theorem w_ee (nZ0:TNetwork) (ringZ0:List Int) {r:List Int} (h:M_ee nZ0 ringZ0=some r):Ok Tryz.prog 112 [.agg [.lst .o 1 (nZ0.Nodes.map AV.z),.lst .o 4 (nZ0.Fibers.map (e_TFiber .o))],.lst .o 1 (ringZ0.map AV.i)] ((fun r=>.lst .u 1 (r.map AV.i)) r):=by
 refine ok_of_body hmix m112 rfl ?_
 unfold M_ee at h
 simp only [ZC,A112,V112,body_eq]
 obtain ⟨oZ5,hoZ5,h⟩:=bind_s h
 try refine ZF trivial ?_
 refine join_rule (o:=oZ5) (blk_rule sideR (loop_rule (w_bh nZ0 ringZ0) hoZ5 ?_)) (fun vZ6 hv=>?_) (fun xZ7 hv e τ hne hq=>?_)
 · exact ZK (ZA S_bh.eq_1 SX_bh.eq_1)
 · subst hv
   simp only [] at h
   simp only [ZC,SX_bh,A112R2]
   cases h
   exact ZL trivial V112.eq_1
 · subst hv
   simp only [] at h
   obtain ⟨rfl,qZ8⟩:=hq
   cases h
   exact qZ8
def S_h (nZ0:TNetwork) (ringZ0:List Int) (rZ1:List Int) (v:Int×List Int×List Int):St:=⟨[(1,.lst .o 1 (ringZ0.map AV.i)),(2,.pt 2 0 0),(6,.sl 6 0 v.2.1.length),(7,.sl 7 0 v.2.2.length),(8,.sl 8 0 rZ1.length),(9,.i v.1)],[(2,.var (.agg [.lst .o 1 (nZ0.Nodes.map AV.z),.lst .o 4 (nZ0.Fibers.map (e_TFiber .o))])),(6,.arr 1 (v.2.1.map AV.i)),(7,.arr 1 (v.2.2.map AV.i)),(8,.arr 1 (rZ1.map AV.i))]⟩
def SX_h (v:List Int×List Int):St:=⟨[(6,.sl 6 0 v.1.length),(7,.sl 7 0 v.2.length)],[(6,.arr 1 (v.1.map AV.i)),(7,.arr 1 (v.2.map AV.i))]⟩
theorem w_h (nZ0:TNetwork) (ringZ0:List Int) (rZ1:List Int) (sZ2:Int×List Int×List Int) (o:(Int×List Int×List Int) ⊕ (List Int×List Int)) (h:M_h nZ0 ringZ0 rZ1 sZ2=some o):AWP (OkS Tryz.prog) A73L2 (qL [1,2,6,7,8,9] [2,6,7,8] (S_h nZ0 ringZ0 rZ1) (qX 0 [6,7] [6,7] (SX_h)) o) (S_h nZ0 ringZ0 rZ1 sZ2):=by
 unfold M_h at h
 simp only [ZC,S_h,A73L2]
 obtain ⟨cZ3,h⟩ | ⟨cZ3,h⟩:=cond_s h
 · obtain ⟨rZ4,hrZ4,h⟩:=bind_s h
   refine ZF cZ3 ?_
   refine ZS cZ3 (w_be _ _ hrZ4) ?_
   refine ZG ?_
   obtain ⟨cZ5,h⟩ | ⟨cZ5,h⟩:=cond_s h
   · obtain ⟨lZ6,hlZ6,h⟩:=bnd_s h
     have eZ7:Row.arr 1 [(.i sZ2.1:AV)]=Row.arr 1 (lZ6.map AV.i):=by rw [← hlZ6]; rfl
     have jjZ8:lZ6.length=1:=by rw [← hlZ6]; rfl
     obtain ⟨uZ9,huZ9,h⟩:=bind_s h
     have huZ9g:=grd_s huZ9
     obtain ⟨lZ10,hlZ10,h⟩:=bnd_s h
     have eZ11:sZ2.2.1.map AV.i++lZ6.map AV.i=lZ10.map AV.i:=by rw [← hlZ10,List.map_append]
     have eZ12:sZ2.2.1.length+1=lZ10.length:=by simp [← hlZ6,← hlZ10] <;> omega
     rw [eZ12] at huZ9g
     cases h
     exact ZL (ZA cZ3 (ZA cZ5 (ZA eZ7 (ZA jjZ8 (ZA huZ9g (ZA eZ11 eZ12)))))) (ZA S_h.eq_1 (ZA SX_h.eq_1 (ZA hlZ6.symm (ZA hlZ10.symm jjZ8))))
   · obtain ⟨oZ17,hoZ17,h⟩:=bind_s h
     try refine ZF (ZA cZ3 cZ5) ?_
     refine join_rule0 (sh:=(fun v=>⟨[(1,.lst .o 1 (ringZ0.map AV.i)),(2,.pt 2 0 0),(6,.sl 6 0 sZ2.2.1.length),(7,.sl 7 0 sZ2.2.2.length),(8,.sl 8 0 rZ1.length),(9,.i sZ2.1),(30,.b v)],[(2,.var (.agg [.lst .o 1 (nZ0.Nodes.map AV.z),.lst .o 4 (nZ0.Fibers.map (e_TFiber .o))])),(6,.arr 1 (sZ2.2.1.map AV.i)),(7,.arr 1 (sZ2.2.2.map AV.i)),(8,.arr 1 (rZ1.map AV.i))]⟩)) (s:=oZ17) ?_ ?_
     · replace h:=hoZ17
       obtain ⟨yZ13,hyZ13,h⟩:=bind_s h
       obtain ⟨hyZ13a,hyZ13b⟩:=geti_s hyZ13
       obtain ⟨rZ14,hrZ14,h⟩:=bind_s h
       refine ZF (ZA cZ3 (ZA cZ5 (ZA hyZ13a hyZ13b))) ?_
       refine ZS (ZA cZ3 (ZA cZ5 (ZA hyZ13a hyZ13b))) (w_be _ _ hrZ14) ?_
       refine ZG ?_
       obtain ⟨cZ15,h⟩ | ⟨cZ15,h⟩:=cond_s h
       · obtain ⟨rZ16,hrZ16,h⟩:=bind_s h
         refine ZF (ZA cZ3 (ZA cZ5 (ZA hyZ13a (ZA hyZ13b cZ15)))) ?_
         refine ZS (ZA cZ3 (ZA cZ5 (ZA hyZ13a (ZA hyZ13b cZ15)))) (w_be _ _ hrZ16) ?_
         refine ZG ?_
         cases h
         exact ZL (ZA cZ3 (ZA cZ5 (ZA hyZ13a (ZA hyZ13b cZ15)))) trivial
       · cases h
         exact ZL (ZA cZ3 (ZA cZ5 (ZA hyZ13a (ZA hyZ13b cZ15)))) trivial
     · simp only [ZC,A73R1]
       obtain ⟨cZ18,h⟩ | ⟨cZ18,h⟩:=cond_s h
       · obtain ⟨lZ19,hlZ19,h⟩:=bnd_s h
         have eZ20:Row.arr 1 [(.i sZ2.1:AV)]=Row.arr 1 (lZ19.map AV.i):=by rw [← hlZ19]; rfl
         have jjZ21:lZ19.length=1:=by rw [← hlZ19]; rfl
         obtain ⟨uZ22,huZ22,h⟩:=bind_s h
         have huZ22g:=grd_s huZ22
         obtain ⟨lZ23,hlZ23,h⟩:=bnd_s h
         have eZ24:sZ2.2.2.map AV.i++lZ19.map AV.i=lZ23.map AV.i:=by rw [← hlZ23,List.map_append]
         have eZ25:sZ2.2.2.length+1=lZ23.length:=by simp [← hlZ19,← hlZ23] <;> omega
         rw [eZ25] at huZ22g
         cases h
         exact ZL (ZA cZ3 (ZA cZ5 (ZA cZ18 (ZA eZ20 (ZA jjZ21 (ZA huZ22g (ZA eZ24 eZ25))))))) (ZA S_h.eq_1 (ZA SX_h.eq_1 (ZA hlZ19.symm (ZA hlZ23.symm jjZ21))))
       · cases h
         exact ZL (ZA cZ3 (ZA cZ5 cZ18)) (ZA S_h.eq_1 SX_h.eq_1)
 · cases h
   exact ZL cZ3 (ZA S_h.eq_1 SX_h.eq_1)
theorem w_ef (nZ0:TNetwork) (ringZ0:List Int) {r:List Int×List Int} (h:M_ef nZ0 ringZ0=some r):Ok Tryz.prog 73 [.agg [.lst .o 1 (nZ0.Nodes.map AV.z),.lst .o 4 (nZ0.Fibers.map (e_TFiber .o))],.lst .o 1 (ringZ0.map AV.i)] ((fun r=>.tup [.lst .u 1 (r.1.map AV.i),.lst .u 1 (r.2.map AV.i)]) r):=by
 refine ok_of_body hmix m73 rfl ?_
 unfold M_ef at h
 simp only [ZC,A73,V73,body_eq]
 obtain ⟨rZ1,hrZ1,h⟩:=bind_s h
 refine ZF trivial ?_
 refine ZU trivial (w_ee _ _ hrZ1) ?_
 refine ZG ?_
 obtain ⟨oZ26,hoZ26,h⟩:=bind_s h
 try refine ZF trivial ?_
 refine join_rule0 (blk_rule0 (loop_rule (w_h nZ0 ringZ0 rZ1) hoZ26 ?_)) ?_
 · exact ZK (ZA S_h.eq_1 SX_h.eq_1)
 · simp only [ZC,SX_h,A73R3]
   cases h
   exact ZL trivial V73.eq_1
def S_an (listZ0:List Int) (v:Int×Int):St:=⟨[(0,.lst .o 1 (listZ0.map AV.i)),(3,.i v.1),(4,.i v.2)],[]⟩
def SX_an (v:Int):St:=⟨[(3,.i v)],[]⟩
theorem w_an (listZ0:List Int) (sZ1:Int×Int) (o:(Int×Int) ⊕ Int) (h:M_an listZ0 sZ1=some o):AWP (OkS Tryz.prog) A91L1 (qL [0,3,4] [] (S_an listZ0) (qX 0 [3] [] (SX_an)) o) (S_an listZ0 sZ1):=by
 unfold M_an at h
 simp only [ZC,S_an,A91L1]
 obtain ⟨cZ2,h⟩ | ⟨cZ2,h⟩:=cond_s h
 · obtain ⟨yZ3,hyZ3,h⟩:=bind_s h
   obtain ⟨hyZ3a,hyZ3b⟩:=geti_s hyZ3
   obtain ⟨uZ4,huZ4,h⟩:=bind_s h
   have huZ4g:=grd_s huZ4
   cases h
   exact ZL (ZA cZ2 (ZA hyZ3a (ZA hyZ3b huZ4g))) (ZA S_an.eq_1 SX_an.eq_1)
 · cases h
   exact ZL cZ2 (ZA S_an.eq_1 SX_an.eq_1)
theorem w_cl (listZ0:List Int) {r:Int} (h:M_cl listZ0=some r):Ok Tryz.prog 91 [.lst .o 1 (listZ0.map AV.i)] ((fun r=>.i r) r):=by
 refine ok_of_body hmix m91 rfl ?_
 unfold M_cl at h
 simp only [ZC,A91,V91,body_eq]
 obtain ⟨oZ5,hoZ5,h⟩:=bind_s h
 try refine ZF trivial ?_
 refine join_rule0 (blk_rule0 (loop_rule (w_an listZ0) hoZ5 ?_)) ?_
 · exact ZK (ZA S_an.eq_1 SX_an.eq_1)
 · simp only [ZC,SX_an,A91R2]
   cases h
   exact ZL trivial V91.eq_1
theorem w_eg (nZ0:TNetwork) (ringZ0:List Int) {r:Int} (h:M_eg nZ0 ringZ0=some r):Ok Tryz.prog 45 [.agg [.lst .o 1 (nZ0.Nodes.map AV.z),.lst .o 4 (nZ0.Fibers.map (e_TFiber .o))],.lst .o 1 (ringZ0.map AV.i)] ((fun r=>.i r) r):=by
 refine ok_of_body hmix m45 rfl ?_
 unfold M_eg at h
 simp only [ZC,A45,V45,body_eq]
 obtain ⟨rZ1,hrZ1,h⟩:=bind_s h
 refine ZF trivial ?_
 refine ZU trivial (w_ef _ _ hrZ1) ?_
 refine ZG ?_
 obtain ⟨rZ2,hrZ2,h⟩:=bind_s h
 refine ZF trivial ?_
 refine ZS trivial (w_cl _ hrZ2) ?_
 refine ZG ?_
 obtain ⟨rZ3,hrZ3,h⟩:=bind_s h
 refine ZF trivial ?_
 refine ZS trivial (w_cl _ hrZ3) ?_
 refine ZG ?_
 cases h
 exact ZL trivial V45.eq_1
def S_bi (nZ0:TNetwork) (rZ1:Bool×List (List Int)) (v:Int×Int):St:=⟨[(1,.pt 1 0 0),(4,.sl 4 0 0),(5,.sl 5 0 rZ1.2.length),(7,.i v.1),(8,.i v.2)],[(1,.var (.agg [.lst .o 1 (nZ0.Nodes.map AV.z),.lst .o 4 (nZ0.Fibers.map (e_TFiber .o))])),(4,.arr 1 []),(5,.arr 1 (rZ1.2.map (e_Li .m)))]⟩
def SX_bi (nZ0:TNetwork) (v:Int):St:=⟨[(1,.pt 1 0 0),(4,.sl 4 0 0),(7,.i v)],[(1,.var (.agg [.lst .o 1 (nZ0.Nodes.map AV.z),.lst .o 4 (nZ0.Fibers.map (e_TFiber .o))])),(4,.arr 1 [])]⟩
theorem w_bi (nZ0:TNetwork) (rZ1:Bool×List (List Int)) (sZ3:Int×Int) (o:(Int×Int) ⊕ Int) (h:M_bi nZ0 rZ1 sZ3=some o):AWP (OkS Tryz.prog) A9L1 (qL [1,4,5,7,8] [1,4,5] (S_bi nZ0 rZ1) (qX 0 [1,4,7] [1,4] (SX_bi nZ0)) o) (S_bi nZ0 rZ1 sZ3):=by
 unfold M_bi at h
 simp only [ZC,S_bi,A9L1]
 obtain ⟨cZ4,h⟩ | ⟨cZ4,h⟩:=cond_s h
 · obtain ⟨kZ5,hkZ5,h⟩:=bind_s h
   obtain ⟨hkZ5a,hkZ5b⟩:=grd_s hkZ5
   obtain ⟨yZ6,hyZ6,h⟩:=bind_s h
   obtain ⟨rZ7,hrZ7,h⟩:=bind_s h
   refine ZF (ZA cZ4 (ZA hkZ5a (ZA hkZ5b hyZ6))) ?_
   refine ZS (ZA cZ4 (ZA hkZ5a (ZA hkZ5b hyZ6))) (w_eg _ _ hrZ7) ?_
   refine ZG ?_
   cases h
   exact ZL (ZA cZ4 (ZA hkZ5a (ZA hkZ5b hyZ6))) (ZA S_bi.eq_1 SX_bi.eq_1)
 · cases h
   exact ZL cZ4 (ZA S_bi.eq_1 SX_bi.eq_1)
def S_q (nZ0:TNetwork) (oZ8:Int) (v:Int×List Int):St:=⟨[(1,.pt 1 0 0),(4,.sl 4 0 v.2.length),(7,.i oZ8),(9,.i v.1)],[(1,.var (.agg [.lst .o 1 (nZ0.Nodes.map AV.z),.lst .o 4 (nZ0.Fibers.map (e_TFiber .o))])),(4,.arr 1 (v.2.map AV.i))]⟩
def SX_q (v:List Int):St:=⟨[(4,.sl 4 0 v.length)],[(4,.arr 1 (v.map AV.i))]⟩
theorem w_q (nZ0:TNetwork) (oZ8:Int) (sZ9:Int×List Int) (o:(Int×List Int) ⊕ (List Int)) (h:M_q nZ0 oZ8 sZ9=some o):AWP (OkS Tryz.prog) A9L3 (qL [1,4,7,9] [1,4] (S_q nZ0 oZ8) (qX 2 [4] [4] (SX_q)) o) (S_q nZ0 oZ8 sZ9):=by
 unfold M_q at h
 simp only [ZC,S_q,A9L3]
 obtain ⟨cZ10,h⟩ | ⟨cZ10,h⟩:=cond_s h
 · obtain ⟨uZ11,huZ11,h⟩:=bind_s h
   have huZ11g:=grd_s huZ11
   obtain ⟨cZ12,h⟩ | ⟨cZ12,h⟩:=cond_s h
   · obtain ⟨lZ13,hlZ13,h⟩:=bnd_s h
     have eZ14:Row.arr 1 [(.i sZ9.1:AV)]=Row.arr 1 (lZ13.map AV.i):=by rw [← hlZ13]; rfl
     have jjZ15:lZ13.length=1:=by rw [← hlZ13]; rfl
     obtain ⟨uZ16,huZ16,h⟩:=bind_s h
     have huZ16g:=grd_s huZ16
     obtain ⟨lZ17,hlZ17,h⟩:=bnd_s h
     have eZ18:sZ9.2.map AV.i++lZ13.map AV.i=lZ17.map AV.i:=by rw [← hlZ17,List.map_append]
     have eZ19:sZ9.2.length+1=lZ17.length:=by simp [← hlZ13,← hlZ17] <;> omega
     rw [eZ19] at huZ16g
     cases h
     exact ZL (ZA cZ10 (ZA huZ11g (ZA cZ12 (ZA eZ14 (ZA jjZ15 (ZA huZ16g (ZA eZ18 eZ19))))))) (ZA S_q.eq_1 (ZA SX_q.eq_1 (ZA hlZ13.symm (ZA hlZ17.symm jjZ15))))
   · cases h
     exact ZL (ZA cZ10 (ZA huZ11g cZ12)) (ZA S_q.eq_1 SX_q.eq_1)
 · cases h
   exact ZL cZ10 (ZA S_q.eq_1 SX_q.eq_1)
theorem w_cs (nZ0:TNetwork) {r:List Int×Bool} (h:M_cs nZ0=some r):Ok Tryz.prog 9 [.agg [.lst .o 1 (nZ0.Nodes.map AV.z),.lst .o 4 (nZ0.Fibers.map (e_TFiber .o))]] ((fun r=>.tup [.lst .u 1 (r.1.map AV.i),.b r.2]) r):=by
 refine ok_of_body hmix m9 rfl ?_
 unfold M_cs at h
 simp only [ZC,A9,V9,body_eq]
 obtain ⟨rZ1,hrZ1,h⟩:=bind_s h
 refine ZF trivial ?_
 refine ZW trivial (w_ec _ hrZ1) (h2:=by first | exact nm_ok [2] rfl (by decide +kernel) | exact nm_ok2 [2] [1400002] rfl (by decide +kernel) ZQ | exact ZQ) (hk:=?_)
 refine ZG ?_
 obtain ⟨cZ2,h⟩ | ⟨cZ2,h⟩:=cond_s h
 · cases h
   exact ZL cZ2 V9.eq_1
 · obtain ⟨oZ8,hoZ8,h⟩:=bind_s h
   try refine ZF cZ2 ?_
   refine join_rule0 (blk_rule0 (loop_rule (w_bi nZ0 rZ1) hoZ8 ?_)) ?_
   · exact ZK (ZA S_bi.eq_1 SX_bi.eq_1)
   · simp only [ZC,SX_bi,A9R2]
     obtain ⟨oZ20,hoZ20,h⟩:=bind_s h
     try refine ZF cZ2 ?_
     refine join_rule0 (blk_rule0 (loop_rule (w_q nZ0 oZ8) hoZ20 ?_)) ?_
     · exact ZK (ZA S_q.eq_1 SX_q.eq_1)
     · simp only [ZC,SX_q,A9R4]
       cases h
       exact ZL cZ2 V9.eq_1
def S_z (nZ0:TNetwork) (sZ1:Int×List (List Int)) (v:Int×List Int):St:=⟨[(1,.pt 1 0 0),(3,.sl 3 0 sZ1.2.length),(4,.i sZ1.1),(5,.sl 5 0 v.2.length),(17,.lst .o 4 (nZ0.Fibers.map (e_TFiber .o))),(18,.i (nZ0.Fibers.length:Int)),(19,.i v.1)],[(1,.var (.agg [.lst .o 1 (nZ0.Nodes.map AV.z),.lst .o 4 (nZ0.Fibers.map (e_TFiber .o))])),(3,.arr 1 (sZ1.2.map (e_Li .u))),(5,.arr 1 (v.2.map AV.i))]⟩
def SX_z (nZ0:TNetwork) (sZ1:Int×List (List Int)) (v:List Int):St:=⟨[(1,.pt 1 0 0),(3,.sl 3 0 sZ1.2.length),(4,.i sZ1.1),(5,.sl 5 0 v.length)],[(1,.var (.agg [.lst .o 1 (nZ0.Nodes.map AV.z),.lst .o 4 (nZ0.Fibers.map (e_TFiber .o))])),(3,.arr 1 (sZ1.2.map (e_Li .u))),(5,.arr 1 (v.map AV.i))]⟩
theorem w_z (nZ0:TNetwork) (sZ1:Int×List (List Int)) (sZ3:Int×List Int) (o:(Int×List Int) ⊕ (List Int)) (h:M_z nZ0 sZ1 sZ3=some o):AWP (OkS Tryz.prog) A62L1 (qL [1,3,4,5,17,18,19] [1,3,5] (S_z nZ0 sZ1) (qX 2 [1,3,4,5] [1,3,5] (SX_z nZ0 sZ1)) o) (S_z nZ0 sZ1 sZ3):=by
 unfold M_z at h
 simp only [ZC,S_z,A62L1]
 obtain ⟨cZ4,h⟩ | ⟨cZ4,h⟩:=cond_s h
 · obtain ⟨yZ5,hyZ5,h⟩:=bind_s h
   obtain ⟨hyZ5a,hyZ5b⟩:=geti_s hyZ5
   obtain ⟨cZ6,h⟩ | ⟨cZ6,h⟩:=cond_s h
   · obtain ⟨lZ7,hlZ7,h⟩:=bnd_s h
     have eZ8:Row.arr 1 [(.i sZ3.1:AV)]=Row.arr 1 (lZ7.map AV.i):=by rw [← hlZ7]; rfl
     have jjZ9:lZ7.length=1:=by rw [← hlZ7]; rfl
     obtain ⟨uZ10,huZ10,h⟩:=bind_s h
     have huZ10g:=grd_s huZ10
     obtain ⟨lZ11,hlZ11,h⟩:=bnd_s h
     have eZ12:sZ3.2.map AV.i++lZ7.map AV.i=lZ11.map AV.i:=by rw [← hlZ11,List.map_append]
     have eZ13:sZ3.2.length+1=lZ11.length:=by simp [← hlZ7,← hlZ11] <;> omega
     rw [eZ13] at huZ10g
     cases h
     exact ZL (ZA cZ4 (ZA hyZ5a (ZA hyZ5b (ZA cZ6 (ZA eZ8 (ZA jjZ9 (ZA huZ10g (ZA eZ12 eZ13)))))))) (ZA S_z.eq_1 (ZA SX_z.eq_1 (ZA hlZ7.symm (ZA hlZ11.symm jjZ9))))
   · cases h
     exact ZL (ZA cZ4 (ZA hyZ5a (ZA hyZ5b cZ6))) (ZA S_z.eq_1 SX_z.eq_1)
 · cases h
   exact ZL cZ4 (ZA S_z.eq_1 SX_z.eq_1)
def S_aa (nZ0:TNetwork) (v:Int×List (List Int)):St:=⟨[(1,.pt 1 0 0),(3,.sl 3 0 v.2.length),(4,.i v.1)],[(1,.var (.agg [.lst .o 1 (nZ0.Nodes.map AV.z),.lst .o 4 (nZ0.Fibers.map (e_TFiber .o))])),(3,.arr 1 (v.2.map (e_Li .u)))]⟩
def SX_aa (nZ0:TNetwork) (v:List (List Int)):St:=⟨[(1,.pt 1 0 0),(3,.sl 3 0 v.length)],[(1,.var (.agg [.lst .o 1 (nZ0.Nodes.map AV.z),.lst .o 4 (nZ0.Fibers.map (e_TFiber .o))])),(3,.arr 1 (v.map (e_Li .u)))]⟩
theorem w_aa (nZ0:TNetwork) (sZ1:Int×List (List Int)) (o:(Int×List (List Int)) ⊕ (List (List Int))) (h:M_aa nZ0 sZ1=some o):AWP (OkS Tryz.prog) A62L3 (qL [1,3,4] [1,3] (S_aa nZ0) (qX 0 [1,3] [1,3] (SX_aa nZ0)) o) (S_aa nZ0 sZ1):=by
 unfold M_aa at h
 simp only [ZC,S_aa,A62L3]
 obtain ⟨cZ2,h⟩ | ⟨cZ2,h⟩:=cond_s h
 · obtain ⟨oZ14,hoZ14,h⟩:=bind_s h
   try refine ZF cZ2 ?_
   refine join_rule0 (blk_rule0 (loop_rule (w_z nZ0 sZ1) hoZ14 ?_)) ?_
   · exact ZK (ZA S_z.eq_1 SX_z.eq_1)
   · simp only [ZC,SX_z,A62R2]
     obtain ⟨cZ15,h⟩ | ⟨cZ15,h⟩:=cond_s h
     · obtain ⟨lZ16,hlZ16,h⟩:=bnd_s h
       have eZ17:Row.arr 1 [(.lst .u 1 (oZ14.map AV.i):AV)]=Row.arr 1 (lZ16.map (e_Li .u)):=by rw [← hlZ16]; rfl
       have jjZ18:lZ16.length=1:=by rw [← hlZ16]; rfl
       obtain ⟨uZ19,huZ19,h⟩:=bind_s h
       have huZ19g:=grd_s huZ19
       obtain ⟨lZ20,hlZ20,h⟩:=bnd_s h
       have eZ21:sZ1.2.map (e_Li .u)++lZ16.map (e_Li .u)=lZ20.map (e_Li .u):=by rw [← hlZ20,List.map_append]
       have eZ22:sZ1.2.length+1=lZ20.length:=by simp [← hlZ16,← hlZ20] <;> omega
       rw [eZ22] at huZ19g
       cases h
       exact ZL (ZA cZ2 (ZA cZ15 (ZA eZ17 (ZA jjZ18 (ZA huZ19g (ZA eZ21 eZ22)))))) (ZA S_aa.eq_1 (ZA SX_aa.eq_1 (ZA hlZ16.symm (ZA hlZ20.symm jjZ18))))
     · cases h
       exact ZL (ZA cZ2 cZ15) (ZA S_aa.eq_1 SX_aa.eq_1)
 · cases h
   exact ZL cZ2 (ZA S_aa.eq_1 SX_aa.eq_1)
def S_ab (nZ0:TNetwork) (v:Int×List (List Int)):St:=⟨[(3,.sl 3 0 v.2.length),(41,.lst .o 4 (nZ0.Fibers.map (e_TFiber .o))),(42,.i (nZ0.Fibers.length:Int)),(43,.i v.1)],[(3,.arr 1 (v.2.map (e_Li .u)))]⟩
def SX_ab (v:List (List Int)):St:=⟨[(3,.sl 3 0 v.length)],[(3,.arr 1 (v.map (e_Li .u)))]⟩
theorem w_ab (nZ0:TNetwork) (sZ24:Int×List (List Int)) (o:(Int×List (List Int)) ⊕ (List (List Int))) (h:M_ab nZ0 sZ24=some o):AWP (OkS Tryz.prog) A62L5 (qL [3,41,42,43] [3] (S_ab nZ0) (qX 4 [3] [3] (SX_ab)) o) (S_ab nZ0 sZ24):=by
 unfold M_ab at h
 simp only [ZC,S_ab,A62L5]
 obtain ⟨cZ25,h⟩ | ⟨cZ25,h⟩:=cond_s h
 · obtain ⟨yZ26,hyZ26,h⟩:=bind_s h
   obtain ⟨hyZ26a,hyZ26b⟩:=geti_s hyZ26
   obtain ⟨cZ27,h⟩ | ⟨cZ27,h⟩:=cond_s h
   · obtain ⟨lZ28,hlZ28,h⟩:=bnd_s h
     have eZ29:Row.arr 1 [(.i sZ24.1:AV)]=Row.arr 1 (lZ28.map AV.i):=by rw [← hlZ28]; rfl
     have jjZ30:lZ28.length=1:=by rw [← hlZ28]; rfl
     have nZ31:sub (lZ28.map AV.i) 0 1=lZ28.map AV.i:=sub_n _ (by simp [← hlZ28])
     obtain ⟨lZ32,hlZ32,h⟩:=bnd_s h
     have eZ33:Row.arr 1 [(.lst .u 1 (lZ28.map AV.i):AV)]=Row.arr 1 (lZ32.map (e_Li .u)):=by rw [← hlZ32]; rfl
     have jjZ34:lZ32.length=1:=by rw [← hlZ32]; rfl
     obtain ⟨uZ35,huZ35,h⟩:=bind_s h
     have huZ35g:=grd_s huZ35
     obtain ⟨lZ36,hlZ36,h⟩:=bnd_s h
     have eZ37:sZ24.2.map (e_Li .u)++lZ32.map (e_Li .u)=lZ36.map (e_Li .u):=by rw [← hlZ36,List.map_append]
     have eZ38:sZ24.2.length+1=lZ36.length:=by simp [← hlZ28,← hlZ32,← hlZ36] <;> omega
     rw [eZ38] at huZ35g
     cases h
     exact ZL (ZA cZ25 (ZA hyZ26a (ZA hyZ26b (ZA cZ27 (ZA eZ29 (ZA jjZ30 (ZA nZ31 (ZA eZ33 (ZA jjZ34 (ZA huZ35g (ZA eZ37 eZ38))))))))))) (ZA S_ab.eq_1 (ZA SX_ab.eq_1 (ZA hlZ28.symm (ZA hlZ32.symm (ZA hlZ36.symm (ZA jjZ30 jjZ34))))))
   · cases h
     exact ZL (ZA cZ25 (ZA hyZ26a (ZA hyZ26b cZ27))) (ZA S_ab.eq_1 SX_ab.eq_1)
 · cases h
   exact ZL cZ25 (ZA S_ab.eq_1 SX_ab.eq_1)
theorem w_eh (nZ0:TNetwork) {r:List (List Int)} (h:M_eh nZ0=some r):Ok Tryz.prog 62 [.agg [.lst .o 1 (nZ0.Nodes.map AV.z),.lst .o 4 (nZ0.Fibers.map (e_TFiber .o))]] ((fun r=>.lst .u 1 (r.map (e_Li .u))) r):=by
 refine ok_of_body hmix m62 rfl ?_
 unfold M_eh at h
 simp only [ZC,A62,V62,body_eq]
 obtain ⟨oZ23,hoZ23,h⟩:=bind_s h
 try refine ZF trivial ?_
 refine join_rule0 (blk_rule0 (loop_rule (w_aa nZ0) hoZ23 ?_)) ?_
 · exact ZK (ZA S_aa.eq_1 SX_aa.eq_1)
 · simp only [ZC,SX_aa,A62R4]
   obtain ⟨oZ39,hoZ39,h⟩:=bind_s h
   try refine ZF trivial ?_
   refine join_rule0 (blk_rule0 (loop_rule (w_ab nZ0) hoZ39 ?_)) ?_
   · exact ZK (ZA S_ab.eq_1 SX_ab.eq_1)
   · simp only [ZC,SX_ab,A62R6]
     cases h
     exact ZL trivial V62.eq_1
def S_b (nZ0:TNetwork) (butZ0:Int) (rZ1:List Int) (rZ2:List Int) (sZ3:Int) (v:Int):St:=⟨[(2,.i butZ0),(7,.sl 7 0 rZ1.length),(8,.sl 8 0 rZ2.length),(9,.i sZ3),(18,.i (nZ0.Nodes.length:Int)),(19,.i sZ3),(22,.i sZ3),(23,.i v)],[(7,.arr 1 (rZ1.map AV.i)),(8,.arr 1 (rZ2.map AV.i))]⟩
def SX_b (nZ0:TNetwork) (butZ0:Int) (rZ1:List Int) (rZ2:List Int) (sZ3:Int) (v:Unit):St:=⟨[(2,.i butZ0),(7,.sl 7 0 rZ1.length),(8,.sl 8 0 rZ2.length),(18,.i (nZ0.Nodes.length:Int)),(19,.i sZ3)],[(7,.arr 1 (rZ1.map AV.i)),(8,.arr 1 (rZ2.map AV.i))]⟩
theorem w_b (nZ0:TNetwork) (butZ0:Int) (rZ1:List Int) (rZ2:List Int) (sZ3:Int) (sZ5:Int) (o:Int ⊕ (Unit ⊕ Bool)) (h:M_b butZ0 rZ1 rZ2 sZ3 sZ5=some o):AWP (OkS Tryz.prog) A63L1 (qL [2,7,8,9,18,19,22,23] [7,8] (S_b nZ0 butZ0 rZ1 rZ2 sZ3) (qS (qX 2 [2,7,8,18,19] [7,8] (SX_b nZ0 butZ0 rZ1 rZ2 sZ3)) (qR V63 (fun r=>.b r))) o) (S_b nZ0 butZ0 rZ1 rZ2 sZ3 sZ5):=by
 unfold M_b at h
 simp only [ZC,S_b,A63L1]
 obtain ⟨cZ6,h⟩ | ⟨cZ6,h⟩:=cond_s h
 · obtain ⟨cZ7,h⟩ | ⟨cZ7,h⟩:=cond_s h
   · obtain ⟨cZ8,h⟩ | ⟨cZ8,h⟩:=cond_s h
     · obtain ⟨kZ9,hkZ9,h⟩:=bind_s h
       obtain ⟨hkZ9a,hkZ9b⟩:=grd_s hkZ9
       obtain ⟨yZ10,hyZ10,h⟩:=bind_s h
       obtain ⟨kZ11,hkZ11,h⟩:=bind_s h
       obtain ⟨hkZ11a,hkZ11b⟩:=grd_s hkZ11
       obtain ⟨yZ12,hyZ12,h⟩:=bind_s h
       obtain ⟨cZ13,h⟩ | ⟨cZ13,h⟩:=cond_s h
       · obtain ⟨kZ14,hkZ14,h⟩:=bind_s h
         obtain ⟨hkZ14a,hkZ14b⟩:=grd_s hkZ14
         obtain ⟨yZ15,hyZ15,h⟩:=bind_s h
         obtain ⟨kZ16,hkZ16,h⟩:=bind_s h
         obtain ⟨hkZ16a,hkZ16b⟩:=grd_s hkZ16
         obtain ⟨yZ17,hyZ17,h⟩:=bind_s h
         obtain ⟨cZ18,h⟩ | ⟨cZ18,h⟩:=cond_s h
         · cases h
           exact ZL (ZA cZ6 (ZA cZ7 (ZA cZ8 (ZA hkZ9a (ZA hkZ9b (ZA hyZ10 (ZA hkZ11a (ZA hkZ11b (ZA hyZ12 (ZA cZ13 (ZA hkZ14a (ZA hkZ14b (ZA hyZ15 (ZA hkZ16a (ZA hkZ16b (ZA hyZ17 cZ18)))))))))))))))) V63.eq_1
         · cases h
           exact ZL (ZA cZ6 (ZA cZ7 (ZA cZ8 (ZA hkZ9a (ZA hkZ9b (ZA hyZ10 (ZA hkZ11a (ZA hkZ11b (ZA hyZ12 (ZA cZ13 (ZA hkZ14a (ZA hkZ14b (ZA hyZ15 (ZA hkZ16a (ZA hkZ16b (ZA hyZ17 cZ18)))))))))))))))) (ZA S_b.eq_1 SX_b.eq_1)
       · cases h
         exact ZL (ZA cZ6 (ZA cZ7 (ZA cZ8 (ZA hkZ9a (ZA hkZ9b (ZA hyZ10 (ZA hkZ11a (ZA hkZ11b (ZA hyZ12 cZ13))))))))) (ZA S_b.eq_1 SX_b.eq_1)
     · cases h
       exact ZL (ZA cZ6 (ZA cZ7 cZ8)) (ZA S_b.eq_1 SX_b.eq_1)
   · cases h
     exact ZL (ZA cZ6 cZ7) (ZA S_b.eq_1 SX_b.eq_1)
 · cases h
   exact ZL cZ6 (ZA S_b.eq_1 SX_b.eq_1)
def S_aq (nZ0:TNetwork) (butZ0:Int) (rZ1:List Int) (rZ2:List Int) (v:Int):St:=⟨[(2,.i butZ0),(7,.sl 7 0 rZ1.length),(8,.sl 8 0 rZ2.length),(18,.i (nZ0.Nodes.length:Int)),(19,.i v)],[(7,.arr 1 (rZ1.map AV.i)),(8,.arr 1 (rZ2.map AV.i))]⟩
def SX_aq (v:Unit):St:=⟨[],[]⟩
theorem w_aq (nZ0:TNetwork) (butZ0:Int) (rZ1:List Int) (rZ2:List Int) (sZ3:Int) (o:Int ⊕ (Unit ⊕ Bool)) (h:M_aq nZ0 butZ0 rZ1 rZ2 sZ3=some o):AWP (OkS Tryz.prog) A63L3 (qL [2,7,8,18,19] [7,8] (S_aq nZ0 butZ0 rZ1 rZ2) (qS (qX 0 [] [] (SX_aq)) (qR V63 (fun r=>.b r))) o) (S_aq nZ0 butZ0 rZ1 rZ2 sZ3):=by
 unfold M_aq at h
 simp only [ZC,S_aq,A63L3]
 obtain ⟨cZ4,h⟩ | ⟨cZ4,h⟩:=cond_s h
 · obtain ⟨oZ24,hoZ24,h⟩:=bind_s h
   try refine ZF cZ4 ?_
   refine join_rule (sh:=(fun v=>⟨[(2,.i butZ0),(7,.sl 7 0 rZ1.length),(8,.sl 8 0 rZ2.length),(18,.i (nZ0.Nodes.length:Int)),(19,.i sZ3)],[(7,.arr 1 (rZ1.map AV.i)),(8,.arr 1 (rZ2.map AV.i))]⟩)) (q:=(qR V63 (fun r=>.b r))) (o:=oZ24) ?_ (fun vZ25 hv=>?_) (fun xZ26 hv e τ hne hq=>?_)
   · replace h:=hoZ24
     obtain ⟨oZ19,hoZ19,h⟩:=bind_s h
     try refine ZF cZ4 ?_
     first | refine tail_rule (o:=oZ19) (blk_rule sideR (loop_rule (w_b nZ0 butZ0 rZ1 rZ2 sZ3) hoZ19 ?_)) (fun vZ20 hv τ qZ22=>?_) (fun xZ21 hv e τ hne hq=>?_) | refine tail_blk (o:=oZ19) sideR (loop_rule (w_b nZ0 butZ0 rZ1 rZ2 sZ3) hoZ19 ?_) (fun vZ20 hv τ qZ22=>?_) (fun xZ21 hv e τ hne hq=>?_)
     · exact ZK (ZA S_b.eq_1 SX_b.eq_1)
     · subst hv
       simp only [] at h
       cases h
       try refine ZF trivial ?_
       refine ⟨rfl,Shp.sub qZ22 (by decide) (by decide) ?_⟩
       exact ZK SX_b.eq_1
     · subst hv
       simp only [] at h
       obtain ⟨rfl,qZ23⟩:=hq
       cases h
       try refine ZF trivial ?_
       first | exact ⟨by simp,qZ23⟩ | exact ⟨by simp,rfl,qZ23⟩
   · subst hv
     simp only [] at h
     simp only [ZC,A63R2]
     cases h
     exact ZL cZ4 (ZA S_aq.eq_1 SX_aq.eq_1)
   · subst hv
     simp only [] at h
     obtain ⟨rfl,qZ27⟩:=hq
     cases h
     try refine ZF trivial ?_
     first | exact ⟨by simp,qZ27⟩ | exact ⟨by simp,rfl,qZ27⟩
 · cases h
   exact ZL cZ4 (ZA S_aq.eq_1 SX_aq.eq_1)
theorem w_cx (nZ0:TNetwork) (goneZ0:List Int) (butZ0:Int) {r:Bool} (h:M_cx nZ0 goneZ0 butZ0=some r):Ok Tryz.prog 63 [.agg [.lst .o 1 (nZ0.Nodes.map AV.z),.lst .o 4 (nZ0.Fibers.map (e_TFiber .o))],.lst .o 1 (goneZ0.map AV.i),.i butZ0] ((fun r=>.b r) r):=by
 refine ok_of_body hmix m63 rfl ?_
 unfold M_cx at h
 simp only [ZC,A63,V63,body_eq]
 obtain ⟨rZ1,hrZ1,h⟩:=bind_s h
 refine ZF trivial ?_
 refine ZU trivial (w_bp _ _ hrZ1) ?_
 refine ZG ?_
 obtain ⟨rZ2,hrZ2,h⟩:=bind_s h
 refine ZF trivial ?_
 refine ZU trivial (w_bp _ _ hrZ2) ?_
 refine ZG ?_
 obtain ⟨oZ28,hoZ28,h⟩:=bind_s h
 try refine ZF trivial ?_
 refine join_rule (o:=oZ28) (blk_rule sideR (loop_rule (w_aq nZ0 butZ0 rZ1 rZ2) hoZ28 ?_)) (fun vZ29 hv=>?_) (fun xZ30 hv e τ hne hq=>?_)
 · exact ZK (ZA S_aq.eq_1 SX_aq.eq_1)
 · subst hv
   simp only [] at h
   simp only [ZC,SX_aq,A63R4]
   cases h
   exact ZL trivial V63.eq_1
 · subst hv
   simp only [] at h
   obtain ⟨rfl,qZ31⟩:=hq
   cases h
   exact qZ31
def S_ac (nZ0:TNetwork) (rZ3:List (List Int)) (v:Int×List Int):St:=⟨[(1,.pt 1 0 0),(4,.sl 4 0 v.2.length),(12,.sl 12 0 rZ3.length),(13,.i (rZ3.length:Int)),(14,.i v.1)],[(1,.var (.agg [.lst .o 1 (nZ0.Nodes.map AV.z),.lst .o 4 (nZ0.Fibers.map (e_TFiber .o))])),(4,.arr 1 (v.2.map AV.i)),(12,.arr 1 (rZ3.map (e_Li .u)))]⟩
def SX_ac (v:List Int):St:=⟨[(4,.sl 4 0 v.length)],[(4,.arr 1 (v.map AV.i))]⟩
theorem w_ac (nZ0:TNetwork) (rZ3:List (List Int)) (sZ4:Int×List Int) (o:(Int×List Int) ⊕ (List Int)) (h:M_ac nZ0 rZ3 sZ4=some o):AWP (OkS Tryz.prog) A29L1 (qL [1,4,12,13,14] [1,4,12] (S_ac nZ0 rZ3) (qX 0 [4] [4] (SX_ac)) o) (S_ac nZ0 rZ3 sZ4):=by
 unfold M_ac at h
 simp only [ZC,S_ac,A29L1]
 obtain ⟨cZ5,h⟩ | ⟨cZ5,h⟩:=cond_s h
 · obtain ⟨kZ6,hkZ6,h⟩:=bind_s h
   obtain ⟨hkZ6a,hkZ6b⟩:=grd_s hkZ6
   obtain ⟨yZ7,hyZ7,h⟩:=bind_s h
   obtain ⟨rZ8,hrZ8,h⟩:=bind_s h
   refine ZF (ZA cZ5 (ZA hkZ6a (ZA hkZ6b hyZ7))) ?_
   refine ZS (ZA cZ5 (ZA hkZ6a (ZA hkZ6b hyZ7))) (w_cx _ _ _ hrZ8) ?_
   refine ZG ?_
   obtain ⟨cZ9,h⟩ | ⟨cZ9,h⟩:=cond_s h
   · obtain ⟨lZ10,hlZ10,h⟩:=bnd_s h
     have eZ11:Row.arr 1 [(.i sZ4.1:AV)]=Row.arr 1 (lZ10.map AV.i):=by rw [← hlZ10]; rfl
     have jjZ12:lZ10.length=1:=by rw [← hlZ10]; rfl
     obtain ⟨uZ13,huZ13,h⟩:=bind_s h
     have huZ13g:=grd_s huZ13
     obtain ⟨lZ14,hlZ14,h⟩:=bnd_s h
     have eZ15:sZ4.2.map AV.i++lZ10.map AV.i=lZ14.map AV.i:=by rw [← hlZ14,List.map_append]
     have eZ16:sZ4.2.length+1=lZ14.length:=by simp [← hlZ10,← hlZ14] <;> omega
     rw [eZ16] at huZ13g
     cases h
     exact ZL (ZA cZ5 (ZA hkZ6a (ZA hkZ6b (ZA hyZ7 (ZA cZ9 (ZA eZ11 (ZA jjZ12 (ZA huZ13g (ZA eZ15 eZ16))))))))) (ZA S_ac.eq_1 (ZA SX_ac.eq_1 (ZA hlZ10.symm (ZA hlZ14.symm jjZ12))))
   · cases h
     exact ZL (ZA cZ5 (ZA hkZ6a (ZA hkZ6b (ZA hyZ7 cZ9)))) (ZA S_ac.eq_1 SX_ac.eq_1)
 · cases h
   exact ZL cZ5 (ZA S_ac.eq_1 SX_ac.eq_1)
theorem w_cq (nZ0:TNetwork) {r:List Int×Bool} (h:M_cq nZ0=some r):Ok Tryz.prog 29 [.agg [.lst .o 1 (nZ0.Nodes.map AV.z),.lst .o 4 (nZ0.Fibers.map (e_TFiber .o))]] ((fun r=>.tup [.lst .u 1 (r.1.map AV.i),.b r.2]) r):=by
 refine ok_of_body hmix m29 rfl ?_
 unfold M_cq at h
 simp only [ZC,A29,V29,body_eq]
 obtain ⟨rZ1,hrZ1,h⟩:=bind_s h
 refine ZF trivial ?_
 refine ZS trivial (w_bt _ hrZ1) ?_
 refine ZG ?_
 obtain ⟨cZ2,h⟩ | ⟨cZ2,h⟩:=cond_s h
 · cases h
   exact ZL cZ2 V29.eq_1
 · obtain ⟨rZ3,hrZ3,h⟩:=bind_s h
   refine ZF cZ2 ?_
   refine ZU cZ2 (w_eh _ hrZ3) ?_
   refine ZG ?_
   obtain ⟨oZ17,hoZ17,h⟩:=bind_s h
   try refine ZF cZ2 ?_
   refine join_rule0 (blk_rule0 (loop_rule (w_ac nZ0 rZ3) hoZ17 ?_)) ?_
   · exact ZK (ZA S_ac.eq_1 SX_ac.eq_1)
   · simp only [ZC,SX_ac,A29R2]
     cases h
     exact ZL cZ2 V29.eq_1
def S_ad (rZ3:TNetwork) (rZ4:List Int×Bool) (v:Int):St:=⟨[(3,.pt 3 0 0),(4,.sl 4 0 rZ4.1.length),(8,.i v)],[(3,.var (.agg [.sl 18 0 rZ3.Nodes.length,.sl 1018 0 rZ3.Fibers.length])),(4,.arr 1 (rZ4.1.map AV.i)),(18,.arr 1 (rZ3.Nodes.map AV.z)),(1018,.arr 4 (rZ3.Fibers.map (e_TFiber .u)))]⟩
def SX_ad (rZ3:TNetwork) (rZ4:List Int×Bool) (v:Unit):St:=⟨[(3,.pt 3 0 0),(4,.sl 4 0 rZ4.1.length)],[(3,.var (.agg [.sl 18 0 rZ3.Nodes.length,.sl 1018 0 rZ3.Fibers.length])),(4,.arr 1 (rZ4.1.map AV.i)),(18,.arr 1 (rZ3.Nodes.map AV.z)),(1018,.arr 4 (rZ3.Fibers.map (e_TFiber .u)))]⟩
theorem w_ad (rZ3:TNetwork) (rZ4:List Int×Bool) (sZ14:Int) (o:Int ⊕ (Unit ⊕ Bool)) (h:M_ad rZ3 rZ4 sZ14=some o):AWP (OkS Tryz.prog) A5L3 (qL [3,4,8] [3,4,18,1018] (S_ad rZ3 rZ4) (qS (qX 0 [3,4] [3,4,18,1018] (SX_ad rZ3 rZ4)) (qR V5 (fun r=>.b r))) o) (S_ad rZ3 rZ4 sZ14):=by
 unfold M_ad at h
 simp only [ZC,S_ad,A5L3]
 obtain ⟨cZ15,h⟩ | ⟨cZ15,h⟩:=cond_s h
 · obtain ⟨rZ16,hrZ16,h⟩:=bind_s h
   refine ZF cZ15 ?_
   refine ZS cZ15 (w_cu _ _ hrZ16) ?_
   refine ZG ?_
   obtain ⟨lZ17,hlZ17,h⟩:=bnd_s h
   have eZ18:Row.arr 1 [(.i sZ14:AV)]=Row.arr 1 (lZ17.map AV.i):=by rw [← hlZ17]; rfl
   have jjZ19:lZ17.length=1:=by rw [← hlZ17]; rfl
   obtain ⟨kZ20,hkZ20,h⟩:=bind_s h
   obtain ⟨hkZ20a,hkZ20b⟩:=grd_s hkZ20
   obtain ⟨yZ21,hyZ21,h⟩:=bind_s h
   have nZ22:sub (lZ17.map AV.i) 0 1=lZ17.map AV.i:=sub_n _ (by simp [← hlZ17])
   obtain ⟨rZ23,hrZ23,h⟩:=bind_s h
   refine ZF (ZA cZ15 (ZA eZ18 (ZA jjZ19 (ZA hkZ20a (ZA hkZ20b (ZA hyZ21 nZ22)))))) ?_
   refine ZS (ZA cZ15 (ZA eZ18 (ZA jjZ19 (ZA hkZ20a (ZA hkZ20b (ZA hyZ21 nZ22)))))) (w_cp _ _ _ _ hrZ23) ?_
   refine ZG ?_
   obtain ⟨cZ24,h⟩ | ⟨cZ24,h⟩:=cond_s h
   · cases h
     exact ZL (ZA cZ15 (ZA eZ18 (ZA jjZ19 (ZA hkZ20a (ZA hkZ20b (ZA hyZ21 (ZA nZ22 cZ24))))))) (ZA V5.eq_1 (ZA hlZ17.symm jjZ19))
   · cases h
     exact ZL (ZA cZ15 (ZA eZ18 (ZA jjZ19 (ZA hkZ20a (ZA hkZ20b (ZA hyZ21 (ZA nZ22 cZ24))))))) (ZA S_ad.eq_1 (ZA SX_ad.eq_1 (ZA hlZ17.symm jjZ19)))
 · cases h
   exact ZL cZ15 (ZA S_ad.eq_1 SX_ad.eq_1)
theorem w_ei (codeZ0:List Int) {r:Bool} (h:M_ei codeZ0=some r):Ok Tryz.prog 5 [.lst .o 1 (codeZ0.map AV.u8)] ((fun r=>.b r) r):=by
 refine ok_of_body hmix m5 rfl ?_
 unfold M_ei at h
 simp only [ZC,A5,V5,body_eq]
 obtain ⟨rZ1,hrZ1,h⟩:=bind_s h
 refine ZF trivial ?_
 refine ZS trivial (w_ek _ hrZ1) ?_
 refine ZG ?_
 obtain ⟨cZ2,h⟩ | ⟨cZ2,h⟩:=cond_s h
 · cases h
   exact ZL cZ2 V5.eq_1
 · obtain ⟨rZ3,hrZ3,h⟩:=bind_s h
   refine ZF cZ2 ?_
   refine ZU cZ2 (w_cz _ hrZ3) ?_
   refine ZG ?_
   obtain ⟨rZ4,hrZ4,h⟩:=bind_s h
   refine ZF cZ2 ?_
   refine ZU cZ2 (w_cn _ hrZ4) ?_
   refine ZG ?_
   obtain ⟨rZ5,hrZ5,h⟩:=bind_s h
   refine ZF cZ2 ?_
   refine ZU cZ2 (w_co _ hrZ5) ?_
   refine ZG ?_
   obtain ⟨oZ9,hoZ9,h⟩:=bind_s h
   try refine ZF cZ2 ?_
   refine join_rule0 (sh:=(fun v=>⟨[(3,.pt 3 0 0),(4,.sl 4 0 rZ4.1.length),(5,.b rZ4.2),(6,.sl 6 0 rZ5.1.length),(7,.b rZ5.2),(41,.b v)],[(3,.var (.agg [.sl 18 0 rZ3.Nodes.length,.sl 1018 0 rZ3.Fibers.length])),(4,.arr 1 (rZ4.1.map AV.i)),(6,.arr 1 (rZ5.1.map AV.i)),(18,.arr 1 (rZ3.Nodes.map AV.z)),(1018,.arr 4 (rZ3.Fibers.map (e_TFiber .u)))]⟩)) (s:=oZ9) ?_ ?_
   · replace h:=hoZ9
     obtain ⟨cZ6,h⟩ | ⟨cZ6,h⟩:=cond_s h
     · cases h
       exact ZL (ZA cZ2 cZ6) trivial
     · obtain ⟨rZ7,hrZ7,h⟩:=bind_s h
       refine ZF (ZA cZ2 cZ6) ?_
       refine ZS (ZA cZ2 cZ6) (w_bv _ _ hrZ7) ?_
       refine ZG ?_
       obtain ⟨cZ8,h⟩ | ⟨cZ8,h⟩:=cond_s h
       · cases h
         exact ZL (ZA cZ2 (ZA cZ6 cZ8)) trivial
       · cases h
         exact ZL (ZA cZ2 (ZA cZ6 cZ8)) trivial
   · simp only [ZC,A5R1]
     obtain ⟨cZ10,h⟩ | ⟨cZ10,h⟩:=cond_s h
     · obtain ⟨oZ13,hoZ13,h⟩:=bind_s h
       try refine ZF (ZA cZ2 cZ10) ?_
       refine join_rule0 (sh:=(fun v=>⟨[(2,.b v)],[]⟩)) (s:=oZ13) ?_ ?_
       · replace h:=hoZ13
         obtain ⟨cZ11,h⟩ | ⟨cZ11,h⟩:=cond_s h
         · obtain ⟨rZ12,hrZ12,h⟩:=bind_s h
           refine ZF (ZA cZ2 (ZA cZ10 cZ11)) ?_
           refine ZS (ZA cZ2 (ZA cZ10 cZ11)) (w_bv _ _ hrZ12) ?_
           refine ZG ?_
           cases h
           exact ZL (ZA cZ2 (ZA cZ10 cZ11)) trivial
         · cases h
           exact ZL (ZA cZ2 (ZA cZ10 cZ11)) trivial
       · simp only [ZC,A5R2]
         cases h
         exact ZL (ZA cZ2 cZ10) V5.eq_1
     · obtain ⟨oZ25,hoZ25,h⟩:=bind_s h
       try refine ZF (ZA cZ2 cZ10) ?_
       refine join_rule (o:=oZ25) (blk_rule sideR (loop_rule (w_ad rZ3 rZ4) hoZ25 ?_)) (fun vZ26 hv=>?_) (fun xZ27 hv e τ hne hq=>?_)
       · exact ZK (ZA S_ad.eq_1 SX_ad.eq_1)
       · subst hv
         simp only [] at h
         simp only [ZC,SX_ad,A5R4]
         obtain ⟨rZ28,hrZ28,h⟩:=bind_s h
         refine ZF (ZA cZ2 cZ10) ?_
         refine ZU (ZA cZ2 cZ10) (w_cr _ hrZ28) ?_
         refine ZG ?_
         obtain ⟨rZ29,hrZ29,h⟩:=bind_s h
         refine ZF (ZA cZ2 cZ10) ?_
         refine ZU (ZA cZ2 cZ10) (w_cs _ hrZ29) ?_
         refine ZG ?_
         obtain ⟨oZ33,hoZ33,h⟩:=bind_s h
         try refine ZF (ZA cZ2 cZ10) ?_
         refine join_rule0 (sh:=(fun v=>⟨[(3,.pt 3 0 0),(4,.sl 4 0 rZ4.1.length),(98,.b v)],[(3,.var (.agg [.sl 18 0 rZ3.Nodes.length,.sl 1018 0 rZ3.Fibers.length])),(4,.arr 1 (rZ4.1.map AV.i)),(18,.arr 1 (rZ3.Nodes.map AV.z)),(1018,.arr 4 (rZ3.Fibers.map (e_TFiber .u)))]⟩)) (s:=oZ33) ?_ ?_
         · replace h:=hoZ33
           obtain ⟨cZ30,h⟩ | ⟨cZ30,h⟩:=cond_s h
           · cases h
             exact ZL (ZA cZ2 (ZA cZ10 cZ30)) trivial
           · obtain ⟨cZ31,h⟩ | ⟨cZ31,h⟩:=cond_s h
             · have cZ99:rZ29.2=true:=by
                rw [cZ31] at cZ30
                simpa using cZ30
               have cZ98:(!(true==true))=false:=rfl
               obtain ⟨rZ32,hrZ32,h⟩:=bind_s h
               refine ZF (ZA cZ2 (ZA cZ10 (ZA cZ30 (ZA cZ31 (ZA cZ99 cZ98))))) ?_
               refine ZS (ZA cZ2 (ZA cZ10 (ZA cZ30 (ZA cZ31 (ZA cZ99 cZ98))))) (w_bv _ _ hrZ32) ?_
               refine ZG ?_
               cases h
               exact ZL (ZA cZ2 (ZA cZ10 (ZA cZ30 (ZA cZ31 (ZA cZ99 cZ98))))) trivial
             · have cZ99:rZ29.2=false:=by
                rw [cZ31] at cZ30
                simpa using cZ30
               have cZ98:(!(false==false))=false:=rfl
               cases h
               exact ZL (ZA cZ2 (ZA cZ10 (ZA cZ30 (ZA cZ31 (ZA cZ99 cZ98))))) trivial
         · simp only [ZC,A5R5]
           obtain ⟨cZ34,h⟩ | ⟨cZ34,h⟩:=cond_s h
           · cases h
             exact ZL (ZA cZ2 (ZA cZ10 cZ34)) V5.eq_1
           · obtain ⟨rZ35,hrZ35,h⟩:=bind_s h
             refine ZF (ZA cZ2 (ZA cZ10 cZ34)) ?_
             refine ZU (ZA cZ2 (ZA cZ10 cZ34)) (w_cq _ hrZ35) ?_
             refine ZG ?_
             obtain ⟨cZ36,h⟩ | ⟨cZ36,h⟩:=cond_s h
             · obtain ⟨cZ37,h⟩ | ⟨cZ37,h⟩:=cond_s h
               · cases h
                 exact ZL (ZA cZ2 (ZA cZ10 (ZA cZ34 (ZA cZ36 cZ37)))) V5.eq_1
               · cases h
                 exact ZL (ZA cZ2 (ZA cZ10 (ZA cZ34 (ZA cZ36 cZ37)))) V5.eq_1
             · cases h
               exact ZL (ZA cZ2 (ZA cZ10 (ZA cZ34 cZ36))) V5.eq_1
       · subst hv
         simp only [] at h
         obtain ⟨rfl,qZ38⟩:=hq
         cases h
         exact qZ38
end Vs

