/-
  Part of the proof that the law FnRings returns true at every input; no condition beside the row's own.
-/
import Derived.Test.YteilpiddonoikaaGreatKa
set_option linter.defProp false
set_option linter.unusedSimpArgs false
set_option linter.unusedVariables false
set_option maxHeartbeats 1000000
set_option maxRecDepth 8000
namespace Vs
open Go Go.Proofs
attribute [local irreducible] AWP cI eff rY gl callM
theorem VT1:(∀ (f:Fl) (x:ar),ah f x=.agg [.i x.A,.i x.B,.i x.Length,.i x.Risk]) ∧
 (∀ (f:Fl) (x:ae),aH f x=.agg [.lst f 1 (x.Nodes.map AV.z),.lst f 4 (x.Fibers.map (ah f))]) ∧
 (∀ (f:Fl) (x:ax),aO f x=.agg [.lst f 1 (x.code.map AV.u8),.i x.atF,.sc (.int .u64 x.seed)]) ∧
 (∀ (f:Fl) (x:List Int),aV f x=.lst f 1 (x.map AV.i)) ∧
 (∀ (f:Fl) (x:bd),aB f x=.agg [.lst f 1 (x.n.Nodes.map AV.z),.lst f 4 (x.n.Fibers.map (ah f)),.lst f 1 (x.list.map (aV f))]) ∧
 (∀ (f:Fl) (x:au),aw f x=.agg [.i x.Start,.lst f 1 (x.Fibers.map AV.i)]) ∧
 (∀ (x:Value) (f:Nat) (cs:List AV),setPart (.sc x) 0 (.fn f cs)=some (.fn f cs)):=⟨fun _ _=>rfl,fun _ _=>rfl,fun _ _=>rfl,fun _ _=>rfl,fun _ _=>rfl,fun _ _=>rfl,fun _ _ _=>rfl⟩
theorem nM (f:Fl) (x:au) (v:Value) (w:World) (S:Nat→Prop) (B:Nat) (fp:List Nat) (h:aI w S B v (aw f x) fp) (hk:v.cells.size=2):shK 2 v:=Bp h hk
theorem wz (f:Fl) (x:List Int) (v:Value) (w:World) (S:Nat→Prop) (B:Nat) (fp:List Nat) (h:aI w S B v (aV f x) fp) (hk:v.cells.size=1):sh1 v:=Ak h
theorem VT2:(∀ (f:Fl) (x:ar),(ah f x).nrm=ah .o x) ∧
 (∀ (f:Fl) (xs:List ar),(xs.map (ah f)).map AV.nrm=xs.map (ah .o)) ∧
 (∀ (f:Fl) (x:ar),(ah f x).als=ah f.als x) ∧
 (∀ (f:Fl) (xs:List ar),(xs.map (ah f)).map AV.als=xs.map (ah f.als)) ∧
 (∀ (f:Fl),AV.als ∘ ah f=ah f.als) ∧
 (∀ (f:Fl) (x:ar),(ah f x).fix=ah f.fix x) ∧
 (∀ (f:Fl) (xs:List ar),(xs.map (ah f)).map AV.fix=xs.map (ah f.fix)) ∧
 (∀ (f:Fl) (x:ae),(aH f x).nrm=aH .o x) ∧
 (∀ (f:Fl) (xs:List ae),(xs.map (aH f)).map AV.nrm=xs.map (aH .o)) ∧
 (∀ (f:Fl) (x:ae),(aH f x).als=aH f.als x) ∧
 (∀ (f:Fl) (xs:List ae),(xs.map (aH f)).map AV.als=xs.map (aH f.als)) ∧
 (∀ (f:Fl),AV.als ∘ aH f=aH f.als) ∧
 (∀ (f:Fl) (x:ae),(aH f x).fix=aH f.fix x) ∧
 (∀ (f:Fl) (xs:List ae),(xs.map (aH f)).map AV.fix=xs.map (aH f.fix)) ∧
 (∀ (f:Fl) (x:ax),(aO f x).nrm=aO .o x) ∧
 (∀ (f:Fl) (xs:List ax),(xs.map (aO f)).map AV.nrm=xs.map (aO .o)) ∧
 (∀ (f:Fl) (x:ax),(aO f x).als=aO f.als x) ∧
 (∀ (f:Fl) (xs:List ax),(xs.map (aO f)).map AV.als=xs.map (aO f.als)) ∧
 (∀ (f:Fl),AV.als ∘ aO f=aO f.als) ∧
 (∀ (f:Fl) (x:ax),(aO f x).fix=aO f.fix x) ∧
 (∀ (f:Fl) (xs:List ax),(xs.map (aO f)).map AV.fix=xs.map (aO f.fix)) ∧
 (∀ (f:Fl) (x:List Int),(aV f x).nrm=aV .o x) ∧
 (∀ (f:Fl) (xs:List (List Int)),(xs.map (aV f)).map AV.nrm=xs.map (aV .o)) ∧
 (∀ (f:Fl) (x:List Int),(aV f x).als=aV f.als x) ∧
 (∀ (f:Fl) (xs:List (List Int)),(xs.map (aV f)).map AV.als=xs.map (aV f.als)) ∧
 (∀ (f:Fl),AV.als ∘ aV f=aV f.als) ∧
 (∀ (f:Fl) (x:List Int),(aV f x).fix=aV f.fix x) ∧
 (∀ (f:Fl) (xs:List (List Int)),(xs.map (aV f)).map AV.fix=xs.map (aV f.fix)) ∧
 (∀ (f:Fl) (x:bd),(aB f x).nrm=aB .o x) ∧
 (∀ (f:Fl) (xs:List bd),(xs.map (aB f)).map AV.nrm=xs.map (aB .o)) ∧
 (∀ (f:Fl) (x:bd),(aB f x).als=aB f.als x) ∧
 (∀ (f:Fl) (xs:List bd),(xs.map (aB f)).map AV.als=xs.map (aB f.als)) ∧
 (∀ (f:Fl),AV.als ∘ aB f=aB f.als) ∧
 (∀ (f:Fl) (x:bd),(aB f x).fix=aB f.fix x) ∧
 (∀ (f:Fl) (xs:List bd),(xs.map (aB f)).map AV.fix=xs.map (aB f.fix)) ∧
 (∀ (f:Fl) (x:au),(aw f x).nrm=aw .o x) ∧
 (∀ (f:Fl) (xs:List au),(xs.map (aw f)).map AV.nrm=xs.map (aw .o)) ∧
 (∀ (f:Fl) (x:au),(aw f x).als=aw f.als x) ∧
 (∀ (f:Fl) (xs:List au),(xs.map (aw f)).map AV.als=xs.map (aw f.als)) ∧
 (∀ (f:Fl),AV.als ∘ aw f=aw f.als) ∧
 (∀ (f:Fl) (x:au),(aw f x).fix=aw f.fix x) ∧
 (∀ (f:Fl) (xs:List au),(xs.map (aw f)).map AV.fix=xs.map (aw f.fix)) ∧
 (∀ {H:World→Prop} {α:Type} {E:Fl→α→AV} {k:Nat} (t:Tok H E k),(bb t).als=bb t) ∧
 (∀ {H:World→Prop} {α:Type} {E:Fl→α→AV} {k:Nat} (t:Tok H E k),(bb t).nrm=bb t) ∧
 (∀ {H:World→Prop} {α:Type} {E:Fl→α→AV} {k:Nat} (l:List (Tok H E k)),(l.map bb).map AV.als=l.map bb) ∧
 (∀ {H:World→Prop} {α:Type} {E:Fl→α→AV} {k:Nat} (l:List (Tok H E k)),ct (l.map bb)=l.map bb) ∧
 (∀ {H:World→Prop} {α:Type} {E:Fl→α→AV} {k:Nat} (t:Tok H E k),(bb t).width=k) ∧
 (∀ {H:World→Prop} {α:Type} {E:Fl→α→AV} {k:Nat} (t:Tok H E k),(bb t).isAgg=true) ∧
 (∀ {H:World→Prop} {α:Type} {E:Fl→α→AV} {k:Nat} (t:Tok H E k),(bb t).ments=[]) ∧
 (∀ {H:World→Prop} {α:Type} {E:Fl→α→AV} {k:Nat} (t:Tok H E k),dH (bb t) 0 k true=some (bb t)) ∧
 (∀ {H:World→Prop} {α:Type} {E:Fl→α→AV} {k:Nat} (ρ:Nat→Option Row) (j:Nat) (t:Tok H E k),lift ρ (j+2) (bb t)=bb t) ∧
 (∀ {H:World→Prop} {α:Type} {E:Fl→α→AV} {k:Nat} (ρ:Nat→Option Row) (j:Nat) (t:Tok H E k),snp ρ (j+2) (bb t)=bb t) ∧
 (∀ {H:World→Prop} {α:Type} {E:Fl→α→AV} {k:Nat} (u t:Tok H E k),setPart (bb u) 0 (bb t)=some (bb t)) ∧
 (∀ {H:World→Prop} {α:Type} {E:Fl→α→AV} {k:Nat} (h:Nat→Nat) (t:Tok H E k),(bb t).rg h=bb t) ∧
 (∀ {H:World→Prop} {α:Type} {E:Fl→α→AV} {k:Nat} (r d:Nat) (t:Tok H E k),(bb t).ren r d=bb t) ∧
 (∀ {H:World→Prop} {α:Type} {E:Fl→α→AV} {k:Nat} (r:Nat) (t:Tok H E k),(bb t).hush r=bb t) ∧
 (∀ {H:World→Prop} {α:Type} {E:Fl→α→AV} {k:Nat} (t:Tok H E k),(bb t).cells.length=k) ∧
 (∀ {H:World→Prop} {α:Type} {E:Fl→α→AV} (a b:AV) (t:Tok H E 2),setPart (.agg [a,b]) 0 (bb t)=some (bb t)) ∧
 (∀ {H:World→Prop} {α:Type} {E:Fl→α→AV} (a b c d e:AV) (t:Tok H E 5),setPart (.agg [a,b,c,d,e]) 0 (bb t)=some (bb t)) ∧
 (∀ {H:World→Prop} {α:Type} {E:Fl→α→AV} (a b c d e f g h i j:AV) (t:Tok H E 10),setPart (.agg [a,b,c,d,e,f,g,h,i,j]) 0 (bb t)=some (bb t)) :=
 ⟨@fB,@pe,@ea,@px,@pi,@dZ,@jP,@jf,@mq,@fZ,@mw,@my,@fW,@iy,@kY,@pr,@gZ,@pC,@pq,@hJ,@jN,@ky,@AJ,@kv,@Cr,@BD,@lg,@pO,@gy,@kw,@eD,@kH,@kC,@eC,@gn,@hU,@pp,@gX,@pA,@oZ,@ik,@jL,@nV,@GL,@Ad,@zm,@fT,@fV,@oP,@zI,@Aq,@Fy,@Bo,@KS,@GS,@BU,@xh,@zL,@AP,@Ag⟩
theorem VF1:(∀ (f:Fl) (x:ar),(ah f x).fix=ah f.fix x) ∧
 (∀ (f:Fl) (xs:List ar),(xs.map (ah f)).map AV.fix=xs.map (ah f.fix)) ∧
 (∀ (f:Fl) (x:ae),(aH f x).fix=aH f.fix x) ∧
 (∀ (f:Fl) (xs:List ae),(xs.map (aH f)).map AV.fix=xs.map (aH f.fix)) ∧
 (∀ (f:Fl) (x:ax),(aO f x).fix=aO f.fix x) ∧
 (∀ (f:Fl) (xs:List ax),(xs.map (aO f)).map AV.fix=xs.map (aO f.fix)) ∧
 (∀ (f:Fl) (x:List Int),(aV f x).fix=aV f.fix x) ∧
 (∀ (f:Fl) (xs:List (List Int)),(xs.map (aV f)).map AV.fix=xs.map (aV f.fix)) ∧
 (∀ (f:Fl) (x:bd),(aB f x).fix=aB f.fix x) ∧
 (∀ (f:Fl) (xs:List bd),(xs.map (aB f)).map AV.fix=xs.map (aB f.fix)) ∧
 (∀ (f:Fl) (x:au),(aw f x).fix=aw f.fix x) ∧
 (∀ (f:Fl) (xs:List au),(xs.map (aw f)).map AV.fix=xs.map (aw f.fix)) :=
 ⟨@dZ,@jP,@fW,@iy,@hJ,@jN,@lg,@pO,@eC,@gn,@ik,@jL⟩
theorem VZ1:(∀ (x:ar),(ah .o x).fz=true) ∧
 (∀ (xs:List ar),fzL (xs.map (ah .o))=true) ∧
 (∀ (x:ar),(ah .u x).ouB=true) ∧
 (∀ (xs:List ar),db (xs.map (ah .u))=true) ∧
 (∀ (x:ae),(aH .o x).fz=true) ∧
 (∀ (xs:List ae),fzL (xs.map (aH .o))=true) ∧
 (∀ (x:ae),(aH .u x).ouB=true) ∧
 (∀ (xs:List ae),db (xs.map (aH .u))=true) ∧
 (∀ (x:ax),(aO .o x).fz=true) ∧
 (∀ (xs:List ax),fzL (xs.map (aO .o))=true) ∧
 (∀ (x:ax),(aO .u x).ouB=true) ∧
 (∀ (xs:List ax),db (xs.map (aO .u))=true) ∧
 (∀ (x:List Int),(aV .o x).fz=true) ∧
 (∀ (xs:List (List Int)),fzL (xs.map (aV .o))=true) ∧
 (∀ (x:List Int),(aV .u x).ouB=true) ∧
 (∀ (xs:List (List Int)),db (xs.map (aV .u))=true) ∧
 (∀ (x:bd),(aB .o x).fz=true) ∧
 (∀ (xs:List bd),fzL (xs.map (aB .o))=true) ∧
 (∀ (x:bd),(aB .u x).ouB=true) ∧
 (∀ (xs:List bd),db (xs.map (aB .u))=true) ∧
 (∀ (x:au),(aw .o x).fz=true) ∧
 (∀ (xs:List au),fzL (xs.map (aw .o))=true) ∧
 (∀ (x:au),(aw .u x).ouB=true) ∧
 (∀ (xs:List au),db (xs.map (aw .u))=true) :=
 ⟨@ma,@dY,@mi,@dV,@jV,@nW,@jU,@oM,@mh,@rT,@mg,@rG,@xF,@mW,@yJ,@ol,@iB,@lB,@iz,@lJ,@lR,@qD,@mb,@qW⟩
theorem VE1:ah .o=ah .u∧ah .m=ah .u∧ah .s=ah .u:=⟨rfl,rfl,rfl⟩
theorem Zr {α:Type} (n:Nat) (a:α):(List.replicate n a).length=n:=List.length_replicate
theorem ZA {A B:Prop} (a:A) (b:B):A∧B:=⟨a,b⟩
theorem ZF {A:Prop} (a:A) {P Q:Prop} (k:Q) (e:A→P=Q:=by intro a; simp only [VS1,VS2,VS3,VS4,VS5,VS6,VT1,VT2,cm,cn,decide_true,decide_false,List.nodup_nil,List.nodup_cons,gM,gw,gO,ne_eq,not_false_eq_true,Int.reduceEq,Int.reduceNe,true_and,false_and,Nat.reduceSub,Nat.reduceMul,↓reduceIte,reduceCtorEq,Nat.reduceEqDiff,Nat.reduceAdd,Nat.reduceLeDiff,Int.reduceLE,a]; exact Eq.refl _):P:=(e a).mpr k
theorem ZG {P Q:Prop} (k:Q) (e:P=Q:=by simp only [VA,VF1,↓reduceIte,Nat.reduceEqDiff,Nat.reduceAdd,Nat.reduceMul,Nat.reduceSub,Nat.reduceLeDiff]; exact Eq.refl _):P:=e.mpr k
theorem ZL {A:Prop} (a:A) {B:Prop} (b:B) {P:Prop} (e:A→B→P:=by intro a b; (try simp only [VS1,VS2,VS3,VS4,VS5,VS6,VT1,VT2,cm,cn,decide_true,decide_false,List.nodup_nil,List.nodup_cons,gM,gw,gO,ne_eq,not_false_eq_true,Int.reduceEq,Int.reduceNe,true_and,false_and,Nat.reduceSub,Nat.reduceMul,↓reduceIte,reduceCtorEq,Nat.reduceEqDiff,Nat.reduceAdd,Nat.reduceLeDiff,Int.reduceLE,a]); all_goals first | (simp [qL,qJ,qJ0,qS,qX,qR,qM,Shp,sub,gb,cm,cn,VS1,VS2,VS3,VS4,VS5,VS6,VT1,VT2,b]; done) | simp [qL,qJ,qJ0,qS,qX,qR,qM,Shp,sub,gb,cm,cn,VS1,VS2,VS3,VS4,VS5,VS6,VT1,VT2,VE1,b]):P:=e a b
theorem ZK {B:Prop} (b:B) {P:Prop} (e:B→P:=by intro b; simp [qL,qJ,qJ0,qS,qX,qR,qM,Shp,sub,gb,cm,cn,VS1,VS2,VS3,VS4,VS5,VS6,VT1,VT2,b]):P:=e b
theorem ZS {A:Prop} (a:A) {W:Prop} (w:W) {ok:Oks} {ρ:Nat→Option Row} {d f:Nat} {args:List AV} {K:AV→List (Nat×Row)→Prop} {v:Value} (hk:K (.sc v) [])
 (e:A→W→ok.p f (args.map (snp ρ 4)) (.sc v):=by intro a w; simp only [VS1,VS2,VS3,VS4,VS5,VS6,VT1,VT2,cm,cn,decide_true,decide_false,List.nodup_nil,List.nodup_cons,gM,gw,gO,ne_eq,not_false_eq_true,Int.reduceEq,Int.reduceNe,true_and,false_and,Nat.reduceSub,Nat.reduceMul,↓reduceIte,reduceCtorEq,Nat.reduceEqDiff,Nat.reduceAdd,Nat.reduceLeDiff,Int.reduceLE,a]; exact w):gl ok ρ d f args K:=QH (e a w) hk
theorem ZU {A:Prop} (a:A) {W:Prop} (w:W) {ok:Oks} {ρ:Nat→Option Row} {d f:Nat} {args:List AV} {K:AV→List (Nat×Row)→Prop} {res:AV} (hk:K (adopt 4 d res).1 (adopt 4 d res).2.1)
 (e:A→W→ok.p f (args.map (snp ρ 4)) res:=by intro a w; simp only [VS1,VS2,VS3,VS4,VS5,VS6,VT1,VT2,cm,cn,decide_true,decide_false,List.nodup_nil,List.nodup_cons,gM,gw,gO,ne_eq,not_false_eq_true,Int.reduceEq,Int.reduceNe,true_and,false_and,Nat.reduceSub,Nat.reduceMul,↓reduceIte,reduceCtorEq,Nat.reduceEqDiff,Nat.reduceAdd,Nat.reduceLeDiff,Int.reduceLE,a]; exact w) (hu:res.allU:=by simp [AV.allU,jT,yY,VT1,VT2]) (hn:∀ p∈(adopt 4 d res).2.1,ρ p.1=none∧p.1 < 1000000000:=by simp only [VS1,VS2,VS3,VS4,VS5,VS6,VT1,VT2,cm,cn,decide_true,decide_false,List.nodup_nil,List.nodup_cons,gM,gw,gO,ne_eq,not_false_eq_true,Int.reduceEq,Int.reduceNe,true_and,false_and,Nat.reduceSub,Nat.reduceMul,↓reduceIte,reduceCtorEq,Nat.reduceEqDiff,Nat.reduceAdd,Nat.reduceLeDiff,Int.reduceLE,Nat.reduceLT]):gl ok ρ d f args K:=Qg (e a w) hu hn hk
theorem ZQ {P:Prop} (e:P:=by simp [VS1,VS2,VS3,VS4,VS5,VS6,VT1,VT2]):P:=e
theorem ZW {A:Prop} (a:A) {W:Prop} (w:W) {ok:Oks} {ρ:Nat→Option Row} {d f:Nat} {args:List AV} {rs:List Nat} {K:AV→List (Nat×Row)→Prop} {res:AV} {outs:List (Nat×Row)}
 (e:A→W→ok.m f (args.map (AV.rg (cnm rs))) (rs.map (gP ρ rs)) res outs:=by intro a w; simp only [VS1,VS2,VS3,VS4,VS5,VS6,VT1,VT2,cm,cn,decide_true,decide_false,List.nodup_nil,List.nodup_cons,gM,gw,gO,ne_eq,not_false_eq_true,Int.reduceEq,Int.reduceNe,true_and,false_and,Nat.reduceSub,Nat.reduceMul,↓reduceIte,reduceCtorEq,Nat.reduceEqDiff,Nat.reduceAdd,Nat.reduceLeDiff,Int.reduceLE,a]; first | exact w | (simp only [VS1,VS2,VS3,VS4,VS5,VS6,VT1,VT2,cm,cn,decide_true,decide_false,List.nodup_nil,List.nodup_cons,gM,gw,gO,ne_eq,not_false_eq_true,Int.reduceEq,Int.reduceNe,true_and,false_and,Nat.reduceSub,Nat.reduceMul,↓reduceIte,reduceCtorEq,Nat.reduceEqDiff,Nat.reduceAdd,Nat.reduceLeDiff,Int.reduceLE,a] at w; exact w))
 (h1:rs.Nodup∧(∀ r∈rs,cd (ρ r))∧(∀ r∈rs,∀ q∈nb (ρ r),q∈rs)∧(∀ r∈aD args,r∈rs):=by simp [VS1,VS2,VS3,VS4,VS5,VS6,VT1,VT2])
 (h2:(outs.map fun p=>bkn d rs p.1).Nodup∧(∀ p∈outs,1000000000≤p.1→p.1 - 1000000000 < rs.length)∧(∀ p∈outs,p.1 < 1000000000→ρ (bkn d rs p.1)=none∧bkn d rs p.1 < 1000000000))
 (hk:K (res.rg (bkn d rs)) (cv rs++outs.map (cB d rs))):callM ok ρ d f args rs K:=wF (e a w) h1 h2 hk
theorem w_ef (codeZ0:List Int) {r:Bool} (h:LC codeZ0=some r):Ok Tryz.prog 22 [.lst .o 1 (codeZ0.map AV.u8)] ((fun r=>.b r) r):=by
 refine ay bc m22 rfl ?_
 unfold LC at h
 simp only [ZC,A22,V22,aJ]
 cases h
 exact ZL trivial @V22.eq_1
theorem w_cg (aaZ0:ax) {r:Int×ax} (h:zW aaZ0=some r):OkM Tryz.prog 109 [.pt 1000000000 0 0] [(1000000000,.var (.agg [.lst .o 1 (((aaZ0).code).map AV.u8),.i ((aaZ0).atF),.sc (.int .u64 ((aaZ0).seed))]))] ((fun (r:Int×ax)=>.i r.1) r) ((fun (r:Int×ax)=>[(1000000000,.var (.agg [.lst .o 1 (((r.2).code).map AV.u8),.i ((r.2).atF),.sc (.int .u64 ((r.2).seed))]))]) r):=by
 refine bl (lr:=[1000000000]) bc Rt rfl rfl ?_
 unfold zW at h
 simp only [ZC,GI,rd]
 obtain ⟨oZ3,hoZ3,h⟩:=af h
 try refine ZF trivial ?_
 refine aA (sh:=(fun v=>⟨[(0,.pt 1000000000 0 0),(3,.i v)],[(1000000000,.var (.agg [.lst .o 1 (((aaZ0).code).map AV.u8),.i ((aaZ0).atF),.sc (.int .u64 ((aaZ0).seed))]))]⟩)) (s:=oZ3) ?_ ?_
 · replace h:=hoZ3
   obtain ⟨cZ1,h⟩ | ⟨cZ1,h⟩:=ai h
   · obtain ⟨yZ2,hyZ2,h⟩:=af h
     obtain ⟨hyZ2a,hyZ2b⟩:=ba hyZ2
     cases h
     exact ZL (ZA cZ1 (ZA hyZ2a hyZ2b)) trivial
   · cases h
     exact ZL cZ1 trivial
 · simp only [ZC,tH]
   obtain ⟨cZ4,h⟩ | ⟨cZ4,h⟩:=ai h
   · cases h
     exact ZL cZ4 @rd.eq_1
   · cases h
     exact ZL cZ4 @rd.eq_1
theorem w_a (aaZ0:Int) (abZ0:ax) {r:Int×ax} (h:M_a aaZ0 abZ0=some r):OkM Tryz.prog 67 [.pt 1000000000 0 0,.i aaZ0] [(1000000000,.var (.agg [.lst .o 1 (((abZ0).code).map AV.u8),.i ((abZ0).atF),.sc (.int .u64 ((abZ0).seed))]))] ((fun (r:Int×ax)=>.i r.1) r) ((fun (r:Int×ax)=>[(1000000000,.var (.agg [.lst .o 1 (((r.2).code).map AV.u8),.i ((r.2).atF),.sc (.int .u64 ((r.2).seed))]))]) r):=by
 refine bl (lr:=[1000000000]) bc Sb rfl rfl ?_
 unfold M_a at h
 simp only [ZC,Ot,sv]
 obtain ⟨cZ1,h⟩ | ⟨cZ1,h⟩:=ai h
 · cases h
   exact ZL cZ1 @sv.eq_1
 · obtain ⟨rZ2,hrZ2,h⟩:=af h
   refine ZF cZ1 ?_
   refine ZW cZ1 (w_cg _ hrZ2) (h2:=by first | exact bA [1000000000] rfl (by decide +kernel) | exact be [1000000000] [] rfl (by decide +kernel) ZQ | exact ZQ) (hk:=?_)
   refine ZG ?_
   obtain ⟨cZ3,h⟩ | ⟨cZ3,h⟩:=ai h
   · obtain ⟨rZ4,hrZ4,h⟩:=af h
     refine ZF (ZA cZ1 cZ3) ?_
     refine ZW (ZA cZ1 cZ3) (w_cg _ hrZ4) (h2:=by first | exact bA [1000000000] rfl (by decide +kernel) | exact be [1000000000] [] rfl (by decide +kernel) ZQ | exact ZQ) (hk:=?_)
     refine ZG ?_
     obtain ⟨uZ5,huZ5,h⟩:=af h
     have huZ5g:=aR huZ5
     cases h
     exact ZL (ZA cZ1 (ZA cZ3 huZ5g)) @sv.eq_1
   · obtain ⟨uZ6,huZ6,h⟩:=af h
     have huZ6g:=aR huZ6
     cases h
     exact ZL (ZA cZ1 (ZA cZ3 huZ6g)) @sv.eq_1
theorem w_cs (aaZ0:Int) (abZ0:ax) {r:Bool×ax} (h:CI aaZ0 abZ0=some r):OkM Tryz.prog 139 [.pt 1000000000 0 0,.i aaZ0] [(1000000000,.var (.agg [.lst .o 1 (((abZ0).code).map AV.u8),.i ((abZ0).atF),.sc (.int .u64 ((abZ0).seed))]))] ((fun (r:Bool×ax)=>.b r.1) r) ((fun (r:Bool×ax)=>[(1000000000,.var (.agg [.lst .o 1 (((r.2).code).map AV.u8),.i ((r.2).atF),.sc (.int .u64 ((r.2).seed))]))]) r):=by
 refine bl (lr:=[1000000000]) bc Rb rfl rfl ?_
 unfold CI at h
 simp only [ZC,Fs,xB]
 obtain ⟨rZ1,hrZ1,h⟩:=af h
 refine ZF trivial ?_
 refine ZW trivial (w_a _ _ hrZ1) (h2:=by first | exact bA [1000000000] rfl (by decide +kernel) | exact be [1000000000] [] rfl (by decide +kernel) ZQ | exact ZQ) (hk:=?_)
 refine ZG ?_
 cases h
 exact ZL trivial @xB.eq_1
theorem w_ch (aZ0:Int) (bZ0:Int) {r:Int} (h:BX aZ0 bZ0=some r):Ok Tryz.prog 104 [.i aZ0,.i bZ0] ((fun r=>.i r) r):=by
 refine ay bc m104 rfl ?_
 unfold BX at h
 simp only [ZC,A104,Mp,aJ]
 obtain ⟨cZ1,h⟩ | ⟨cZ1,h⟩:=ai h
 · cases h
   exact ZL cZ1 @Mp.eq_1
 · cases h
   exact ZL cZ1 @Mp.eq_1
theorem QR (aZ0:Int) (bZ0:Int) {r:Int} (h:rQ aZ0 bZ0=some r):Ok Tryz.prog 74 [.i aZ0,.i bZ0] ((fun r=>.i r) r):=by
 refine ay bc m74 rfl ?_
 unfold rQ at h
 simp only [ZC,A74,V74,aJ]
 obtain ⟨cZ1,h⟩ | ⟨cZ1,h⟩:=ai h
 · cases h
   exact ZL cZ1 @V74.eq_1
 · cases h
   exact ZL cZ1 @V74.eq_1
theorem Mz (aaZ0:ax) (abZ0:List Int) {r:Int×ax×List Int} (h:sF aaZ0 abZ0=some r):OkM Tryz.prog 66 [.pt 1000000000 0 0,.sl 1000000001 0 abZ0.length] [(1000000000,.var (.agg [.lst .o 1 (((aaZ0).code).map AV.u8),.i ((aaZ0).atF),.sc (.int .u64 ((aaZ0).seed))])),(1000000001,.arr 1 (abZ0.map AV.i))] ((fun (r:Int×ax×List Int)=>.i r.1) r) ((fun (r:Int×ax×List Int)=>[(1000000000,.var (.agg [.lst .o 1 (((r.2.1).code).map AV.u8),.i ((r.2.1).atF),.sc (.int .u64 ((r.2.1).seed))])),(1000000001,.arr 1 (r.2.2.map AV.i))]) r):=by
 refine bl (lr:=[1000000000,1000000001]) bc Sq rfl rfl ?_
 unfold sF at h
 simp only [ZC,NW,Ge]
 obtain ⟨rZ1,hrZ1,h⟩:=af h
 refine ZF trivial ?_
 refine ZW trivial (w_a _ _ hrZ1) (h2:=by first | exact bA [1000000000] rfl (by decide +kernel) | exact be [1000000000] [] rfl (by decide +kernel) ZQ | exact ZQ) (hk:=?_)
 refine ZG ?_
 obtain ⟨kZ2,hkZ2,h⟩:=af h
 obtain ⟨hkZ2a,hkZ2b⟩:=aR hkZ2
 obtain ⟨yZ3,hyZ3,h⟩:=af h
 cases h
 exact ZL (ZA hkZ2a (ZA hkZ2b hyZ3)) @Ge.eq_1
theorem w_bx (fZ0:ar) (gZ0:ar) {r:Int} (h:uf fZ0 gZ0=some r):Ok Tryz.prog 103 [.agg [.i fZ0.A,.i fZ0.B,.i fZ0.Length,.i fZ0.Risk],.agg [.i gZ0.A,.i gZ0.B,.i gZ0.Length,.i gZ0.Risk]] ((fun r=>.i r) r):=by
 refine ay bc m103 rfl ?_
 unfold uf at h
 simp only [ZC,A103,CS,aJ]
 obtain ⟨cZ1,h⟩ | ⟨cZ1,h⟩:=ai h
 · cases h
   exact ZL cZ1 @CS.eq_1
 · obtain ⟨cZ2,h⟩ | ⟨cZ2,h⟩:=ai h
   · cases h
     exact ZL (ZA cZ1 cZ2) @CS.eq_1
   · obtain ⟨cZ3,h⟩ | ⟨cZ3,h⟩:=ai h
     · cases h
       exact ZL (ZA cZ1 (ZA cZ2 cZ3)) @CS.eq_1
     · cases h
       exact ZL (ZA cZ1 (ZA cZ2 cZ3)) @CS.eq_1
def S_p (listZ0:List ar) (fZ0:ar) (v:Int):St:=⟨[(0,.lst .o 4 (listZ0.map (ah .o))),(3,.pt 3 0 0),(5,.i v)],[(3,.var (.agg [.i fZ0.A,.i fZ0.B,.i fZ0.Length,.i fZ0.Risk]))]⟩
def zg (listZ0:List ar) (fZ0:ar) (v:Int):St:=⟨[(0,.lst .o 4 (listZ0.map (ah .o))),(3,.pt 3 0 0),(5,.i v)],[(3,.var (.agg [.i fZ0.A,.i fZ0.B,.i fZ0.Length,.i fZ0.Risk]))]⟩
theorem w_p (listZ0:List ar) (fZ0:ar) (sZ1:Int) (o:Int ⊕ Int) (h:M_p listZ0 fZ0 sZ1=some o):AWP (OkS Tryz.prog) wl (qL [0,3,5] [3] (S_p listZ0 fZ0) (qX 0 [0,3,5] [3] (zg listZ0 fZ0)) o) (S_p listZ0 fZ0 sZ1):=by
 unfold M_p at h
 simp only [ZC,S_p,wl]
 obtain ⟨cZ2,h⟩ | ⟨cZ2,h⟩:=ai h
 · obtain ⟨yZ3,hyZ3,h⟩:=af h
   obtain ⟨hyZ3a,hyZ3b⟩:=ba hyZ3
   obtain ⟨rZ4,hrZ4,h⟩:=af h
   refine ZF (ZA cZ2 (ZA hyZ3a hyZ3b)) ?_
   refine ZS (ZA cZ2 (ZA hyZ3a hyZ3b)) (w_bx _ _ hrZ4) ?_
   refine ZG ?_
   obtain ⟨cZ5,h⟩ | ⟨cZ5,h⟩:=ai h
   · cases h
     exact ZL (ZA cZ2 (ZA hyZ3a (ZA hyZ3b cZ5))) (ZA @S_p.eq_1 @zg.eq_1)
   · cases h
     exact ZL (ZA cZ2 (ZA hyZ3a (ZA hyZ3b cZ5))) (ZA @S_p.eq_1 @zg.eq_1)
 · cases h
   exact ZL cZ2 (ZA @S_p.eq_1 @zg.eq_1)
theorem w_ci (listZ0:List ar) (fZ0:ar) {r:List ar} (h:CG listZ0 fZ0=some r):Ok Tryz.prog 140 [.lst .o 4 (listZ0.map (ah .o)),.agg [.i fZ0.A,.i fZ0.B,.i fZ0.Length,.i fZ0.Risk]] ((fun r=>.lst .u 4 (r.map (ah .u))) r):=by
 refine ay bc m140 rfl ?_
 unfold CG at h
 simp only [ZC,A140,QZ,aJ]
 obtain ⟨oZ6,hoZ6,h⟩:=af h
 try refine ZF trivial ?_
 refine aA (bf (aF (w_p listZ0 fZ0) hoZ6 ?_)) ?_
 · exact ZK (ZA @S_p.eq_1 @zg.eq_1)
 · simp only [ZC,zg,IJ]
   obtain ⟨lZ7,hlZ7,h⟩:=af h
   obtain ⟨hlZ7a,hlZ7b,hlZ7c,hlZ7d,hlZ7e⟩:=yp (ah .o) hlZ7
   obtain ⟨uZ8,huZ8,h⟩:=af h
   have huZ8g:=aR huZ8
   obtain ⟨lZ9,hlZ9,h⟩:=aQ h
   have eZ10:Row.arr 4 [(.agg [.i fZ0.A,.i fZ0.B,.i fZ0.Length,.i fZ0.Risk]:AV)]=Row.arr 4 (lZ9.map (ah .u)):=by rw [← hlZ9]; rfl
   have jjZ11:lZ9.length=1:=by rw [← hlZ9]; rfl
   obtain ⟨uZ12,huZ12,h⟩:=af h
   have huZ12g:=aR huZ12
   obtain ⟨lZ13,hlZ13,h⟩:=aQ h
   have eZ14:lZ7.map (ah .o)++lZ9.map (ah .o)=lZ13.map (ah .o):=by rw [← hlZ13,List.map_append]
   have eZ15:lZ7.length+1=lZ13.length:=by simp [← hlZ9,← hlZ13] <;> omega
   rw [eZ15] at huZ12g
   obtain ⟨lZ16,hlZ16,h⟩:=af h
   obtain ⟨hlZ16a,hlZ16b,hlZ16c,hlZ16d,hlZ16e⟩:=RL (ah .o) hlZ16
   obtain ⟨uZ17,huZ17,h⟩:=af h
   have huZ17g:=aR huZ17
   obtain ⟨lZ18,hlZ18,h⟩:=aQ h
   have eZ19:lZ13.map (ah .o)++lZ16.map (ah .o)=lZ18.map (ah .o):=by rw [← hlZ18,List.map_append]
   have eZ20:lZ13.length+lZ16.length=lZ18.length:=by simp [← hlZ9,← hlZ13,← hlZ18] <;> omega
   rw [eZ20] at huZ17g
   cases h
   exact ZL (ZA hlZ7a (ZA hlZ7b (ZA hlZ7c (ZA hlZ7d (ZA hlZ7e (ZA huZ8g (ZA eZ10 (ZA jjZ11 (ZA huZ12g (ZA eZ14 (ZA eZ15 (ZA hlZ16a (ZA hlZ16b (ZA hlZ16c (ZA hlZ16d (ZA hlZ16e (ZA huZ17g (ZA eZ19 eZ20)))))))))))))))))) (ZA @QZ.eq_1 (ZA hlZ9.symm (ZA hlZ13.symm (ZA hlZ18.symm jjZ11))))
def S_j (rZ1:Int×ax) (lZ2:List ByteArray) (v:Int×List ar×ax):St:=⟨[(0,.pt 1000000000 0 0),(2,.pt 2 0 0),(3,.i (IntKind.wrap .i64 (2+rZ1.1))),(4,.pt 4 0 0),(5,.i v.1)],[(2,.var (.agg [.lst .u 1 [],.lst .u 4 []])),(4,.var (.agg [.sl 500000256 0 (Int.toNat (IntKind.wrap .i64 (2+rZ1.1))),.sl 500000257 0 v.2.1.length])),(500000256,.arr 1 (lZ2.map AV.z)),(500000257,.arr 4 (v.2.1.map (ah .u))),(1000000000,.var (.agg [.lst .o 1 (((v.2.2).code).map AV.u8),.i ((v.2.2).atF),.sc (.int .u64 ((v.2.2).seed))]))]⟩
def zK (rZ1:Int×ax) (lZ2:List ByteArray) (v:List ar×ax):St:=⟨[(0,.pt 1000000000 0 0),(2,.pt 2 0 0),(3,.i (IntKind.wrap .i64 (2+rZ1.1))),(4,.pt 4 0 0)],[(2,.var (.agg [.lst .u 1 [],.lst .u 4 []])),(4,.var (.agg [.sl 500000256 0 (Int.toNat (IntKind.wrap .i64 (2+rZ1.1))),.sl 500000257 0 v.1.length])),(500000256,.arr 1 (lZ2.map AV.z)),(500000257,.arr 4 (v.1.map (ah .u))),(1000000000,.var (.agg [.lst .o 1 (((v.2).code).map AV.u8),.i ((v.2).atF),.sc (.int .u64 ((v.2).seed))]))]⟩
theorem w_j (rZ1:Int×ax) (lZ2:List ByteArray) (sZ6:Int×List ar×ax) (o:(Int×List ar×ax) ⊕ (List ar×ax)) (h:M_j rZ1 sZ6=some o):AWP (OkS Tryz.prog) mS (qL [0,2,3,4,5] [2,4,500000256,500000257,1000000000] (S_j rZ1 lZ2) (qX 0 [0,2,3,4] [2,4,500000256,500000257,1000000000] (zK rZ1 lZ2)) o) (S_j rZ1 lZ2 sZ6):=by
 unfold M_j at h
 simp only [ZC,S_j,mS]
 obtain ⟨cZ7,h⟩ | ⟨cZ7,h⟩:=ai h
 · obtain ⟨uZ8,huZ8,h⟩:=af h
   have huZ8g:=aR huZ8
   obtain ⟨oZ11,hoZ11,h⟩:=af h
   try refine ZF (ZA cZ7 huZ8g) ?_
   refine aA (sh:=(fun v=>⟨[(0,.pt 1000000000 0 0),(2,.pt 2 0 0),(3,.i (IntKind.wrap .i64 (2+rZ1.1))),(4,.pt 4 0 0),(5,.i sZ6.1),(6,.i (Int.tmod (IntKind.wrap .i64 (sZ6.1+1)) (IntKind.wrap .i64 (2+rZ1.1)))),(32,.b v.1)],[(2,.var (.agg [.lst .u 1 [],.lst .u 4 []])),(4,.var (.agg [.sl 500000256 0 (Int.toNat (IntKind.wrap .i64 (2+rZ1.1))),.sl 500000257 0 sZ6.2.1.length])),(500000256,.arr 1 (lZ2.map AV.z)),(500000257,.arr 4 (sZ6.2.1.map (ah .u))),(1000000000,.var (.agg [.lst .o 1 (((v.2).code).map AV.u8),.i ((v.2).atF),.sc (.int .u64 ((v.2).seed))]))]⟩)) (s:=oZ11) ?_ ?_
   · replace h:=hoZ11
     obtain ⟨cZ9,h⟩ | ⟨cZ9,h⟩:=ai h
     · cases h
       exact ZL (ZA cZ7 (ZA huZ8g cZ9)) trivial
     · obtain ⟨rZ10,hrZ10,h⟩:=af h
       refine ZF (ZA cZ7 (ZA huZ8g cZ9)) ?_
       refine ZW (ZA cZ7 (ZA huZ8g cZ9)) (w_cs _ _ hrZ10) (h2:=by first | exact bA [1000000000] rfl (by decide +kernel) | exact be [1000000000] [] rfl (by decide +kernel) ZQ | exact ZQ) (hk:=?_)
       refine ZG ?_
       cases h
       exact ZL (ZA cZ7 (ZA huZ8g cZ9)) trivial
   · simp only [ZC,tk]
     obtain ⟨cZ12,h⟩ | ⟨cZ12,h⟩:=ai h
     · cases h
       exact ZL (ZA cZ7 (ZA huZ8g cZ12)) (ZA @S_j.eq_1 @zK.eq_1)
     · obtain ⟨rZ13,hrZ13,h⟩:=af h
       refine ZF (ZA cZ7 (ZA huZ8g cZ12)) ?_
       refine ZS (ZA cZ7 (ZA huZ8g cZ12)) (w_ch _ _ hrZ13) ?_
       refine ZG ?_
       obtain ⟨rZ14,hrZ14,h⟩:=af h
       refine ZF (ZA cZ7 (ZA huZ8g cZ12)) ?_
       refine ZS (ZA cZ7 (ZA huZ8g cZ12)) (QR _ _ hrZ14) ?_
       refine ZG ?_
       obtain ⟨rZ15,hrZ15,h⟩:=af h
       refine ZF (ZA cZ7 (ZA huZ8g cZ12)) ?_
       refine ZW (ZA cZ7 (ZA huZ8g cZ12)) (w_a _ _ hrZ15) (h2:=by first | exact bA [1000000000] rfl (by decide +kernel) | exact be [1000000000] [] rfl (by decide +kernel) ZQ | exact ZQ) (hk:=?_)
       refine ZG ?_
       obtain ⟨lZ16,hlZ16,h⟩:=aQ h
       have eZ17:Row.arr 1 [(.i 0:AV),(.i 0:AV),(.i 0:AV),(.i 1:AV),(.i 2:AV)]=Row.arr 1 (lZ16.map AV.i):=by rw [← hlZ16]; rfl
       have jjZ18:lZ16.length=5:=by rw [← hlZ16]; rfl
       obtain ⟨rZ19,hrZ19,h⟩:=af h
       refine ZF (ZA cZ7 (ZA huZ8g (ZA cZ12 (ZA eZ17 jjZ18)))) ?_
       refine ZW (ZA cZ7 (ZA huZ8g (ZA cZ12 (ZA eZ17 jjZ18)))) (Mz _ _ hrZ19) (h2:=by first | exact bA [1000000000,1000000001] rfl (by decide +kernel) | exact be [1000000000,1000000001] [] rfl (by decide +kernel) ZQ | exact ZQ) (hk:=?_)
       refine ZG ?_
       obtain ⟨rZ20,hrZ20,h⟩:=af h
       refine ZF (ZA cZ7 (ZA huZ8g (ZA cZ12 (ZA eZ17 jjZ18)))) ?_
       refine ZU (ZA cZ7 (ZA huZ8g (ZA cZ12 (ZA eZ17 jjZ18)))) (w_ci _ _ hrZ20) ?_
       refine ZG ?_
       cases h
       exact ZL (ZA cZ7 (ZA huZ8g (ZA cZ12 (ZA eZ17 jjZ18)))) (ZA @S_j.eq_1 (ZA @zK.eq_1 (ZA hlZ16.symm jjZ18)))
 · cases h
   exact ZL cZ7 (ZA @S_j.eq_1 @zK.eq_1)
def S_k (rZ1:Int×ax) (lZ2:List ByteArray) (v:Int×List ar×ax):St:=⟨[(0,.pt 1000000000 0 0),(2,.pt 2 0 0),(3,.i (IntKind.wrap .i64 (2+rZ1.1))),(4,.pt 4 0 0),(7,.i v.1)],[(2,.var (.agg [.lst .u 1 [],.lst .u 4 []])),(4,.var (.agg [.sl 500000256 0 (Int.toNat (IntKind.wrap .i64 (2+rZ1.1))),.sl 500000257 0 v.2.1.length])),(500000256,.arr 1 (lZ2.map AV.z)),(500000257,.arr 4 (v.2.1.map (ah .u))),(1000000000,.var (.agg [.lst .o 1 (((v.2.2).code).map AV.u8),.i ((v.2.2).atF),.sc (.int .u64 ((v.2.2).seed))]))]⟩
def BS (rZ1:Int×ax) (lZ2:List ByteArray) (v:List ar×ax):St:=⟨[(2,.pt 2 0 0),(4,.pt 4 0 0)],[(2,.var (.agg [.lst .u 1 [],.lst .u 4 []])),(4,.var (.agg [.sl 500000256 0 (Int.toNat (IntKind.wrap .i64 (2+rZ1.1))),.sl 500000257 0 v.1.length])),(500000256,.arr 1 (lZ2.map AV.z)),(500000257,.arr 4 (v.1.map (ah .u))),(1000000000,.var (.agg [.lst .o 1 (((v.2).code).map AV.u8),.i ((v.2).atF),.sc (.int .u64 ((v.2).seed))]))]⟩
theorem w_k (rZ1:Int×ax) (lZ2:List ByteArray) (sZ23:Int×List ar×ax) (o:(Int×List ar×ax) ⊕ (List ar×ax)) (h:M_k rZ1 sZ23=some o):AWP (OkS Tryz.prog) nZ (qL [0,2,3,4,7] [2,4,500000256,500000257,1000000000] (S_k rZ1 lZ2) (qX 2 [2,4] [2,4,500000256,500000257,1000000000] (BS rZ1 lZ2)) o) (S_k rZ1 lZ2 sZ23):=by
 unfold M_k at h
 simp only [ZC,S_k,nZ]
 obtain ⟨cZ24,h⟩ | ⟨cZ24,h⟩:=ai h
 · obtain ⟨rZ25,hrZ25,h⟩:=af h
   refine ZF cZ24 ?_
   refine ZW cZ24 (w_a _ _ hrZ25) (h2:=by first | exact bA [1000000000] rfl (by decide +kernel) | exact be [1000000000] [] rfl (by decide +kernel) ZQ | exact ZQ) (hk:=?_)
   refine ZG ?_
   obtain ⟨rZ26,hrZ26,h⟩:=af h
   refine ZF cZ24 ?_
   refine ZW cZ24 (w_a _ _ hrZ26) (h2:=by first | exact bA [1000000000] rfl (by decide +kernel) | exact be [1000000000] [] rfl (by decide +kernel) ZQ | exact ZQ) (hk:=?_)
   refine ZG ?_
   obtain ⟨cZ27,h⟩ | ⟨cZ27,h⟩:=ai h
   · obtain ⟨rZ28,hrZ28,h⟩:=af h
     refine ZF (ZA cZ24 cZ27) ?_
     refine ZS (ZA cZ24 cZ27) (w_ch _ _ hrZ28) ?_
     refine ZG ?_
     obtain ⟨rZ29,hrZ29,h⟩:=af h
     refine ZF (ZA cZ24 cZ27) ?_
     refine ZS (ZA cZ24 cZ27) (QR _ _ hrZ29) ?_
     refine ZG ?_
     obtain ⟨rZ30,hrZ30,h⟩:=af h
     refine ZF (ZA cZ24 cZ27) ?_
     refine ZW (ZA cZ24 cZ27) (w_a _ _ hrZ30) (h2:=by first | exact bA [1000000000] rfl (by decide +kernel) | exact be [1000000000] [] rfl (by decide +kernel) ZQ | exact ZQ) (hk:=?_)
     refine ZG ?_
     obtain ⟨lZ31,hlZ31,h⟩:=aQ h
     have eZ32:Row.arr 1 [(.i 0:AV),(.i 0:AV),(.i 0:AV),(.i 1:AV),(.i 2:AV)]=Row.arr 1 (lZ31.map AV.i):=by rw [← hlZ31]; rfl
     have jjZ33:lZ31.length=5:=by rw [← hlZ31]; rfl
     obtain ⟨rZ34,hrZ34,h⟩:=af h
     refine ZF (ZA cZ24 (ZA cZ27 (ZA eZ32 jjZ33))) ?_
     refine ZW (ZA cZ24 (ZA cZ27 (ZA eZ32 jjZ33))) (Mz _ _ hrZ34) (h2:=by first | exact bA [1000000000,1000000001] rfl (by decide +kernel) | exact be [1000000000,1000000001] [] rfl (by decide +kernel) ZQ | exact ZQ) (hk:=?_)
     refine ZG ?_
     obtain ⟨rZ35,hrZ35,h⟩:=af h
     refine ZF (ZA cZ24 (ZA cZ27 (ZA eZ32 jjZ33))) ?_
     refine ZU (ZA cZ24 (ZA cZ27 (ZA eZ32 jjZ33))) (w_ci _ _ hrZ35) ?_
     refine ZG ?_
     cases h
     exact ZL (ZA cZ24 (ZA cZ27 (ZA eZ32 jjZ33))) (ZA @S_k.eq_1 (ZA @BS.eq_1 (ZA hlZ31.symm jjZ33)))
   · cases h
     exact ZL (ZA cZ24 cZ27) (ZA @S_k.eq_1 @BS.eq_1)
 · cases h
   exact ZL cZ24 (ZA @S_k.eq_1 @BS.eq_1)
theorem w_cj (aaZ0:ax) {r:Nat×Nat×List ByteArray×List ar×ax} (h:CN aaZ0=some r):OkM Tryz.prog 107 [.pt 1000000000 0 0] [(1000000000,.var (.agg [.lst .o 1 (((aaZ0).code).map AV.u8),.i ((aaZ0).atF),.sc (.int .u64 ((aaZ0).seed))]))] ((fun (r:Nat×Nat×List ByteArray×List ar×ax)=>.agg [.sl 500000128 r.1 r.2.1,.sl 500000129 0 r.2.2.2.1.length]) r) ((fun (r:Nat×Nat×List ByteArray×List ar×ax)=>[(500000128,.arr 1 (r.2.2.1.map AV.z)),(500000129,.arr 4 (r.2.2.2.1.map (ah .u))),(1000000000,.var (.agg [.lst .o 1 (((r.2.2.2.2).code).map AV.u8),.i ((r.2.2.2.2).atF),.sc (.int .u64 ((r.2.2.2.2).seed))]))]) r):=by
 refine bl (lr:=[500000128,500000129,1000000000]) bc QU rfl rfl ?_
 unfold CN at h
 simp only [ZC,Dr,wA]
 obtain ⟨rZ1,hrZ1,h⟩:=af h
 refine ZF trivial ?_
 refine ZW trivial (w_a _ _ hrZ1) (h2:=by first | exact bA [1000000000] rfl (by decide +kernel) | exact be [1000000000] [] rfl (by decide +kernel) ZQ | exact ZQ) (hk:=?_)
 refine ZG ?_
 obtain ⟨lZ2,hlZ2,h⟩:=aQ h
 have eZ3:Row.arr 1 [(.z (⟨#[97]⟩:ByteArray):AV),(.z (⟨#[98]⟩:ByteArray):AV),(.z (⟨#[99]⟩:ByteArray):AV),(.z (⟨#[100]⟩:ByteArray):AV),(.z (⟨#[101]⟩:ByteArray):AV),(.z (⟨#[102]⟩:ByteArray):AV)]=Row.arr 1 (lZ2.map AV.z):=by rw [← hlZ2]; rfl
 have jjZ4:lZ2.length=6:=by rw [← hlZ2]; rfl
 obtain ⟨uZ5,huZ5,h⟩:=af h
 obtain ⟨huZ5a,huZ5b,huZ5c,huZ5d⟩:=aR huZ5
 obtain ⟨oZ21,hoZ21,h⟩:=af h
 try refine ZF (ZA eZ3 (ZA jjZ4 (ZA huZ5a (ZA huZ5b (ZA huZ5c huZ5d))))) ?_
 refine aA (bf (aF (w_j rZ1 lZ2) hoZ21 ?_)) ?_
 · exact ZK (ZA @S_j.eq_1 (ZA @zK.eq_1 (ZA hlZ2.symm jjZ4)))
 · simp only [ZC,zK,sQ]
   obtain ⟨rZ22,hrZ22,h⟩:=af h
   refine ZF (ZA eZ3 (ZA jjZ4 (ZA huZ5a (ZA huZ5b (ZA huZ5c huZ5d))))) ?_
   refine ZW (ZA eZ3 (ZA jjZ4 (ZA huZ5a (ZA huZ5b (ZA huZ5c huZ5d))))) (w_a _ _ hrZ22) (h2:=by first | exact bA [1000000000] rfl (by decide +kernel) | exact be [1000000000] [] rfl (by decide +kernel) ZQ | exact ZQ) (hk:=?_)
   refine ZG ?_
   obtain ⟨oZ36,hoZ36,h⟩:=af h
   try refine ZF (ZA eZ3 (ZA jjZ4 (ZA huZ5a (ZA huZ5b (ZA huZ5c huZ5d))))) ?_
   refine aA (bf (aF (w_k rZ1 lZ2) hoZ36 ?_)) ?_
   · exact ZK (ZA @S_k.eq_1 (ZA @BS.eq_1 jjZ4))
   · simp only [ZC,BS,uQ]
     cases h
     exact ZL (ZA eZ3 (ZA jjZ4 (ZA huZ5a (ZA huZ5b (ZA huZ5c huZ5d))))) (ZA @wA.eq_1 jjZ4)
theorem w_h (xZ0:Int) (aZ0:Int) (bZ0:Int) {r:Bool} (h:M_h xZ0 aZ0 bZ0=some r):Ok Tryz.prog 72 [.i xZ0,.i aZ0,.i bZ0] ((fun r=>.b r) r):=by
 refine ay bc m72 rfl ?_
 unfold M_h at h
 simp only [ZC,A72,V72,aJ]
 obtain ⟨cZ1,h⟩ | ⟨cZ1,h⟩:=ai h
 · cases h
   exact ZL cZ1 @V72.eq_1
 · cases h
   exact ZL cZ1 @V72.eq_1
theorem w_cu (bZ0:Int) {r:Bool} (h:Gs bZ0=some r):Ok Tryz.prog 136 [.sc (.int .u8 bZ0)] ((fun r=>.b r) r):=by
 refine ay bc m136 rfl ?_
 unfold Gs at h
 simp only [ZC,A136,wE,aJ]
 obtain ⟨cZ1,h⟩ | ⟨cZ1,h⟩:=ai h
 · obtain ⟨cZ2,h⟩ | ⟨cZ2,h⟩:=ai h
   · cases h
     exact ZL (ZA cZ1 cZ2) @wE.eq_1
   · obtain ⟨cZ3,h⟩ | ⟨cZ3,h⟩:=ai h
     · cases h
       exact ZL (ZA cZ1 (ZA cZ2 cZ3)) @wE.eq_1
     · cases h
       exact ZL (ZA cZ1 (ZA cZ2 cZ3)) @wE.eq_1
 · obtain ⟨cZ4,h⟩ | ⟨cZ4,h⟩:=ai h
   · cases h
     exact ZL (ZA cZ1 cZ4) @wE.eq_1
   · cases h
     exact ZL (ZA cZ1 cZ4) @wE.eq_1
def BP (sZ0:ByteArray) (v:Int):St:=⟨[(0,.z sZ0),(3,.i v)],[]⟩
def ul (v:Unit):St:=⟨[],[]⟩
theorem w_al (sZ0:ByteArray) (sZ7:Int) (o:Int ⊕ (Unit ⊕ Bool)) (h:Ce sZ0 sZ7=some o):AWP (OkS Tryz.prog) xk (qL [0,3] [] (BP sZ0) (qS (qX 0 [] [] (ul)) (qR BN (fun r=>.b r))) o) (BP sZ0 sZ7):=by
 unfold Ce at h
 simp only [ZC,BP,xk]
 obtain ⟨cZ8,h⟩ | ⟨cZ8,h⟩:=ai h
 · obtain ⟨yZ9,hyZ9,h⟩:=af h
   obtain ⟨hyZ9a,hyZ9b⟩:=rX hyZ9
   obtain ⟨rZ10,hrZ10,h⟩:=af h
   refine ZF (ZA cZ8 (ZA hyZ9a hyZ9b)) ?_
   refine ZS (ZA cZ8 (ZA hyZ9a hyZ9b)) (w_cu _ hrZ10) ?_
   refine ZG ?_
   obtain ⟨cZ11,h⟩ | ⟨cZ11,h⟩:=ai h
   · cases h
     exact ZL (ZA cZ8 (ZA hyZ9a (ZA hyZ9b cZ11))) @BN.eq_1
   · cases h
     exact ZL (ZA cZ8 (ZA hyZ9a (ZA hyZ9b cZ11))) (ZA @BP.eq_1 @ul.eq_1)
 · cases h
   exact ZL cZ8 (ZA @BP.eq_1 @ul.eq_1)
theorem w_cv (sZ0:ByteArray) {r:Bool} (h:IL sZ0=some r):Ok Tryz.prog 100 [.z sZ0] ((fun r=>.b r) r):=by
 refine ay bc m100 rfl ?_
 unfold IL at h
 simp only [ZC,A100,BN,aJ]
 obtain ⟨oZ5,hoZ5,h⟩:=af h
 try refine ZF trivial ?_
 refine aA (sh:=(fun v=>⟨[(0,.z sZ0),(17,.b v)],[]⟩)) (s:=oZ5) ?_ ?_
 · replace h:=hoZ5
   obtain ⟨rZ1,hrZ1,h⟩:=af h
   refine ZF trivial ?_
   refine ZS trivial (w_h _ _ _ hrZ1) ?_
   refine ZG ?_
   obtain ⟨cZ2,h⟩ | ⟨cZ2,h⟩:=ai h
   · cases h
     exact ZL cZ2 trivial
   · obtain ⟨yZ3,hyZ3,h⟩:=af h
     obtain ⟨hyZ3a,hyZ3b⟩:=rX hyZ3
     obtain ⟨cZ4,h⟩ | ⟨cZ4,h⟩:=ai h
     · cases h
       exact ZL (ZA cZ2 (ZA hyZ3a (ZA hyZ3b cZ4))) trivial
     · cases h
       exact ZL (ZA cZ2 (ZA hyZ3a (ZA hyZ3b cZ4))) trivial
 · simp only [ZC,Jg]
   obtain ⟨cZ6,h⟩ | ⟨cZ6,h⟩:=ai h
   · cases h
     exact ZL cZ6 @BN.eq_1
   · obtain ⟨oZ12,hoZ12,h⟩:=af h
     try refine ZF cZ6 ?_
     refine bi (o:=oZ12) (br cZ (aF (w_al sZ0) hoZ12 ?_)) (fun vZ13 hv=>?_) (fun xZ14 hv e τ hne hq=>?_)
     · exact ZK (ZA @BP.eq_1 @ul.eq_1)
     · subst hv
       simp only [] at h
       simp only [ZC,ul,FC]
       cases h
       exact ZL cZ6 @BN.eq_1
     · subst hv
       simp only [] at h
       obtain ⟨rfl,qZ15⟩:=hq
       cases h
       exact qZ15
def Ca (listZ0:List ByteArray) (nameZ0:ByteArray) (v:Int):St:=⟨[(0,.lst .o 1 (listZ0.map AV.z)),(1,.z nameZ0),(5,.i v)],[]⟩
def sk (v:Unit):St:=⟨[],[]⟩
theorem w_am (listZ0:List ByteArray) (nameZ0:ByteArray) (sZ1:Int) (o:Int ⊕ (Unit ⊕ Int)) (h:CX listZ0 nameZ0 sZ1=some o):AWP (OkS Tryz.prog) vZ (qL [0,1,5] [] (Ca listZ0 nameZ0) (qS (qX 0 [] [] (sk)) (qR Gx (fun r=>.i r))) o) (Ca listZ0 nameZ0 sZ1):=by
 unfold CX at h
 simp only [ZC,Ca,vZ]
 obtain ⟨cZ2,h⟩ | ⟨cZ2,h⟩:=ai h
 · obtain ⟨yZ3,hyZ3,h⟩:=af h
   obtain ⟨hyZ3a,hyZ3b⟩:=ba hyZ3
   obtain ⟨cZ4,h⟩ | ⟨cZ4,h⟩:=ai h
   · cases h
     exact ZL (ZA cZ2 (ZA hyZ3a (ZA hyZ3b cZ4))) @Gx.eq_1
   · cases h
     exact ZL (ZA cZ2 (ZA hyZ3a (ZA hyZ3b cZ4))) (ZA @Ca.eq_1 @sk.eq_1)
 · cases h
   exact ZL cZ2 (ZA @Ca.eq_1 @sk.eq_1)
theorem w_cw (listZ0:List ByteArray) (nameZ0:ByteArray) {r:Int} (h:Hu listZ0 nameZ0=some r):Ok Tryz.prog 101 [.lst .o 1 (listZ0.map AV.z),.z nameZ0] ((fun r=>.i r) r):=by
 refine ay bc m101 rfl ?_
 unfold Hu at h
 simp only [ZC,A101,Gx,aJ]
 obtain ⟨oZ5,hoZ5,h⟩:=af h
 try refine ZF trivial ?_
 refine bi (o:=oZ5) (br cZ (aF (w_am listZ0 nameZ0) hoZ5 ?_)) (fun vZ6 hv=>?_) (fun xZ7 hv e τ hne hq=>?_)
 · exact ZK (ZA @Ca.eq_1 @sk.eq_1)
 · subst hv
   simp only [] at h
   simp only [ZC,sk,Ie]
   cases h
   exact ZL trivial @Gx.eq_1
 · subst hv
   simp only [] at h
   obtain ⟨rfl,qZ8⟩:=hq
   cases h
   exact qZ8
theorem w_cx (fZ0:ar) (nodesZ0:Int) {r:Bool} (h:Eh fZ0 nodesZ0=some r):Ok Tryz.prog 102 [.agg [.i fZ0.A,.i fZ0.B,.i fZ0.Length,.i fZ0.Risk],.i nodesZ0] ((fun r=>.b r) r):=by
 refine ay bc m102 rfl ?_
 unfold Eh at h
 simp only [ZC,A102,CQ,aJ]
 obtain ⟨rZ1,hrZ1,h⟩:=af h
 refine ZF trivial ?_
 refine ZS trivial (w_h _ _ _ hrZ1) ?_
 refine ZG ?_
 obtain ⟨cZ2,h⟩ | ⟨cZ2,h⟩:=ai h
 · obtain ⟨rZ3,hrZ3,h⟩:=af h
   refine ZF cZ2 ?_
   refine ZS cZ2 (w_h _ _ _ hrZ3) ?_
   refine ZG ?_
   obtain ⟨cZ4,h⟩ | ⟨cZ4,h⟩:=ai h
   · obtain ⟨rZ5,hrZ5,h⟩:=af h
     refine ZF (ZA cZ2 cZ4) ?_
     refine ZS (ZA cZ2 cZ4) (w_h _ _ _ hrZ5) ?_
     refine ZG ?_
     obtain ⟨cZ6,h⟩ | ⟨cZ6,h⟩:=ai h
     · obtain ⟨rZ7,hrZ7,h⟩:=af h
       refine ZF (ZA cZ2 (ZA cZ4 cZ6)) ?_
       refine ZS (ZA cZ2 (ZA cZ4 cZ6)) (w_h _ _ _ hrZ7) ?_
       refine ZG ?_
       cases h
       exact ZL (ZA cZ2 (ZA cZ4 cZ6)) @CQ.eq_1
     · cases h
       exact ZL (ZA cZ2 (ZA cZ4 cZ6)) @CQ.eq_1
   · cases h
     exact ZL (ZA cZ2 cZ4) @CQ.eq_1
 · cases h
   exact ZL cZ2 @CQ.eq_1
def Cz (nZ0:ae) (v:Int):St:=⟨[(1,.pt 1 0 0),(3,.i v)],[(1,.var (.agg [.lst .o 1 (nZ0.Nodes.map AV.z),.lst .o 4 (nZ0.Fibers.map (ah .o))]))]⟩
def vc (nZ0:ae) (v:Unit):St:=⟨[(1,.pt 1 0 0)],[(1,.var (.agg [.lst .o 1 (nZ0.Nodes.map AV.z),.lst .o 4 (nZ0.Fibers.map (ah .o))]))]⟩
theorem w_an (nZ0:ae) (sZ5:Int) (o:Int ⊕ (Unit ⊕ Bool)) (h:Ar nZ0 sZ5=some o):AWP (OkS Tryz.prog) DV (qL [1,3] [1] (Cz nZ0) (qS (qX 0 [1] [1] (vc nZ0)) (qR V59 (fun r=>.b r))) o) (Cz nZ0 sZ5):=by
 unfold Ar at h
 simp only [ZC,Cz,DV]
 obtain ⟨cZ6,h⟩ | ⟨cZ6,h⟩:=ai h
 · obtain ⟨oZ11,hoZ11,h⟩:=af h
   try refine ZF cZ6 ?_
   refine aA (sh:=(fun v=>⟨[(1,.pt 1 0 0),(3,.i sZ5),(41,.b v)],[(1,.var (.agg [.lst .o 1 (nZ0.Nodes.map AV.z),.lst .o 4 (nZ0.Fibers.map (ah .o))]))]⟩)) (s:=oZ11) ?_ ?_
   · replace h:=hoZ11
     obtain ⟨yZ7,hyZ7,h⟩:=af h
     obtain ⟨hyZ7a,hyZ7b⟩:=ba hyZ7
     obtain ⟨rZ8,hrZ8,h⟩:=af h
     refine ZF (ZA cZ6 (ZA hyZ7a hyZ7b)) ?_
     refine ZS (ZA cZ6 (ZA hyZ7a hyZ7b)) (w_cv _ hrZ8) ?_
     refine ZG ?_
     obtain ⟨cZ9,h⟩ | ⟨cZ9,h⟩:=ai h
     · cases h
       exact ZL (ZA cZ6 (ZA hyZ7a (ZA hyZ7b cZ9))) trivial
     · obtain ⟨rZ10,hrZ10,h⟩:=af h
       refine ZF (ZA cZ6 (ZA hyZ7a (ZA hyZ7b cZ9))) ?_
       refine ZS (ZA cZ6 (ZA hyZ7a (ZA hyZ7b cZ9))) (w_cw _ _ hrZ10) ?_
       refine ZG ?_
       cases h
       exact ZL (ZA cZ6 (ZA hyZ7a (ZA hyZ7b cZ9))) trivial
   · simp only [ZC,NX]
     obtain ⟨cZ12,h⟩ | ⟨cZ12,h⟩:=ai h
     · cases h
       exact ZL (ZA cZ6 cZ12) @V59.eq_1
     · cases h
       exact ZL (ZA cZ6 cZ12) (ZA @Cz.eq_1 @vc.eq_1)
 · cases h
   exact ZL cZ6 (ZA @Cz.eq_1 @vc.eq_1)
def zx (nZ0:ae) (v:Int):St:=⟨[(1,.pt 1 0 0),(4,.i v)],[(1,.var (.agg [.lst .o 1 (nZ0.Nodes.map AV.z),.lst .o 4 (nZ0.Fibers.map (ah .o))]))]⟩
def sY (v:Unit):St:=⟨[],[]⟩
theorem w_ao (nZ0:ae) (sZ16:Int) (o:Int ⊕ (Unit ⊕ Bool)) (h:Ae nZ0 sZ16=some o):AWP (OkS Tryz.prog) EM (qL [1,4] [1] (zx nZ0) (qS (qX 2 [] [] (sY)) (qR V59 (fun r=>.b r))) o) (zx nZ0 sZ16):=by
 unfold Ae at h
 simp only [ZC,zx,EM]
 obtain ⟨cZ17,h⟩ | ⟨cZ17,h⟩:=ai h
 · obtain ⟨oZ24,hoZ24,h⟩:=af h
   try refine ZF cZ17 ?_
   refine aA (sh:=(fun v=>⟨[(1,.pt 1 0 0),(4,.i sZ16),(77,.b v)],[(1,.var (.agg [.lst .o 1 (nZ0.Nodes.map AV.z),.lst .o 4 (nZ0.Fibers.map (ah .o))]))]⟩)) (s:=oZ24) ?_ ?_
   · replace h:=hoZ24
     obtain ⟨yZ18,hyZ18,h⟩:=af h
     obtain ⟨hyZ18a,hyZ18b⟩:=ba hyZ18
     obtain ⟨rZ19,hrZ19,h⟩:=af h
     refine ZF (ZA cZ17 (ZA hyZ18a hyZ18b)) ?_
     refine ZS (ZA cZ17 (ZA hyZ18a hyZ18b)) (w_cx _ _ hrZ19) ?_
     refine ZG ?_
     obtain ⟨cZ20,h⟩ | ⟨cZ20,h⟩:=ai h
     · cases h
       exact ZL (ZA cZ17 (ZA hyZ18a (ZA hyZ18b cZ20))) trivial
     · obtain ⟨cZ21,h⟩ | ⟨cZ21,h⟩:=ai h
       · obtain ⟨yZ22,hyZ22,h⟩:=af h
         obtain ⟨hyZ22a,hyZ22b⟩:=ba hyZ22
         obtain ⟨rZ23,hrZ23,h⟩:=af h
         refine ZF (ZA cZ17 (ZA hyZ18a (ZA hyZ18b (ZA cZ20 (ZA cZ21 (ZA hyZ22a hyZ22b)))))) ?_
         refine ZS (ZA cZ17 (ZA hyZ18a (ZA hyZ18b (ZA cZ20 (ZA cZ21 (ZA hyZ22a hyZ22b)))))) (w_bx _ _ hrZ23) ?_
         refine ZG ?_
         cases h
         exact ZL (ZA cZ17 (ZA hyZ18a (ZA hyZ18b (ZA cZ20 (ZA cZ21 (ZA hyZ22a hyZ22b)))))) trivial
       · cases h
         exact ZL (ZA cZ17 (ZA hyZ18a (ZA hyZ18b (ZA cZ20 cZ21)))) trivial
   · simp only [ZC,Om]
     obtain ⟨cZ25,h⟩ | ⟨cZ25,h⟩:=ai h
     · cases h
       exact ZL (ZA cZ17 cZ25) @V59.eq_1
     · cases h
       exact ZL (ZA cZ17 cZ25) (ZA @zx.eq_1 @sY.eq_1)
 · cases h
   exact ZL cZ17 (ZA @zx.eq_1 @sY.eq_1)
theorem RC (nZ0:ae) {r:Bool} (h:vF nZ0=some r):Ok Tryz.prog 59 [.agg [.lst .o 1 (nZ0.Nodes.map AV.z),.lst .o 4 (nZ0.Fibers.map (ah .o))]] ((fun r=>.b r) r):=by
 refine ay bc m59 rfl ?_
 unfold vF at h
 simp only [ZC,A59,V59,aJ]
 obtain ⟨oZ3,hoZ3,h⟩:=af h
 try refine ZF trivial ?_
 refine aA (sh:=(fun v=>⟨[(1,.pt 1 0 0),(15,.b v)],[(1,.var (.agg [.lst .o 1 (nZ0.Nodes.map AV.z),.lst .o 4 (nZ0.Fibers.map (ah .o))]))]⟩)) (s:=oZ3) ?_ ?_
 · replace h:=hoZ3
   obtain ⟨rZ1,hrZ1,h⟩:=af h
   refine ZF trivial ?_
   refine ZS trivial (w_h _ _ _ hrZ1) ?_
   refine ZG ?_
   obtain ⟨cZ2,h⟩ | ⟨cZ2,h⟩:=ai h
   · cases h
     exact ZL cZ2 trivial
   · cases h
     exact ZL cZ2 trivial
 · simp only [ZC,NB]
   obtain ⟨cZ4,h⟩ | ⟨cZ4,h⟩:=ai h
   · cases h
     exact ZL cZ4 @V59.eq_1
   · obtain ⟨oZ13,hoZ13,h⟩:=af h
     try refine ZF cZ4 ?_
     refine bi (o:=oZ13) (br cZ (aF (w_an nZ0) hoZ13 ?_)) (fun vZ14 hv=>?_) (fun xZ15 hv e τ hne hq=>?_)
     · exact ZK (ZA @Cz.eq_1 @vc.eq_1)
     · subst hv
       simp only [] at h
       simp only [ZC,vc,Oq]
       obtain ⟨oZ26,hoZ26,h⟩:=af h
       try refine ZF cZ4 ?_
       refine bi (o:=oZ26) (br cZ (aF (w_ao nZ0) hoZ26 ?_)) (fun vZ27 hv=>?_) (fun xZ28 hv e τ hne hq=>?_)
       · exact ZK (ZA @zx.eq_1 @sY.eq_1)
       · subst hv
         simp only [] at h
         simp only [ZC,sY,NK]
         cases h
         exact ZL cZ4 @V59.eq_1
       · subst hv
         simp only [] at h
         obtain ⟨rfl,qZ29⟩:=hq
         cases h
         exact qZ29
     · subst hv
       simp only [] at h
       obtain ⟨rfl,qZ30⟩:=hq
       cases h
       exact qZ30
theorem KL (nZ0:ae) (fiberZ0:Int) (nodeZ0:Int) {r:Int} (h:qO nZ0 fiberZ0 nodeZ0=some r):Ok Tryz.prog 123 [.agg [.lst .o 1 (nZ0.Nodes.map AV.z),.lst .o 4 (nZ0.Fibers.map (ah .o))],.i fiberZ0,.i nodeZ0] ((fun r=>.i r) r):=by
 refine ay bc m123 rfl ?_
 unfold qO at h
 simp only [ZC,A123,Hx,aJ]
 obtain ⟨yZ1,hyZ1,h⟩:=af h
 obtain ⟨hyZ1a,hyZ1b⟩:=ba hyZ1
 obtain ⟨cZ2,h⟩ | ⟨cZ2,h⟩:=ai h
 · cases h
   exact ZL (ZA hyZ1a (ZA hyZ1b cZ2)) @Hx.eq_1
 · obtain ⟨cZ3,h⟩ | ⟨cZ3,h⟩:=ai h
   · cases h
     exact ZL (ZA hyZ1a (ZA hyZ1b (ZA cZ2 cZ3))) @Hx.eq_1
   · cases h
     exact ZL (ZA hyZ1a (ZA hyZ1b (ZA cZ2 cZ3))) @Hx.eq_1
def CF (lZ0:List Int) (nZ0:Int) (v:Int):St:=⟨[(0,.lst .o 1 (lZ0.map AV.i)),(1,.i nZ0),(5,.i v)],[]⟩
def sW (v:Unit):St:=⟨[],[]⟩
theorem w_ap (lZ0:List Int) (nZ0:Int) (sZ1:Int) (o:Int ⊕ (Unit ⊕ Bool)) (h:Cw lZ0 nZ0 sZ1=some o):AWP (OkS Tryz.prog) HG (qL [0,1,5] [] (CF lZ0 nZ0) (qS (qX 0 [] [] (sW)) (qR V83 (fun r=>.b r))) o) (CF lZ0 nZ0 sZ1):=by
 unfold Cw at h
 simp only [ZC,CF,HG]
 obtain ⟨cZ2,h⟩ | ⟨cZ2,h⟩:=ai h
 · obtain ⟨yZ3,hyZ3,h⟩:=af h
   obtain ⟨hyZ3a,hyZ3b⟩:=ba hyZ3
   obtain ⟨cZ4,h⟩ | ⟨cZ4,h⟩:=ai h
   · cases h
     exact ZL (ZA cZ2 (ZA hyZ3a (ZA hyZ3b cZ4))) @V83.eq_1
   · cases h
     exact ZL (ZA cZ2 (ZA hyZ3a (ZA hyZ3b cZ4))) (ZA @CF.eq_1 @sW.eq_1)
 · cases h
   exact ZL cZ2 (ZA @CF.eq_1 @sW.eq_1)
theorem w_b (lZ0:List Int) (nZ0:Int) {r:Bool} (h:M_b lZ0 nZ0=some r):Ok Tryz.prog 83 [.lst .o 1 (lZ0.map AV.i),.i nZ0] ((fun r=>.b r) r):=by
 refine ay bc m83 rfl ?_
 unfold M_b at h
 simp only [ZC,A83,V83,aJ]
 obtain ⟨oZ5,hoZ5,h⟩:=af h
 try refine ZF trivial ?_
 refine bi (o:=oZ5) (br cZ (aF (w_ap lZ0 nZ0) hoZ5 ?_)) (fun vZ6 hv=>?_) (fun xZ7 hv e τ hne hq=>?_)
 · exact ZK (ZA @CF.eq_1 @sW.eq_1)
 · subst hv
   simp only [] at h
   simp only [ZC,sW,Og]
   cases h
   exact ZL trivial @V83.eq_1
 · subst hv
   simp only [] at h
   obtain ⟨rfl,qZ8⟩:=hq
   cases h
   exact qZ8
theorem LJ (lZ0:List Int) {r:List Int} (h:rE lZ0=some r):Ok Tryz.prog 54 [.lst .o 1 (lZ0.map AV.i)] ((fun r=>.lst .u 1 (r.map AV.i)) r):=by
 refine ay bc m54 rfl ?_
 unfold rE at h
 simp only [ZC,A54,V54,aJ]
 obtain ⟨uZ1,huZ1,h⟩:=af h
 have huZ1g:=aR huZ1
 cases h
 exact ZL huZ1g @V54.eq_1
def S_x (ringZ0:List Int) (v:Int×List Int):St:=⟨[(0,.lst .o 1 (ringZ0.map AV.i)),(3,.sl 3 0 v.2.length),(4,.i v.1)],[(3,.arr 1 (v.2.map AV.i))]⟩
def DS (v:List Int):St:=⟨[(3,.sl 3 0 v.length)],[(3,.arr 1 (v.map AV.i))]⟩
theorem w_x (ringZ0:List Int) (sZ1:Int×List Int) (o:(Int×List Int) ⊕ (List Int)) (h:M_x ringZ0 sZ1=some o):AWP (OkS Tryz.prog) vB (qL [0,3,4] [3] (S_x ringZ0) (qX 0 [3] [3] (DS)) o) (S_x ringZ0 sZ1):=by
 unfold M_x at h
 simp only [ZC,S_x,vB]
 obtain ⟨cZ2,h⟩ | ⟨cZ2,h⟩:=ai h
 · obtain ⟨yZ3,hyZ3,h⟩:=af h
   obtain ⟨hyZ3a,hyZ3b⟩:=ba hyZ3
   obtain ⟨lZ4,hlZ4,h⟩:=aQ h
   have eZ5:Row.arr 1 [(.i yZ3:AV)]=Row.arr 1 (lZ4.map AV.i):=by rw [← hlZ4]; rfl
   have jjZ6:lZ4.length=1:=by rw [← hlZ4]; rfl
   obtain ⟨uZ7,huZ7,h⟩:=af h
   have huZ7g:=aR huZ7
   obtain ⟨lZ8,hlZ8,h⟩:=aQ h
   have eZ9:sZ1.2.map AV.i++lZ4.map AV.i=lZ8.map AV.i:=by rw [← hlZ8,List.map_append]
   have eZ10:sZ1.2.length+1=lZ8.length:=by simp [← hlZ4,← hlZ8] <;> omega
   rw [eZ10] at huZ7g
   cases h
   exact ZL (ZA cZ2 (ZA hyZ3a (ZA hyZ3b (ZA eZ5 (ZA jjZ6 (ZA huZ7g (ZA eZ9 eZ10))))))) (ZA @S_x.eq_1 (ZA @DS.eq_1 (ZA hlZ4.symm (ZA hlZ8.symm jjZ6))))
 · cases h
   exact ZL cZ2 (ZA @S_x.eq_1 @DS.eq_1)
theorem RE (ringZ0:List Int) {r:List Int} (h:sG ringZ0=some r):Ok Tryz.prog 108 [.lst .o 1 (ringZ0.map AV.i)] ((fun r=>.lst .u 1 (r.map AV.i)) r):=by
 refine ay bc m108 rfl ?_
 unfold sG at h
 simp only [ZC,A108,PX,aJ]
 obtain ⟨oZ11,hoZ11,h⟩:=af h
 try refine ZF trivial ?_
 refine aA (bf (aF (w_x ringZ0) hoZ11 ?_)) ?_
 · exact ZK (ZA @S_x.eq_1 @DS.eq_1)
 · simp only [ZC,DS,Gk]
   cases h
   exact ZL trivial @PX.eq_1
def zh (aZ0:List Int) (bZ0:List Int) (v:Int):St:=⟨[(0,.lst .o 1 (aZ0.map AV.i)),(1,.lst .o 1 (bZ0.map AV.i)),(5,.i v)],[]⟩
def uj (v:Unit):St:=⟨[],[]⟩
theorem w_aq (aZ0:List Int) (bZ0:List Int) (sZ2:Int) (o:Int ⊕ (Unit ⊕ Bool)) (h:Bz aZ0 bZ0 sZ2=some o):AWP (OkS Tryz.prog) wW (qL [0,1,5] [] (zh aZ0 bZ0) (qS (qX 0 [] [] (uj)) (qR AC (fun r=>.b r))) o) (zh aZ0 bZ0 sZ2):=by
 unfold Bz at h
 simp only [ZC,zh,wW]
 obtain ⟨cZ3,h⟩ | ⟨cZ3,h⟩:=ai h
 · obtain ⟨yZ4,hyZ4,h⟩:=af h
   obtain ⟨hyZ4a,hyZ4b⟩:=ba hyZ4
   obtain ⟨yZ5,hyZ5,h⟩:=af h
   obtain ⟨hyZ5a,hyZ5b⟩:=ba hyZ5
   obtain ⟨cZ6,h⟩ | ⟨cZ6,h⟩:=ai h
   · cases h
     exact ZL (ZA cZ3 (ZA hyZ4a (ZA hyZ4b (ZA hyZ5a (ZA hyZ5b cZ6))))) @AC.eq_1
   · cases h
     exact ZL (ZA cZ3 (ZA hyZ4a (ZA hyZ4b (ZA hyZ5a (ZA hyZ5b cZ6))))) (ZA @zh.eq_1 @uj.eq_1)
 · cases h
   exact ZL cZ3 (ZA @zh.eq_1 @uj.eq_1)
theorem Ry (aZ0:List Int) (bZ0:List Int) {r:Bool} (h:pu aZ0 bZ0=some r):Ok Tryz.prog 142 [.lst .o 1 (aZ0.map AV.i),.lst .o 1 (bZ0.map AV.i)] ((fun r=>.b r) r):=by
 refine ay bc m142 rfl ?_
 unfold pu at h
 simp only [ZC,A142,AC,aJ]
 obtain ⟨cZ1,h⟩ | ⟨cZ1,h⟩:=ai h
 · cases h
   exact ZL cZ1 @AC.eq_1
 · obtain ⟨oZ7,hoZ7,h⟩:=af h
   try refine ZF cZ1 ?_
   refine bi (o:=oZ7) (br cZ (aF (w_aq aZ0 bZ0) hoZ7 ?_)) (fun vZ8 hv=>?_) (fun xZ9 hv e τ hne hq=>?_)
   · exact ZK (ZA @zh.eq_1 @uj.eq_1)
   · subst hv
     simp only [] at h
     simp only [ZC,uj,GY]
     cases h
     exact ZL cZ1 @AC.eq_1
   · subst hv
     simp only [] at h
     obtain ⟨rfl,qZ10⟩:=hq
     cases h
     exact qZ10
def S_y (aaZ0:List (List Int)) (abZ0:List Int) (v:Int):St:=⟨[(0,.sl 1000000000 0 aaZ0.length),(1,.lst .m 1 (abZ0.map AV.i)),(5,.i v)],[(1000000000,.arr 1 (aaZ0.map (aV .m)))]⟩
def Br (aaZ0:List (List Int)) (abZ0:List Int) (v:Int):St:=⟨[(0,.sl 1000000000 0 aaZ0.length),(1,.lst .m 1 (abZ0.map AV.i)),(5,.i v)],[(1000000000,.arr 1 (aaZ0.map (aV .m)))]⟩
theorem w_y (aaZ0:List (List Int)) (abZ0:List Int) (sZ1:Int) (o:Int ⊕ Int) (h:M_y aaZ0 abZ0 sZ1=some o):AWP (OkS Tryz.prog) nq (qL [0,1,5] [1000000000] (S_y aaZ0 abZ0) (qX 0 [0,1,5] [1000000000] (Br aaZ0 abZ0)) o) (S_y aaZ0 abZ0 sZ1):=by
 unfold M_y at h
 simp only [ZC,S_y,nq]
 obtain ⟨cZ2,h⟩ | ⟨cZ2,h⟩:=ai h
 · obtain ⟨kZ3,hkZ3,h⟩:=af h
   obtain ⟨hkZ3a,hkZ3b⟩:=aR hkZ3
   obtain ⟨yZ4,hyZ4,h⟩:=af h
   obtain ⟨rZ5,hrZ5,h⟩:=af h
   refine ZF (ZA cZ2 (ZA hkZ3a (ZA hkZ3b hyZ4))) ?_
   refine ZS (ZA cZ2 (ZA hkZ3a (ZA hkZ3b hyZ4))) (Ry _ _ hrZ5) ?_
   refine ZG ?_
   obtain ⟨cZ6,h⟩ | ⟨cZ6,h⟩:=ai h
   · cases h
     exact ZL (ZA cZ2 (ZA hkZ3a (ZA hkZ3b (ZA hyZ4 cZ6)))) (ZA @S_y.eq_1 @Br.eq_1)
   · cases h
     exact ZL (ZA cZ2 (ZA hkZ3a (ZA hkZ3b (ZA hyZ4 cZ6)))) (ZA @S_y.eq_1 @Br.eq_1)
 · cases h
   exact ZL cZ2 (ZA @S_y.eq_1 @Br.eq_1)
theorem w_cy (aaZ0:List (List Int)) (abZ0:List Int) {r:List (List Int)×List (List Int)} (h:Gq aaZ0 abZ0=some r):OkM Tryz.prog 157 [.sl 1000000000 0 aaZ0.length,.sl 1000000001 0 abZ0.length] [(1000000000,.arr 1 (aaZ0.map (aV .m))),(1000000001,.arr 1 (abZ0.map AV.i))] ((fun (r:List (List Int)×List (List Int))=>.sl 4 0 r.1.length) r) ((fun (r:List (List Int)×List (List Int))=>[(4,.arr 1 (r.1.map (aV .m))),(1000000000,.arr 1 (r.2.map (aV .m)))]) r):=by
 refine bl (lr:=[4,1000000000]) bc Rx rfl rfl ?_
 unfold Gq at h
 simp only [ZC,JB,wb]
 obtain ⟨oZ7,hoZ7,h⟩:=af h
 try refine ZF trivial ?_
 refine aA (bf (aF (w_y aaZ0 abZ0) hoZ7 ?_)) ?_
 · exact ZK (ZA @S_y.eq_1 @Br.eq_1)
 · simp only [ZC,Br,ua]
   obtain ⟨uZ8,huZ8,h⟩:=af h
   obtain ⟨huZ8a,huZ8b,huZ8c,huZ8d⟩:=aR huZ8
   obtain ⟨lZ9,hlZ9,h⟩:=aQ h
   have eZ10:sub (aaZ0.map (aV .m)) 0 (Int.toNat oZ7)=lZ9.map (aV .m):=by rw [cA,hlZ9]
   obtain ⟨uZ11,huZ11,h⟩:=af h
   have huZ11g:=aR huZ11
   obtain ⟨lZ12,hlZ12,h⟩:=aQ h
   have eZ13:Row.arr 1 [(.lst .m 1 (abZ0.map AV.i):AV)]=Row.arr 1 (lZ12.map (aV .m)):=by rw [← hlZ12]; rfl
   have jjZ14:lZ12.length=1:=by rw [← hlZ12]; rfl
   obtain ⟨uZ15,huZ15,h⟩:=af h
   have huZ15g:=aR huZ15
   obtain ⟨lZ16,hlZ16,h⟩:=aQ h
   have eZ17:lZ9.map (aV .m)++lZ12.map (aV .m)=lZ16.map (aV .m):=by rw [← hlZ16,List.map_append]
   have eZ18:lZ9.length+1=lZ16.length:=by simp [← hlZ12,← hlZ16] <;> omega
   rw [eZ18] at huZ15g
   obtain ⟨uZ19,huZ19,h⟩:=af h
   obtain ⟨huZ19a,huZ19b,huZ19c,huZ19d⟩:=aR huZ19
   obtain ⟨lZ20,hlZ20,h⟩:=aQ h
   have eZ21:sub (aaZ0.map (aV .m)) (Int.toNat oZ7) (aaZ0.length - (Int.toNat oZ7))=lZ20.map (aV .m):=by rw [cA,hlZ20]
   obtain ⟨uZ22,huZ22,h⟩:=af h
   have huZ22g:=aR huZ22
   obtain ⟨lZ23,hlZ23,h⟩:=aQ h
   have eZ24:lZ16.map (aV .m)++lZ20.map (aV .m)=lZ23.map (aV .m):=by rw [← hlZ23,List.map_append]
   have eZ25:lZ16.length+lZ20.length=lZ23.length:=by simp [← hlZ12,← hlZ16,← hlZ23] <;> omega
   rw [eZ25] at huZ22g
   cases h
   exact ZL (ZA huZ8a (ZA huZ8b (ZA huZ8c (ZA huZ8d (ZA eZ10 (ZA huZ11g (ZA eZ13 (ZA jjZ14 (ZA huZ15g (ZA eZ17 (ZA eZ18 (ZA huZ19a (ZA huZ19b (ZA huZ19c (ZA huZ19d (ZA eZ21 (ZA huZ22g (ZA eZ24 eZ25)))))))))))))))))) (ZA @wb.eq_1 (ZA hlZ12.symm (ZA hlZ16.symm (ZA hlZ23.symm jjZ14))))
def S_d (aaZ0:Int) (abZ0:Int) (afZ0:List Int) (agZ0:List Int) (v:Int×List ByteArray×List ar×List (List Int)):St:=⟨[(0,.pt 1000000000 0 0),(1,.i aaZ0),(2,.i abZ0),(3,.sl 1000000002 0 afZ0.length),(4,.sl 1000000003 0 agZ0.length),(10,.i v.1)],[(470000002,.arr 1 (v.2.2.2.map (aV .m))),(1000000000,.var (.agg [.lst .m 1 (v.2.1.map AV.z),.lst .m 4 (v.2.2.1.map (ah .m)),.sl 470000002 0 v.2.2.2.length])),(1000000002,.arr 1 (afZ0.map AV.i)),(1000000003,.arr 1 (agZ0.map AV.i))]⟩
def uz (afZ0:List Int) (agZ0:List Int) (v:List ByteArray×List ar×List (List Int)):St:=⟨[],[(470000002,.arr 1 (v.2.2.map (aV .m))),(1000000000,.var (.agg [.lst .m 1 (v.1.map AV.z),.lst .m 4 (v.2.1.map (ah .m)),.sl 470000002 0 v.2.2.length])),(1000000002,.arr 1 (afZ0.map AV.i)),(1000000003,.arr 1 (agZ0.map AV.i))]⟩
theorem w_d (aaZ0:Int) (abZ0:Int) (acZ0:List ByteArray) (adZ0:List ar) (aeZ0:List (List Int)) (afZ0:List Int) (agZ0:List Int) (rcZ0:Int→Int→List ByteArray→List ar→List (List Int)→List Int→List Int→Option (List ByteArray×List ar×List (List Int)×List Int×List Int)) (ihZ0:∀ (aaZ0:Int) (abZ0:Int) (acZ0:List ByteArray) (adZ0:List ar) (aeZ0:List (List Int)) (afZ0:List Int) (agZ0:List Int) {r:List ByteArray×List ar×List (List Int)×List Int×List Int},rcZ0 aaZ0 abZ0 acZ0 adZ0 aeZ0 afZ0 agZ0=some r→OkM Tryz.prog 132 [.pt 1000000000 0 0,.i aaZ0,.i abZ0,.sl 1000000002 0 afZ0.length,.sl 1000000003 0 agZ0.length] [(1000000000,.var (.agg [.lst .m 1 (acZ0.map AV.z),.lst .m 4 (adZ0.map (ah .m)),.sl 1000000001 0 aeZ0.length])),(1000000001,.arr 1 (aeZ0.map (aV .m))),(1000000002,.arr 1 (afZ0.map AV.i)),(1000000003,.arr 1 (agZ0.map AV.i))] ((fun (r:List ByteArray×List ar×List (List Int)×List Int×List Int)=>.tup []) r) ((fun (r:List ByteArray×List ar×List (List Int)×List Int×List Int)=>[(470000002,.arr 1 (r.2.2.1.map (aV .m))),(1000000000,.var (.agg [.lst .m 1 (r.1.map AV.z),.lst .m 4 (r.2.1.map (ah .m)),.sl 470000002 0 r.2.2.1.length])),(1000000002,.arr 1 (r.2.2.2.1.map AV.i)),(1000000003,.arr 1 (r.2.2.2.2.map AV.i))]) r)) (sZ1:Int×List ByteArray×List ar×List (List Int)) (o:(Int×List ByteArray×List ar×List (List Int)) ⊕ (List ByteArray×List ar×List (List Int))) (h:M_d aaZ0 abZ0 afZ0 agZ0 rcZ0 sZ1=some o):AWP (OkS Tryz.prog) nS (qL [0,1,2,3,4,10] [470000002,1000000000,1000000002,1000000003] (S_d aaZ0 abZ0 afZ0 agZ0) (qX 0 [] [470000002,1000000000,1000000002,1000000003] (uz afZ0 agZ0)) o) (S_d aaZ0 abZ0 afZ0 agZ0 sZ1):=by
 unfold M_d at h
 simp only [ZC,S_d,nS]
 obtain ⟨oZ3,hoZ3,h⟩:=af h
 try refine ZF trivial ?_
 refine aA (sh:=(fun v=>⟨[(0,.pt 1000000000 0 0),(1,.i aaZ0),(2,.i abZ0),(3,.sl 1000000002 0 afZ0.length),(4,.sl 1000000003 0 agZ0.length),(10,.i sZ1.1),(28,.b v)],[(470000002,.arr 1 (sZ1.2.2.2.map (aV .m))),(1000000000,.var (.agg [.lst .m 1 (sZ1.2.1.map AV.z),.lst .m 4 (sZ1.2.2.1.map (ah .m)),.sl 470000002 0 sZ1.2.2.2.length])),(1000000002,.arr 1 (afZ0.map AV.i)),(1000000003,.arr 1 (agZ0.map AV.i))]⟩)) (s:=oZ3) ?_ ?_
 · replace h:=hoZ3
   obtain ⟨cZ2,h⟩ | ⟨cZ2,h⟩:=ai h
   · cases h
     exact ZL cZ2 trivial
   · cases h
     exact ZL cZ2 trivial
 · simp only [ZC,su]
   obtain ⟨cZ4,h⟩ | ⟨cZ4,h⟩:=ai h
   · obtain ⟨rZ5,hrZ5,h⟩:=af h
     refine ZF cZ4 ?_
     refine ZS cZ4 (KL _ _ _ hrZ5) ?_
     refine ZG ?_
     obtain ⟨oZ8,hoZ8,h⟩:=af h
     try refine ZF cZ4 ?_
     refine aA (sh:=(fun v=>⟨[(0,.pt 1000000000 0 0),(1,.i aaZ0),(2,.i abZ0),(3,.sl 1000000002 0 afZ0.length),(4,.sl 1000000003 0 agZ0.length),(10,.i sZ1.1),(11,.i rZ5),(45,.b v)],[(470000002,.arr 1 (sZ1.2.2.2.map (aV .m))),(1000000000,.var (.agg [.lst .m 1 (sZ1.2.1.map AV.z),.lst .m 4 (sZ1.2.2.1.map (ah .m)),.sl 470000002 0 sZ1.2.2.2.length])),(1000000002,.arr 1 (afZ0.map AV.i)),(1000000003,.arr 1 (agZ0.map AV.i))]⟩)) (s:=oZ8) ?_ ?_
     · replace h:=hoZ8
       obtain ⟨cZ6,h⟩ | ⟨cZ6,h⟩:=ai h
       · cases h
         exact ZL (ZA cZ4 cZ6) trivial
       · obtain ⟨rZ7,hrZ7,h⟩:=af h
         refine ZF (ZA cZ4 cZ6) ?_
         refine ZS (ZA cZ4 cZ6) (w_b _ _ hrZ7) ?_
         refine ZG ?_
         cases h
         exact ZL (ZA cZ4 cZ6) trivial
     · simp only [ZC,sm]
       obtain ⟨cZ9,h⟩ | ⟨cZ9,h⟩:=ai h
       · cases h
         exact ZL (ZA cZ4 cZ9) (ZA @S_d.eq_1 @uz.eq_1)
       · obtain ⟨rZ10,hrZ10,h⟩:=af h
         refine ZF (ZA cZ4 cZ9) ?_
         refine ZU (ZA cZ4 cZ9) (LJ _ hrZ10) ?_
         refine ZG ?_
         obtain ⟨lZ11,hlZ11,h⟩:=aQ h
         have eZ12:Row.arr 1 [(.i sZ1.1:AV)]=Row.arr 1 (lZ11.map AV.i):=by rw [← hlZ11]; rfl
         have jjZ13:lZ11.length=1:=by rw [← hlZ11]; rfl
         obtain ⟨uZ14,huZ14,h⟩:=af h
         have huZ14g:=aR huZ14
         obtain ⟨lZ15,hlZ15,h⟩:=aQ h
         have eZ16:rZ10.map AV.i++lZ11.map AV.i=lZ15.map AV.i:=by rw [← hlZ15,List.map_append]
         have eZ17:rZ10.length+1=lZ15.length:=by simp [← hlZ11,← hlZ15] <;> omega
         rw [eZ17] at huZ14g
         obtain ⟨cZ18,h⟩ | ⟨cZ18,h⟩:=ai h
         · obtain ⟨oZ25,hoZ25,h⟩:=af h
           try refine ZF (ZA cZ4 (ZA cZ9 (ZA eZ12 (ZA jjZ13 (ZA huZ14g (ZA eZ16 (ZA eZ17 cZ18))))))) ?_
           refine aA (sh:=(fun v=>⟨[(0,.pt 1000000000 0 0),(1,.i aaZ0),(2,.i abZ0),(3,.sl 1000000002 0 afZ0.length),(4,.sl 1000000003 0 agZ0.length),(10,.i sZ1.1)],[(470000002,.arr 1 (v.map (aV .m))),(1000000000,.var (.agg [.lst .m 1 (sZ1.2.1.map AV.z),.lst .m 4 (sZ1.2.2.1.map (ah .m)),.sl 470000002 0 v.length])),(1000000002,.arr 1 (afZ0.map AV.i)),(1000000003,.arr 1 (agZ0.map AV.i))]⟩)) (s:=oZ25) ?_ ?_
           · replace h:=hoZ25
             obtain ⟨oZ22,hoZ22,h⟩:=af h
             try refine ZF (ZA cZ4 (ZA cZ9 (ZA eZ12 (ZA jjZ13 (ZA huZ14g (ZA eZ16 (ZA eZ17 cZ18))))))) ?_
             refine aA (sh:=(fun v=>⟨[(0,.pt 1000000000 0 0),(1,.i aaZ0),(2,.i abZ0),(3,.sl 1000000002 0 afZ0.length),(4,.sl 1000000003 0 agZ0.length),(10,.i sZ1.1),(12,.sl 12 0 lZ15.length),(63,.b v)],[(12,.arr 1 (lZ15.map AV.i)),(470000002,.arr 1 (sZ1.2.2.2.map (aV .m))),(1000000000,.var (.agg [.lst .m 1 (sZ1.2.1.map AV.z),.lst .m 4 (sZ1.2.2.1.map (ah .m)),.sl 470000002 0 sZ1.2.2.2.length])),(1000000002,.arr 1 (afZ0.map AV.i)),(1000000003,.arr 1 (agZ0.map AV.i))]⟩)) (s:=oZ22) ?_ ?_
             · replace h:=hoZ22
               obtain ⟨cZ19,h⟩ | ⟨cZ19,h⟩:=ai h
               · obtain ⟨rZ20,hrZ20,h⟩:=af h
                 refine ZF (ZA cZ4 (ZA cZ9 (ZA eZ12 (ZA jjZ13 (ZA huZ14g (ZA eZ16 (ZA eZ17 (ZA cZ18 cZ19)))))))) ?_
                 refine ZU (ZA cZ4 (ZA cZ9 (ZA eZ12 (ZA jjZ13 (ZA huZ14g (ZA eZ16 (ZA eZ17 (ZA cZ18 cZ19)))))))) (RE _ hrZ20) ?_
                 refine ZG ?_
                 obtain ⟨rZ21,hrZ21,h⟩:=af h
                 refine ZF (ZA cZ4 (ZA cZ9 (ZA eZ12 (ZA jjZ13 (ZA huZ14g (ZA eZ16 (ZA eZ17 (ZA cZ18 cZ19)))))))) ?_
                 refine ZS (ZA cZ4 (ZA cZ9 (ZA eZ12 (ZA jjZ13 (ZA huZ14g (ZA eZ16 (ZA eZ17 (ZA cZ18 cZ19)))))))) (Ry _ _ hrZ21) ?_
                 refine ZG ?_
                 cases h
                 exact ZL (ZA cZ4 (ZA cZ9 (ZA eZ12 (ZA jjZ13 (ZA huZ14g (ZA eZ16 (ZA eZ17 (ZA cZ18 cZ19)))))))) (ZA hlZ11.symm (ZA hlZ15.symm jjZ13))
               · cases h
                 exact ZL (ZA cZ4 (ZA cZ9 (ZA eZ12 (ZA jjZ13 (ZA huZ14g (ZA eZ16 (ZA eZ17 (ZA cZ18 cZ19)))))))) (ZA hlZ11.symm (ZA hlZ15.symm jjZ13))
             · simp only [ZC,sC]
               obtain ⟨cZ23,h⟩ | ⟨cZ23,h⟩:=ai h
               · obtain ⟨rZ24,hrZ24,h⟩:=af h
                 refine ZF (ZA cZ4 (ZA cZ9 (ZA eZ12 (ZA jjZ13 (ZA huZ14g (ZA eZ16 (ZA eZ17 (ZA cZ18 cZ23)))))))) ?_
                 refine ZW (ZA cZ4 (ZA cZ9 (ZA eZ12 (ZA jjZ13 (ZA huZ14g (ZA eZ16 (ZA eZ17 (ZA cZ18 cZ23)))))))) (w_cy _ _ hrZ24) (h2:=by first | exact bA [4,1000000000] rfl (by decide +kernel) | exact be [4,1000000000] [7100004] rfl (by decide +kernel) ZQ | exact ZQ) (hk:=?_)
                 refine ZG ?_
                 cases h
                 exact ZL (ZA cZ4 (ZA cZ9 (ZA eZ12 (ZA jjZ13 (ZA huZ14g (ZA eZ16 (ZA eZ17 (ZA cZ18 cZ23)))))))) jjZ13
               · cases h
                 exact ZL (ZA cZ4 (ZA cZ9 (ZA eZ12 (ZA jjZ13 (ZA huZ14g (ZA eZ16 (ZA eZ17 (ZA cZ18 cZ23)))))))) jjZ13
           · simp only [ZC,um]
             cases h
             exact ZL (ZA cZ4 (ZA cZ9 (ZA eZ12 (ZA jjZ13 (ZA huZ14g (ZA eZ16 (ZA eZ17 cZ18))))))) (ZA @S_d.eq_1 (ZA @uz.eq_1 jjZ13))
         · obtain ⟨rZ26,hrZ26,h⟩:=af h
           refine ZF (ZA cZ4 (ZA cZ9 (ZA eZ12 (ZA jjZ13 (ZA huZ14g (ZA eZ16 (ZA eZ17 cZ18))))))) ?_
           refine ZS (ZA cZ4 (ZA cZ9 (ZA eZ12 (ZA jjZ13 (ZA huZ14g (ZA eZ16 (ZA eZ17 cZ18))))))) (w_b _ _ hrZ26) ?_
           refine ZG ?_
           obtain ⟨cZ27,h⟩ | ⟨cZ27,h⟩:=ai h
           · obtain ⟨rZ28,hrZ28,h⟩:=af h
             refine ZF (ZA cZ4 (ZA cZ9 (ZA eZ12 (ZA jjZ13 (ZA huZ14g (ZA eZ16 (ZA eZ17 (ZA cZ18 cZ27)))))))) ?_
             refine ZU (ZA cZ4 (ZA cZ9 (ZA eZ12 (ZA jjZ13 (ZA huZ14g (ZA eZ16 (ZA eZ17 (ZA cZ18 cZ27)))))))) (LJ _ hrZ28) ?_
             refine ZG ?_
             obtain ⟨lZ29,hlZ29,h⟩:=aQ h
             have eZ30:Row.arr 1 [(.i rZ5:AV)]=Row.arr 1 (lZ29.map AV.i):=by rw [← hlZ29]; rfl
             have jjZ31:lZ29.length=1:=by rw [← hlZ29]; rfl
             obtain ⟨uZ32,huZ32,h⟩:=af h
             have huZ32g:=aR huZ32
             obtain ⟨lZ33,hlZ33,h⟩:=aQ h
             have eZ34:rZ28.map AV.i++lZ29.map AV.i=lZ33.map AV.i:=by rw [← hlZ33,List.map_append]
             have eZ35:rZ28.length+1=lZ33.length:=by simp [← hlZ11,← hlZ15,← hlZ29,← hlZ33] <;> omega
             rw [eZ35] at huZ32g
             obtain ⟨rZ36,hrZ36,h⟩:=af h
             refine ZF (ZA cZ4 (ZA cZ9 (ZA eZ12 (ZA jjZ13 (ZA huZ14g (ZA eZ16 (ZA eZ17 (ZA cZ18 (ZA cZ27 (ZA eZ30 (ZA jjZ31 (ZA huZ32g (ZA eZ34 eZ35))))))))))))) ?_
             refine ZW (ZA cZ4 (ZA cZ9 (ZA eZ12 (ZA jjZ13 (ZA huZ14g (ZA eZ16 (ZA eZ17 (ZA cZ18 (ZA cZ27 (ZA eZ30 (ZA jjZ31 (ZA huZ32g (ZA eZ34 eZ35))))))))))))) (ihZ0 _ _ _ _ _ _ _ hrZ36) (h2:=by first | exact bA [470000002,1000000000,1000000002,1000000003] rfl (by decide +kernel) | exact be [470000002,1000000000,1000000002,1000000003] [478700002] rfl (by decide +kernel) ZQ | exact ZQ) (hk:=?_)
             refine ZG ?_
             cases h
             exact ZL (ZA cZ4 (ZA cZ9 (ZA eZ12 (ZA jjZ13 (ZA huZ14g (ZA eZ16 (ZA eZ17 (ZA cZ18 (ZA cZ27 (ZA eZ30 (ZA jjZ31 (ZA huZ32g (ZA eZ34 eZ35))))))))))))) (ZA @S_d.eq_1 (ZA @uz.eq_1 (ZA hlZ11.symm (ZA hlZ15.symm (ZA hlZ29.symm (ZA hlZ33.symm (ZA jjZ13 jjZ31)))))))
           · cases h
             exact ZL (ZA cZ4 (ZA cZ9 (ZA eZ12 (ZA jjZ13 (ZA huZ14g (ZA eZ16 (ZA eZ17 (ZA cZ18 cZ27)))))))) (ZA @S_d.eq_1 (ZA @uz.eq_1 (ZA hlZ11.symm (ZA hlZ15.symm jjZ13))))
   · cases h
     exact ZL cZ4 (ZA @S_d.eq_1 @uz.eq_1)
theorem RM (rcZ0:Int→Int→List ByteArray→List ar→List (List Int)→List Int→List Int→Option (List ByteArray×List ar×List (List Int)×List Int×List Int)) (ihZ0:∀ (aaZ0:Int) (abZ0:Int) (acZ0:List ByteArray) (adZ0:List ar) (aeZ0:List (List Int)) (afZ0:List Int) (agZ0:List Int) {r:List ByteArray×List ar×List (List Int)×List Int×List Int},rcZ0 aaZ0 abZ0 acZ0 adZ0 aeZ0 afZ0 agZ0=some r→OkM Tryz.prog 132 [.pt 1000000000 0 0,.i aaZ0,.i abZ0,.sl 1000000002 0 afZ0.length,.sl 1000000003 0 agZ0.length] [(1000000000,.var (.agg [.lst .m 1 (acZ0.map AV.z),.lst .m 4 (adZ0.map (ah .m)),.sl 1000000001 0 aeZ0.length])),(1000000001,.arr 1 (aeZ0.map (aV .m))),(1000000002,.arr 1 (afZ0.map AV.i)),(1000000003,.arr 1 (agZ0.map AV.i))] ((fun (r:List ByteArray×List ar×List (List Int)×List Int×List Int)=>.tup []) r) ((fun (r:List ByteArray×List ar×List (List Int)×List Int×List Int)=>[(470000002,.arr 1 (r.2.2.1.map (aV .m))),(1000000000,.var (.agg [.lst .m 1 (r.1.map AV.z),.lst .m 4 (r.2.1.map (ah .m)),.sl 470000002 0 r.2.2.1.length])),(1000000002,.arr 1 (r.2.2.2.1.map AV.i)),(1000000003,.arr 1 (r.2.2.2.2.map AV.i))]) r)) (aaZ0:Int) (abZ0:Int) (acZ0:List ByteArray) (adZ0:List ar) (aeZ0:List (List Int)) (afZ0:List Int) (agZ0:List Int) {r:List ByteArray×List ar×List (List Int)×List Int×List Int} (h:vR rcZ0 aaZ0 abZ0 acZ0 adZ0 aeZ0 afZ0 agZ0=some r):OkM Tryz.prog 132 [.pt 1000000000 0 0,.i aaZ0,.i abZ0,.sl 1000000002 0 afZ0.length,.sl 1000000003 0 agZ0.length] [(1000000000,.var (.agg [.lst .m 1 (acZ0.map AV.z),.lst .m 4 (adZ0.map (ah .m)),.sl 1000000001 0 aeZ0.length])),(1000000001,.arr 1 (aeZ0.map (aV .m))),(1000000002,.arr 1 (afZ0.map AV.i)),(1000000003,.arr 1 (agZ0.map AV.i))] ((fun (r:List ByteArray×List ar×List (List Int)×List Int×List Int)=>.tup []) r) ((fun (r:List ByteArray×List ar×List (List Int)×List Int×List Int)=>[(470000002,.arr 1 (r.2.2.1.map (aV .m))),(1000000000,.var (.agg [.lst .m 1 (r.1.map AV.z),.lst .m 4 (r.2.1.map (ah .m)),.sl 470000002 0 r.2.2.1.length])),(1000000002,.arr 1 (r.2.2.2.1.map AV.i)),(1000000003,.arr 1 (r.2.2.2.2.map AV.i))]) r):=by
 refine bl (lr:=[470000002,1000000000,1000000002,1000000003]) bc PO rfl rfl ?_
 unfold vR at h
 simp only [ZC,Jf,vi]
 obtain ⟨oZ37,hoZ37,h⟩:=af h
 try refine ZF trivial ?_
 first | refine dG (bf (aF (w_d aaZ0 abZ0 acZ0 adZ0 aeZ0 afZ0 agZ0 rcZ0 ihZ0) hoZ37 ?_)) (fun τ qZ38=>?_) | refine fH (aF (w_d aaZ0 abZ0 acZ0 adZ0 aeZ0 afZ0 agZ0 rcZ0 ihZ0) hoZ37 ?_) (fun τ qZ38=>?_)
 · exact ZK (ZA @S_d.eq_1 @uz.eq_1)
 · cases h
   refine jg qZ38 (by decide) ?_ rfl
   exact ZK (ZA @vi.eq_1 @uz.eq_1)
theorem w_cb:∀ (n:Nat) (aaZ0:Int) (abZ0:Int) (acZ0:List ByteArray) (adZ0:List ar) (aeZ0:List (List Int)) (afZ0:List Int) (agZ0:List Int) {r:List ByteArray×List ar×List (List Int)×List Int×List Int} (_:GX n aaZ0 abZ0 acZ0 adZ0 aeZ0 afZ0 agZ0=some r),OkM Tryz.prog 132 [.pt 1000000000 0 0,.i aaZ0,.i abZ0,.sl 1000000002 0 afZ0.length,.sl 1000000003 0 agZ0.length] [(1000000000,.var (.agg [.lst .m 1 (acZ0.map AV.z),.lst .m 4 (adZ0.map (ah .m)),.sl 1000000001 0 aeZ0.length])),(1000000001,.arr 1 (aeZ0.map (aV .m))),(1000000002,.arr 1 (afZ0.map AV.i)),(1000000003,.arr 1 (agZ0.map AV.i))] ((fun (r:List ByteArray×List ar×List (List Int)×List Int×List Int)=>.tup []) r) ((fun (r:List ByteArray×List ar×List (List Int)×List Int×List Int)=>[(470000002,.arr 1 (r.2.2.1.map (aV .m))),(1000000000,.var (.agg [.lst .m 1 (r.1.map AV.z),.lst .m 4 (r.2.1.map (ah .m)),.sl 470000002 0 r.2.2.1.length])),(1000000002,.arr 1 (r.2.2.2.1.map AV.i)),(1000000003,.arr 1 (r.2.2.2.2.map AV.i))]) r)
 | 0,aaZ0,abZ0,acZ0,adZ0,aeZ0,afZ0,agZ0,_,h=>by cases h
 | n+1,aaZ0,abZ0,acZ0,adZ0,aeZ0,afZ0,agZ0,_,h=>RM (GX n) (w_cb n) aaZ0 abZ0 acZ0 adZ0 aeZ0 afZ0 agZ0 h
theorem w_da (aaZ0:ax) (abZ0:List ByteArray) {r:ByteArray×ax×List ByteArray} (h:Es aaZ0 abZ0=some r):OkM Tryz.prog 134 [.pt 1000000000 0 0,.sl 1000000001 0 abZ0.length] [(1000000000,.var (.agg [.lst .o 1 (((aaZ0).code).map AV.u8),.i ((aaZ0).atF),.sc (.int .u64 ((aaZ0).seed))])),(1000000001,.arr 1 (abZ0.map AV.z))] ((fun (r:ByteArray×ax×List ByteArray)=>.z r.1) r) ((fun (r:ByteArray×ax×List ByteArray)=>[(1000000000,.var (.agg [.lst .o 1 (((r.2.1).code).map AV.u8),.i ((r.2.1).atF),.sc (.int .u64 ((r.2.1).seed))])),(1000000001,.arr 1 (r.2.2.map AV.z))]) r):=by
 refine bl (lr:=[1000000000,1000000001]) bc PF rfl rfl ?_
 unfold Es at h
 simp only [ZC,Fm,wc]
 obtain ⟨rZ1,hrZ1,h⟩:=af h
 refine ZF trivial ?_
 refine ZW trivial (w_a _ _ hrZ1) (h2:=by first | exact bA [1000000000] rfl (by decide +kernel) | exact be [1000000000] [] rfl (by decide +kernel) ZQ | exact ZQ) (hk:=?_)
 refine ZG ?_
 obtain ⟨kZ2,hkZ2,h⟩:=af h
 obtain ⟨hkZ2a,hkZ2b⟩:=aR hkZ2
 obtain ⟨yZ3,hyZ3,h⟩:=af h
 cases h
 exact ZL (ZA hkZ2a (ZA hkZ2b hyZ3)) @wc.eq_1
def CU (rZ1:Nat×Nat×List ByteArray×List ar×ax) (v:List ar×ax):St:=⟨[(0,.pt 1000000000 0 0),(2,.pt 2 0 0),(3,.pt 3 0 0)],[(2,.var (.agg [.lst .u 1 [],.lst .u 4 []])),(3,.var (.agg [.sl 500000192 rZ1.1 rZ1.2.1,.sl 500000193 0 v.1.length])),(500000192,.arr 1 (rZ1.2.2.1.map AV.z)),(500000193,.arr 4 (v.1.map (ah .u))),(1000000000,.var (.agg [.lst .o 1 (((v.2).code).map AV.u8),.i ((v.2).atF),.sc (.int .u64 ((v.2).seed))]))]⟩
def ur (rZ1:Nat×Nat×List ByteArray×List ar×ax) (v:List ar×ax):St:=⟨[(2,.pt 2 0 0),(3,.pt 3 0 0)],[(2,.var (.agg [.lst .u 1 [],.lst .u 4 []])),(3,.var (.agg [.sl 500000192 rZ1.1 rZ1.2.1,.sl 500000193 0 v.1.length])),(500000192,.arr 1 (rZ1.2.2.1.map AV.z)),(500000193,.arr 4 (v.1.map (ah .u))),(1000000000,.var (.agg [.lst .o 1 (((v.2).code).map AV.u8),.i ((v.2).atF),.sc (.int .u64 ((v.2).seed))]))]⟩
theorem w_ar (rZ1:Nat×Nat×List ByteArray×List ar×ax) (sZ41:List ar×ax) (o:(List ar×ax) ⊕ (List ar×ax)) (h:yX sZ41=some o):AWP (OkS Tryz.prog) qV (qL [0,2,3] [2,3,500000192,500000193,1000000000] (CU rZ1) (qX 1 [2,3] [2,3,500000192,500000193,1000000000] (ur rZ1)) o) (CU rZ1 sZ41):=by
 unfold yX at h
 simp only [ZC,CU,qV]
 obtain ⟨rZ42,hrZ42,h⟩:=af h
 refine ZF trivial ?_
 refine ZW trivial (w_a _ _ hrZ42) (h2:=by first | exact bA [1000000000] rfl (by decide +kernel) | exact be [1000000000] [] rfl (by decide +kernel) ZQ | exact ZQ) (hk:=?_)
 refine ZG ?_
 obtain ⟨cZ43,h⟩ | ⟨cZ43,h⟩:=ai h
 · obtain ⟨kZ44,hkZ44,h⟩:=af h
   obtain ⟨hkZ44a,hkZ44b⟩:=aR hkZ44
   obtain ⟨yZ45,hyZ45,h⟩:=af h
   obtain ⟨lZ46,hlZ46,h⟩:=aQ h
   have eZ47:Row.arr 4 [(.agg [.i yZ45.A,.i yZ45.B,.i yZ45.Length,.i yZ45.Risk]:AV)]=Row.arr 4 (lZ46.map (ah .u)):=by rw [← hlZ46]; rfl
   have jjZ48:lZ46.length=1:=by rw [← hlZ46]; rfl
   obtain ⟨uZ49,huZ49,h⟩:=af h
   have huZ49g:=aR huZ49
   obtain ⟨lZ50,hlZ50,h⟩:=aQ h
   have eZ51:sZ41.1.map (ah .u)++lZ46.map (ah .u)=lZ50.map (ah .u):=by rw [← hlZ50,List.map_append]
   have eZ52:sZ41.1.length+1=lZ50.length:=by simp [← hlZ46,← hlZ50] <;> omega
   rw [eZ52] at huZ49g
   cases h
   exact ZL (ZA cZ43 (ZA hkZ44a (ZA hkZ44b (ZA hyZ45 (ZA eZ47 (ZA jjZ48 (ZA huZ49g (ZA eZ51 eZ52)))))))) (ZA @CU.eq_1 (ZA @ur.eq_1 (ZA hlZ46.symm (ZA hlZ50.symm jjZ48))))
 · cases h
   exact ZL cZ43 (ZA @CU.eq_1 @ur.eq_1)
theorem w_db (aaZ0:ax) {r:Nat×Nat×List ByteArray×List ar×ax} (h:Fo aaZ0=some r):OkM Tryz.prog 96 [.pt 1000000000 0 0] [(1000000000,.var (.agg [.lst .o 1 (((aaZ0).code).map AV.u8),.i ((aaZ0).atF),.sc (.int .u64 ((aaZ0).seed))]))] ((fun (r:Nat×Nat×List ByteArray×List ar×ax)=>.agg [.sl 500000128 r.1 r.2.1,.sl 500000129 0 r.2.2.2.1.length]) r) ((fun (r:Nat×Nat×List ByteArray×List ar×ax)=>[(500000128,.arr 1 (r.2.2.1.map AV.z)),(500000129,.arr 4 (r.2.2.2.1.map (ah .u))),(1000000000,.var (.agg [.lst .o 1 (((r.2.2.2.2).code).map AV.u8),.i ((r.2.2.2.2).atF),.sc (.int .u64 ((r.2.2.2.2).seed))]))]) r):=by
 refine bl (lr:=[500000128,500000129,1000000000]) bc Sa rfl rfl ?_
 unfold Fo at h
 simp only [ZC,NY,qz]
 obtain ⟨rZ1,hrZ1,h⟩:=af h
 refine ZF trivial ?_
 refine ZW trivial (w_cj _ hrZ1) (h2:=by first | exact bA [500000128,500000129,1000000000] rfl (by decide +kernel) | exact be [500000128,500000129,1000000000] [500800128,500800129] rfl (by decide +kernel) ZQ | exact ZQ) (hk:=?_)
 refine ZG ?_
 obtain ⟨cZ2,h⟩ | ⟨cZ2,h⟩:=ai h
 · cases h
   exact ZL cZ2 @qz.eq_1
 · obtain ⟨rZ3,hrZ3,h⟩:=af h
   refine ZF cZ2 ?_
   refine ZW cZ2 (w_a _ _ hrZ3) (h2:=by first | exact bA [1000000000] rfl (by decide +kernel) | exact be [1000000000] [] rfl (by decide +kernel) ZQ | exact ZQ) (hk:=?_)
   refine ZG ?_
   obtain ⟨kZ4,hkZ4,h⟩:=af h
   obtain ⟨hkZ4a,hkZ4b⟩:=aR hkZ4
   obtain ⟨yZ5,hyZ5,h⟩:=af h
   obtain ⟨oZ63,hoZ63,h⟩:=af h
   try refine ZF (ZA cZ2 (ZA hkZ4a (ZA hkZ4b hyZ5))) ?_
   refine bi (sh:=(fun v=>⟨[(2,.pt 2 0 0),(3,.pt 3 0 0),(4,.i rZ3.1),(5,.pt 5 0 0)],[(2,.var (.agg [.lst .u 1 [],.lst .u 4 []])),(3,.var (.agg [.sl 500000192 v.1 v.2.1,.sl 500000193 0 v.2.2.2.2.1.length])),(5,.var (.agg [.i ((v.2.2.1).A),.i ((v.2.2.1).B),.i ((v.2.2.1).Length),.i ((v.2.2.1).Risk)])),(500000192,.arr 1 (v.2.2.2.1.map AV.z)),(500000193,.arr 4 (v.2.2.2.2.1.map (ah .u))),(1000000000,.var (.agg [.lst .o 1 (((v.2.2.2.2.2).code).map AV.u8),.i ((v.2.2.2.2.2).atF),.sc (.int .u64 ((v.2.2.2.2.2).seed))]))]⟩)) (q:=(qM qz [500000128,500000129,1000000000] (fun (r:Nat×Nat×List ByteArray×List ar×ax)=>.agg [.sl 500000128 r.1 r.2.1,.sl 500000129 0 r.2.2.2.1.length]) (fun (r:Nat×Nat×List ByteArray×List ar×ax)=>[(500000128,.arr 1 (r.2.2.1.map AV.z)),(500000129,.arr 4 (r.2.2.2.1.map (ah .u))),(1000000000,.var (.agg [.lst .o 1 (((r.2.2.2.2).code).map AV.u8),.i ((r.2.2.2.2).atF),.sc (.int .u64 ((r.2.2.2.2).seed))]))]))) (o:=oZ63) ?_ (fun vZ64 hv=>?_) (fun xZ65 hv e τ hne hq=>?_)
   · replace h:=hoZ63
     obtain ⟨rZ6,hrZ6,h⟩:=af h
     refine ZF (ZA cZ2 (ZA hkZ4a (ZA hkZ4b hyZ5))) ?_
     refine ZW (ZA cZ2 (ZA hkZ4a (ZA hkZ4b hyZ5))) (w_a _ _ hrZ6) (h2:=by first | exact bA [1000000000] rfl (by decide +kernel) | exact be [1000000000] [] rfl (by decide +kernel) ZQ | exact ZQ) (hk:=?_)
     refine ZG ?_
     obtain ⟨cZ7,h⟩ | ⟨cZ7,h⟩:=ai h
     · obtain ⟨lZ8,hlZ8,h⟩:=aQ h
       have eZ9:Row.arr 1 [(.z (⟨#[98]⟩:ByteArray):AV),(.z (⟨#[]⟩:ByteArray):AV),(.z (⟨#[65]⟩:ByteArray):AV),(.z (⟨#[97,98,99,100,101,102,103,104]⟩:ByteArray):AV),(.z (⟨#[97,98,99,100,101,102,103,104,105]⟩:ByteArray):AV),(.z (⟨#[120,49]⟩:ByteArray):AV)]=Row.arr 1 (lZ8.map AV.z):=by rw [← hlZ8]; rfl
       have jjZ10:lZ8.length=6:=by rw [← hlZ8]; rfl
       obtain ⟨rZ11,hrZ11,h⟩:=af h
       refine ZF (ZA cZ2 (ZA hkZ4a (ZA hkZ4b (ZA hyZ5 (ZA cZ7 (ZA eZ9 jjZ10)))))) ?_
       refine ZW (ZA cZ2 (ZA hkZ4a (ZA hkZ4b (ZA hyZ5 (ZA cZ7 (ZA eZ9 jjZ10)))))) (w_da _ _ hrZ11) (h2:=by first | exact bA [1000000000,1000000001] rfl (by decide +kernel) | exact be [1000000000,1000000001] [] rfl (by decide +kernel) ZQ | exact ZQ) (hk:=?_)
       refine ZG ?_
       obtain ⟨kZ12,hkZ12,h⟩:=af h
       obtain ⟨hkZ12a,hkZ12b⟩:=aR hkZ12
       obtain ⟨yZ13,hyZ13,h⟩:=af h
       obtain ⟨lZ14,hlZ14,h⟩:=aQ h
       have eZ15:(rZ1.2.2.1.map AV.z).set (rZ1.1+(Int.toNat 0)) (.z rZ11.1)=lZ14.map AV.z:=by rw [← hlZ14,List.map_set]
       cases h
       exact ZL (ZA cZ2 (ZA hkZ4a (ZA hkZ4b (ZA hyZ5 (ZA cZ7 (ZA eZ9 (ZA jjZ10 (ZA hkZ12a (ZA hkZ12b (ZA hyZ13 eZ15)))))))))) (ZA hlZ8.symm (ZA hlZ14.symm jjZ10))
     · obtain ⟨cZ16,h⟩ | ⟨cZ16,h⟩:=ai h
       · obtain ⟨rZ17,hrZ17,h⟩:=af h
         refine ZF (ZA cZ2 (ZA hkZ4a (ZA hkZ4b (ZA hyZ5 (ZA cZ7 cZ16))))) ?_
         refine ZW (ZA cZ2 (ZA hkZ4a (ZA hkZ4b (ZA hyZ5 (ZA cZ7 cZ16))))) (w_a _ _ hrZ17) (h2:=by first | exact bA [1000000000] rfl (by decide +kernel) | exact be [1000000000] [] rfl (by decide +kernel) ZQ | exact ZQ) (hk:=?_)
         refine ZG ?_
         cases h
         exact ZL (ZA cZ2 (ZA hkZ4a (ZA hkZ4b (ZA hyZ5 (ZA cZ7 cZ16))))) trivial
       · obtain ⟨cZ18,h⟩ | ⟨cZ18,h⟩:=ai h
         · obtain ⟨rZ19,hrZ19,h⟩:=af h
           refine ZF (ZA cZ2 (ZA hkZ4a (ZA hkZ4b (ZA hyZ5 (ZA cZ7 (ZA cZ16 cZ18)))))) ?_
           refine ZW (ZA cZ2 (ZA hkZ4a (ZA hkZ4b (ZA hyZ5 (ZA cZ7 (ZA cZ16 cZ18)))))) (w_a _ _ hrZ19) (h2:=by first | exact bA [1000000000] rfl (by decide +kernel) | exact be [1000000000] [] rfl (by decide +kernel) ZQ | exact ZQ) (hk:=?_)
           refine ZG ?_
           cases h
           exact ZL (ZA cZ2 (ZA hkZ4a (ZA hkZ4b (ZA hyZ5 (ZA cZ7 (ZA cZ16 cZ18)))))) trivial
         · obtain ⟨cZ20,h⟩ | ⟨cZ20,h⟩:=ai h
           · obtain ⟨lZ21,hlZ21,h⟩:=aQ h
             have eZ22:Row.arr 1 [(.i 0:AV),(.i 1:AV),(.i 5000:AV),(.i 5001:AV)]=Row.arr 1 (lZ21.map AV.i):=by rw [← hlZ21]; rfl
             have jjZ23:lZ21.length=4:=by rw [← hlZ21]; rfl
             obtain ⟨rZ24,hrZ24,h⟩:=af h
             refine ZF (ZA cZ2 (ZA hkZ4a (ZA hkZ4b (ZA hyZ5 (ZA cZ7 (ZA cZ16 (ZA cZ18 (ZA cZ20 (ZA eZ22 jjZ23))))))))) ?_
             refine ZW (ZA cZ2 (ZA hkZ4a (ZA hkZ4b (ZA hyZ5 (ZA cZ7 (ZA cZ16 (ZA cZ18 (ZA cZ20 (ZA eZ22 jjZ23))))))))) (Mz _ _ hrZ24) (h2:=by first | exact bA [1000000000,1000000001] rfl (by decide +kernel) | exact be [1000000000,1000000001] [] rfl (by decide +kernel) ZQ | exact ZQ) (hk:=?_)
             refine ZG ?_
             cases h
             exact ZL (ZA cZ2 (ZA hkZ4a (ZA hkZ4b (ZA hyZ5 (ZA cZ7 (ZA cZ16 (ZA cZ18 (ZA cZ20 (ZA eZ22 jjZ23))))))))) (ZA hlZ21.symm jjZ23)
           · obtain ⟨cZ25,h⟩ | ⟨cZ25,h⟩:=ai h
             · obtain ⟨lZ26,hlZ26,h⟩:=aQ h
               have eZ27:Row.arr 1 [(.i (-1):AV),(.i 9:AV),(.i 10:AV)]=Row.arr 1 (lZ26.map AV.i):=by rw [← hlZ26]; rfl
               have jjZ28:lZ26.length=3:=by rw [← hlZ26]; rfl
               obtain ⟨rZ29,hrZ29,h⟩:=af h
               refine ZF (ZA cZ2 (ZA hkZ4a (ZA hkZ4b (ZA hyZ5 (ZA cZ7 (ZA cZ16 (ZA cZ18 (ZA cZ20 (ZA cZ25 (ZA eZ27 jjZ28)))))))))) ?_
               refine ZW (ZA cZ2 (ZA hkZ4a (ZA hkZ4b (ZA hyZ5 (ZA cZ7 (ZA cZ16 (ZA cZ18 (ZA cZ20 (ZA cZ25 (ZA eZ27 jjZ28)))))))))) (Mz _ _ hrZ29) (h2:=by first | exact bA [1000000000,1000000001] rfl (by decide +kernel) | exact be [1000000000,1000000001] [] rfl (by decide +kernel) ZQ | exact ZQ) (hk:=?_)
               refine ZG ?_
               cases h
               exact ZL (ZA cZ2 (ZA hkZ4a (ZA hkZ4b (ZA hyZ5 (ZA cZ7 (ZA cZ16 (ZA cZ18 (ZA cZ20 (ZA cZ25 (ZA eZ27 jjZ28)))))))))) (ZA hlZ26.symm jjZ28)
             · obtain ⟨cZ30,h⟩ | ⟨cZ30,h⟩:=ai h
               · obtain ⟨kZ31,hkZ31,h⟩:=af h
                 obtain ⟨hkZ31a,hkZ31b⟩:=aR hkZ31
                 obtain ⟨yZ32,hyZ32,h⟩:=af h
                 obtain ⟨lZ33,hlZ33,h⟩:=aQ h
                 have eZ34:Row.arr 4 [(.agg [.i yZ32.A,.i yZ32.B,.i yZ32.Length,.i yZ32.Risk]:AV)]=Row.arr 4 (lZ33.map (ah .u)):=by rw [← hlZ33]; rfl
                 have jjZ35:lZ33.length=1:=by rw [← hlZ33]; rfl
                 obtain ⟨uZ36,huZ36,h⟩:=af h
                 have huZ36g:=aR huZ36
                 obtain ⟨lZ37,hlZ37,h⟩:=aQ h
                 have eZ38:rZ1.2.2.2.1.map (ah .u)++lZ33.map (ah .u)=lZ37.map (ah .u):=by rw [← hlZ37,List.map_append]
                 have eZ39:rZ1.2.2.2.1.length+1=lZ37.length:=by simp [← hlZ33,← hlZ37] <;> omega
                 rw [eZ39] at huZ36g
                 cases h
                 exact ZL (ZA cZ2 (ZA hkZ4a (ZA hkZ4b (ZA hyZ5 (ZA cZ7 (ZA cZ16 (ZA cZ18 (ZA cZ20 (ZA cZ25 (ZA cZ30 (ZA hkZ31a (ZA hkZ31b (ZA hyZ32 (ZA eZ34 (ZA jjZ35 (ZA huZ36g (ZA eZ38 eZ39))))))))))))))))) (ZA hlZ33.symm (ZA hlZ37.symm jjZ35))
               · obtain ⟨cZ40,h⟩ | ⟨cZ40,h⟩:=ai h
                 · obtain ⟨oZ53,hoZ53,h⟩:=af h
                   try refine ZF (ZA cZ2 (ZA hkZ4a (ZA hkZ4b (ZA hyZ5 (ZA cZ7 (ZA cZ16 (ZA cZ18 (ZA cZ20 (ZA cZ25 (ZA cZ30 cZ40)))))))))) ?_
                   refine aA (bf (aF (w_ar rZ1) hoZ53 ?_)) ?_
                   · exact ZK (ZA @CU.eq_1 @ur.eq_1)
                   · simp only [ZC,ur,yc]
                     cases h
                     exact ZL (ZA cZ2 (ZA hkZ4a (ZA hkZ4b (ZA hyZ5 (ZA cZ7 (ZA cZ16 (ZA cZ18 (ZA cZ20 (ZA cZ25 (ZA cZ30 cZ40)))))))))) @qz.eq_1
                 · obtain ⟨cZ54,h⟩ | ⟨cZ54,h⟩:=ai h
                   · obtain ⟨lZ55,hlZ55,h⟩:=aQ h
                     have eZ56:Row.arr 1 [(.z (⟨#[112]⟩:ByteArray):AV),(.z (⟨#[113]⟩:ByteArray):AV),(.z (⟨#[114]⟩:ByteArray):AV),(.z (⟨#[115]⟩:ByteArray):AV)]=Row.arr 1 (lZ55.map AV.z):=by rw [← hlZ55]; rfl
                     have jjZ57:lZ55.length=4:=by rw [← hlZ55]; rfl
                     obtain ⟨lZ58,hlZ58,h⟩:=aQ h
                     have eZ59:sub (rZ1.2.2.1.map AV.z) rZ1.1 rZ1.2.1=lZ58.map AV.z:=by rw [cA,hlZ58]
                     obtain ⟨uZ60,huZ60,h⟩:=af h
                     have huZ60g:=aR huZ60
                     obtain ⟨lZ61,hlZ61,h⟩:=aQ h
                     have eZ62:lZ58.map AV.z++lZ55.map AV.z=lZ61.map AV.z:=by rw [← hlZ61,List.map_append]
                     cases h
                     exact ZL (ZA cZ2 (ZA hkZ4a (ZA hkZ4b (ZA hyZ5 (ZA cZ7 (ZA cZ16 (ZA cZ18 (ZA cZ20 (ZA cZ25 (ZA cZ30 (ZA cZ40 (ZA cZ54 (ZA eZ56 (ZA jjZ57 (ZA eZ59 (ZA huZ60g eZ62)))))))))))))))) (ZA hlZ55.symm jjZ57)
                   · cases h
                     exact ZL (ZA cZ2 (ZA hkZ4a (ZA hkZ4b (ZA hyZ5 (ZA cZ7 (ZA cZ16 (ZA cZ18 (ZA cZ20 (ZA cZ25 (ZA cZ30 (ZA cZ40 cZ54))))))))))) trivial
   · subst hv
     simp only [] at h
     simp only [ZC,yi]
     obtain ⟨kZ66,hkZ66,h⟩:=af h
     obtain ⟨hkZ66a,hkZ66b⟩:=aR hkZ66
     obtain ⟨yZ67,hyZ67,h⟩:=af h
     obtain ⟨lZ68,hlZ68,h⟩:=aQ h
     have eZ69:(vZ64.2.2.2.2.1.map (ah .u)).set (Int.toNat rZ3.1) (.agg [.i ((vZ64.2.2.1).A),.i ((vZ64.2.2.1).B),.i ((vZ64.2.2.1).Length),.i ((vZ64.2.2.1).Risk)])=lZ68.map (ah .u):=by rw [← hlZ68,List.map_set]; rfl
     cases h
     exact ZL (ZA cZ2 (ZA hkZ4a (ZA hkZ4b (ZA hyZ5 (ZA hkZ66a (ZA hkZ66b (ZA hyZ67 eZ69))))))) (ZA @qz.eq_1 hlZ68.symm)
   · subst hv
     simp only [] at h
     obtain ⟨rfl,qZ70⟩:=hq
     cases h
     exact qZ70
def zV (aaZ0:ae) (v:Int×List ByteArray×List ar×List (List Int)):St:=⟨[(1,.pt 1 0 0),(3,.pt 8 0 0),(4,.i v.1)],[(1,.var (.agg [.lst .m 1 (((aaZ0).Nodes).map AV.z),.lst .m 4 (((aaZ0).Fibers).map (ah .m))])),(8,.var (.agg [.lst .m 1 (v.2.1.map AV.z),.lst .m 4 (v.2.2.1.map (ah .m)),.sl 500000514 0 v.2.2.2.length])),(500000514,.arr 1 (v.2.2.2.map (aV .m)))]⟩
def tC (v:List ByteArray×List ar×List (List Int)):St:=⟨[(3,.pt 8 0 0)],[(8,.var (.agg [.lst .m 1 (v.1.map AV.z),.lst .m 4 (v.2.1.map (ah .m)),.sl 500000514 0 v.2.2.length])),(500000514,.arr 1 (v.2.2.map (aV .m)))]⟩
theorem w_bc (aaZ0:ae) (sZ1:Int×List ByteArray×List ar×List (List Int)) (o:(Int×List ByteArray×List ar×List (List Int)) ⊕ (List ByteArray×List ar×List (List Int))) (h:GD aaZ0 sZ1=some o):AWP (OkS Tryz.prog) qC (qL [1,3,4] [1,8,500000514] (zV aaZ0) (qX 0 [3] [8,500000514] (tC)) o) (zV aaZ0 sZ1):=by
 unfold GD at h
 simp only [ZC,zV,qC]
 obtain ⟨cZ2,h⟩ | ⟨cZ2,h⟩:=ai h
 · obtain ⟨lZ3,hlZ3,h⟩:=aQ h
   have eZ4:Row.arr 1 [(.i sZ1.1:AV)]=Row.arr 1 (lZ3.map AV.i):=by rw [← hlZ3]; rfl
   have jjZ5:lZ3.length=1:=by rw [← hlZ3]; rfl
   obtain ⟨rZ6,hrZ6,h⟩:=af h
   refine ZF (ZA cZ2 (ZA eZ4 jjZ5)) ?_
   refine ZW (ZA cZ2 (ZA eZ4 jjZ5)) (w_cb N0 _ _ _ _ _ _ _ hrZ6) (h2:=by first | exact bA [470000002,1000000000,1000000002,1000000003] rfl (by decide +kernel) | exact be [470000002,1000000000,1000000002,1000000003] [472300002] rfl (by decide +kernel) ZQ | exact ZQ) (hk:=?_)
   refine ZG ?_
   cases h
   exact ZL (ZA cZ2 (ZA eZ4 jjZ5)) (ZA @zV.eq_1 (ZA @tC.eq_1 (ZA hlZ3.symm jjZ5)))
 · cases h
   exact ZL cZ2 (ZA @zV.eq_1 @tC.eq_1)
theorem w_dc (aaZ0:ae) {r:List (List Int)} (h:GF aaZ0=some r):OkM Tryz.prog 90 [.agg [.lst .m 1 (((aaZ0).Nodes).map AV.z),.lst .m 4 (((aaZ0).Fibers).map (ah .m))]] [] ((fun (r:List (List Int))=>.sl 2 0 r.length) r) ((fun (r:List (List Int))=>[(2,.arr 1 (r.map (aV .m)))]) r):=by
 refine bl (lr:=[2]) bc SA rfl rfl ?_
 unfold GF at h
 simp only [ZC,Oi,De]
 obtain ⟨oZ7,hoZ7,h⟩:=af h
 try refine ZF trivial ?_
 refine aA (bf (aF (w_bc aaZ0) hoZ7 ?_)) ?_
 · exact ZK (ZA @zV.eq_1 @tC.eq_1)
 · simp only [ZC,tC,yl]
   cases h
   exact ZL trivial @De.eq_1
theorem w_ck (aaZ0:ae) {r:Bool×List (List Int)} (h:zF aaZ0=some r):OkM Tryz.prog 42 [.agg [.lst .m 1 (((aaZ0).Nodes).map AV.z),.lst .m 4 (((aaZ0).Fibers).map (ah .m))]] [] ((fun (r:Bool×List (List Int))=>.tup [.sl 2 0 r.2.length,.b r.1]) r) ((fun (r:Bool×List (List Int))=>[(2,.arr 1 (r.2.map (aV .m)))]) r):=by
 refine bl (lr:=[2]) bc RH rfl rfl ?_
 unfold zF at h
 simp only [ZC,NS,tK]
 obtain ⟨rZ1,hrZ1,h⟩:=af h
 refine ZF trivial ?_
 refine ZS trivial (RC _ hrZ1) ?_
 refine ZG ?_
 obtain ⟨cZ2,h⟩ | ⟨cZ2,h⟩:=ai h
 · cases h
   exact ZL cZ2 @tK.eq_1
 · obtain ⟨rZ3,hrZ3,h⟩:=af h
   refine ZF cZ2 ?_
   refine ZW cZ2 (w_dc _ hrZ3) (h2:=by first | exact bA [2] rfl (by decide +kernel) | exact be [2] [1100002] rfl (by decide +kernel) ZQ | exact ZQ) (hk:=?_)
   refine ZG ?_
   obtain ⟨cZ4,h⟩ | ⟨cZ4,h⟩:=ai h
   · cases h
     exact ZL (ZA cZ2 cZ4) @tK.eq_1
   · cases h
     exact ZL (ZA cZ2 cZ4) @tK.eq_1
theorem w_dd (aaZ0:ax) {r:ae×List Int×ax} (h:Iy aaZ0=some r):OkM Tryz.prog 65 [.pt 1000000000 0 0] [(1000000000,.var (.agg [.lst .o 1 (((aaZ0).code).map AV.u8),.i ((aaZ0).atF),.sc (.int .u64 ((aaZ0).seed))]))] ((fun (r:ae×List Int×ax)=>.tup [.agg [.lst .m 1 (((r.1).Nodes).map AV.z),.lst .m 4 (((r.1).Fibers).map (ah .m))],.sl 3 0 r.2.1.length]) r) ((fun (r:ae×List Int×ax)=>[(3,.arr 1 (r.2.1.map AV.i)),(1000000000,.var (.agg [.lst .o 1 (((r.2.2).code).map AV.u8),.i ((r.2.2).atF),.sc (.int .u64 ((r.2.2).seed))]))]) r):=by
 refine bl (lr:=[3,1000000000]) bc RK rfl rfl ?_
 unfold Iy at h
 simp only [ZC,Ol,lT]
 obtain ⟨rZ1,hrZ1,h⟩:=af h
 refine ZF trivial ?_
 refine ZW trivial (w_cj _ hrZ1) (h2:=by first | exact bA [500000128,500000129,1000000000] rfl (by decide +kernel) | exact be [500000128,500000129,1000000000] [501000128,501000129] rfl (by decide +kernel) ZQ | exact ZQ) (hk:=?_)
 refine ZG ?_
 obtain ⟨lZ2,hlZ2,h⟩:=aQ h
 have eZ3:sub (rZ1.2.2.1.map AV.z) rZ1.1 rZ1.2.1=lZ2.map AV.z:=by rw [cA,hlZ2]
 obtain ⟨rZ4,hrZ4,h⟩:=af h
 refine ZF eZ3 ?_
 refine ZW eZ3 (w_ck _ hrZ4) (h2:=by first | exact bA [2] rfl (by decide +kernel) | exact be [2] [1300002] rfl (by decide +kernel) ZQ | exact ZQ) (hk:=?_)
 refine ZG ?_
 obtain ⟨oZ12,hoZ12,h⟩:=af h
 try refine ZF eZ3 ?_
 refine aA (sh:=(fun v=>⟨[(0,.pt 1000000000 0 0),(2,.pt 2 0 0),(4,.pt 4 0 0),(7,.sl 7 0 v.1.length)],[(2,.var (.agg [.lst .u 1 [],.lst .u 4 []])),(4,.var (.agg [.lst .m 1 (lZ2.map AV.z),.lst .m 4 (rZ1.2.2.2.1.map (ah .m))])),(7,.arr 1 (v.1.map AV.i)),(1000000000,.var (.agg [.lst .o 1 (((v.2).code).map AV.u8),.i ((v.2).atF),.sc (.int .u64 ((v.2).seed))]))]⟩)) (s:=oZ12) ?_ ?_
 · replace h:=hoZ12
   obtain ⟨oZ6,hoZ6,h⟩:=af h
   try refine ZF eZ3 ?_
   refine aA (sh:=(fun v=>⟨[(0,.pt 1000000000 0 0),(2,.pt 2 0 0),(4,.pt 4 0 0),(5,.sl 5 0 rZ4.2.length),(7,.sl 7 0 0),(21,.b v)],[(2,.var (.agg [.lst .u 1 [],.lst .u 4 []])),(4,.var (.agg [.lst .m 1 (lZ2.map AV.z),.lst .m 4 (rZ1.2.2.2.1.map (ah .m))])),(5,.arr 1 (rZ4.2.map (aV .m))),(7,.arr 1 []),(1000000000,.var (.agg [.lst .o 1 (((rZ1.2.2.2.2).code).map AV.u8),.i ((rZ1.2.2.2.2).atF),.sc (.int .u64 ((rZ1.2.2.2.2).seed))]))]⟩)) (s:=oZ6) ?_ ?_
   · replace h:=hoZ6
     obtain ⟨cZ5,h⟩ | ⟨cZ5,h⟩:=ai h
     · cases h
       exact ZL (ZA eZ3 cZ5) trivial
     · cases h
       exact ZL (ZA eZ3 cZ5) trivial
   · simp only [ZC,xY]
     obtain ⟨cZ7,h⟩ | ⟨cZ7,h⟩:=ai h
     · obtain ⟨rZ8,hrZ8,h⟩:=af h
       refine ZF (ZA eZ3 cZ7) ?_
       refine ZW (ZA eZ3 cZ7) (w_a _ _ hrZ8) (h2:=by first | exact bA [1000000000] rfl (by decide +kernel) | exact be [1000000000] [] rfl (by decide +kernel) ZQ | exact ZQ) (hk:=?_)
       refine ZG ?_
       obtain ⟨kZ9,hkZ9,h⟩:=af h
       obtain ⟨hkZ9a,hkZ9b⟩:=aR hkZ9
       obtain ⟨yZ10,hyZ10,h⟩:=af h
       obtain ⟨rZ11,hrZ11,h⟩:=af h
       refine ZF (ZA eZ3 (ZA cZ7 (ZA hkZ9a (ZA hkZ9b hyZ10)))) ?_
       refine ZU (ZA eZ3 (ZA cZ7 (ZA hkZ9a (ZA hkZ9b hyZ10)))) (LJ _ hrZ11) ?_
       refine ZG ?_
       cases h
       exact ZL (ZA eZ3 (ZA cZ7 (ZA hkZ9a (ZA hkZ9b hyZ10)))) trivial
     · cases h
       exact ZL (ZA eZ3 cZ7) trivial
 · simp only [ZC,yK]
   obtain ⟨rZ13,hrZ13,h⟩:=af h
   refine ZF eZ3 ?_
   refine ZW eZ3 (w_a _ _ hrZ13) (h2:=by first | exact bA [1000000000] rfl (by decide +kernel) | exact be [1000000000] [] rfl (by decide +kernel) ZQ | exact ZQ) (hk:=?_)
   refine ZG ?_
   obtain ⟨cZ14,h⟩ | ⟨cZ14,h⟩:=ai h
   · obtain ⟨rZ15,hrZ15,h⟩:=af h
     refine ZF (ZA eZ3 cZ14) ?_
     refine ZU (ZA eZ3 cZ14) (RE _ hrZ15) ?_
     refine ZG ?_
     cases h
     exact ZL (ZA eZ3 cZ14) @lT.eq_1
   · obtain ⟨cZ16,h⟩ | ⟨cZ16,h⟩:=ai h
     · obtain ⟨cZ17,h⟩ | ⟨cZ17,h⟩:=ai h
       · obtain ⟨uZ18,huZ18,h⟩:=af h
         obtain ⟨huZ18a,huZ18b,huZ18c,huZ18d⟩:=aR huZ18
         obtain ⟨lZ19,hlZ19,h⟩:=aQ h
         have eZ20:sub (oZ12.1.map AV.i) (Int.toNat 1) (oZ12.1.length - (Int.toNat 1))=lZ19.map AV.i:=by rw [cA,hlZ19]
         obtain ⟨rZ21,hrZ21,h⟩:=af h
         refine ZF (ZA eZ3 (ZA cZ14 (ZA cZ16 (ZA cZ17 (ZA huZ18a (ZA huZ18b (ZA huZ18c (ZA huZ18d eZ20)))))))) ?_
         refine ZU (ZA eZ3 (ZA cZ14 (ZA cZ16 (ZA cZ17 (ZA huZ18a (ZA huZ18b (ZA huZ18c (ZA huZ18d eZ20)))))))) (LJ _ hrZ21) ?_
         refine ZG ?_
         obtain ⟨kZ22,hkZ22,h⟩:=af h
         obtain ⟨hkZ22a,hkZ22b⟩:=aR hkZ22
         obtain ⟨yZ23,hyZ23,h⟩:=af h
         obtain ⟨lZ24,hlZ24,h⟩:=aQ h
         have eZ25:Row.arr 1 [(.i yZ23:AV)]=Row.arr 1 (lZ24.map AV.i):=by rw [← hlZ24]; rfl
         have jjZ26:lZ24.length=1:=by rw [← hlZ24]; rfl
         obtain ⟨uZ27,huZ27,h⟩:=af h
         have huZ27g:=aR huZ27
         obtain ⟨lZ28,hlZ28,h⟩:=aQ h
         have eZ29:rZ21.map AV.i++lZ24.map AV.i=lZ28.map AV.i:=by rw [← hlZ28,List.map_append]
         have eZ30:rZ21.length+1=lZ28.length:=by simp [← hlZ24,← hlZ28] <;> omega
         rw [eZ30] at huZ27g
         cases h
         exact ZL (ZA eZ3 (ZA cZ14 (ZA cZ16 (ZA cZ17 (ZA huZ18a (ZA huZ18b (ZA huZ18c (ZA huZ18d (ZA eZ20 (ZA hkZ22a (ZA hkZ22b (ZA hyZ23 (ZA eZ25 (ZA jjZ26 (ZA huZ27g (ZA eZ29 eZ30)))))))))))))))) (ZA @lT.eq_1 (ZA hlZ24.symm (ZA hlZ28.symm jjZ26)))
       · cases h
         exact ZL (ZA eZ3 (ZA cZ14 (ZA cZ16 cZ17))) @lT.eq_1
     · obtain ⟨cZ31,h⟩ | ⟨cZ31,h⟩:=ai h
       · obtain ⟨rZ32,hrZ32,h⟩:=af h
         refine ZF (ZA eZ3 (ZA cZ14 (ZA cZ16 cZ31))) ?_
         refine ZW (ZA eZ3 (ZA cZ14 (ZA cZ16 cZ31))) (w_a _ _ hrZ32) (h2:=by first | exact bA [1000000000] rfl (by decide +kernel) | exact be [1000000000] [] rfl (by decide +kernel) ZQ | exact ZQ) (hk:=?_)
         refine ZG ?_
         obtain ⟨lZ33,hlZ33,h⟩:=aQ h
         have eZ34:Row.arr 1 [(.i (IntKind.wrap .i64 (rZ32.1 - 1)):AV)]=Row.arr 1 (lZ33.map AV.i):=by rw [← hlZ33]; rfl
         have jjZ35:lZ33.length=1:=by rw [← hlZ33]; rfl
         obtain ⟨uZ36,huZ36,h⟩:=af h
         have huZ36g:=aR huZ36
         obtain ⟨lZ37,hlZ37,h⟩:=aQ h
         have eZ38:oZ12.1.map AV.i++lZ33.map AV.i=lZ37.map AV.i:=by rw [← hlZ37,List.map_append]
         have eZ39:oZ12.1.length+1=lZ37.length:=by simp [← hlZ33,← hlZ37] <;> omega
         rw [eZ39] at huZ36g
         cases h
         exact ZL (ZA eZ3 (ZA cZ14 (ZA cZ16 (ZA cZ31 (ZA eZ34 (ZA jjZ35 (ZA huZ36g (ZA eZ38 eZ39)))))))) (ZA @lT.eq_1 (ZA hlZ33.symm (ZA hlZ37.symm jjZ35)))
       · obtain ⟨cZ40,h⟩ | ⟨cZ40,h⟩:=ai h
         · obtain ⟨rZ41,hrZ41,h⟩:=af h
           refine ZF (ZA eZ3 (ZA cZ14 (ZA cZ16 (ZA cZ31 cZ40)))) ?_
           refine ZW (ZA eZ3 (ZA cZ14 (ZA cZ16 (ZA cZ31 cZ40)))) (w_db _ hrZ41) (h2:=by first | exact bA [500000128,500000129,1000000000] rfl (by decide +kernel) | exact be [500000128,500000129,1000000000] [506100128,506100129] rfl (by decide +kernel) ZQ | exact ZQ) (hk:=?_)
           refine ZG ?_
           obtain ⟨lZ42,hlZ42,h⟩:=aQ h
           have eZ43:sub (rZ41.2.2.1.map AV.z) rZ41.1 rZ41.2.1=lZ42.map AV.z:=by rw [cA,hlZ42]
           cases h
           exact ZL (ZA eZ3 (ZA cZ14 (ZA cZ16 (ZA cZ31 (ZA cZ40 eZ43))))) @lT.eq_1
         · cases h
           exact ZL (ZA eZ3 (ZA cZ14 (ZA cZ16 (ZA cZ31 cZ40)))) @lT.eq_1
theorem w_de (aaZ0:List Int) {r:ae×Int×List Int} (h:Dk aaZ0=some r):OkM Tryz.prog 36 [.lst .o 1 (aaZ0.map AV.u8)] [] ((fun (r:ae×Int×List Int)=>.tup [.agg [.lst .m 1 (((r.1).Nodes).map AV.z),.lst .m 4 (((r.1).Fibers).map (ah .m))],.sl 3 0 r.2.2.length,.i r.2.1]) r) ((fun (r:ae×Int×List Int)=>[(3,.arr 1 (r.2.2.map AV.i))]) r):=by
 refine bl (lr:=[3]) bc Sz rfl rfl ?_
 unfold Dk at h
 simp only [ZC,NE,DZ]
 obtain ⟨rZ1,hrZ1,h⟩:=af h
 refine ZF trivial ?_
 refine ZW trivial (w_dd _ hrZ1) (h2:=by first | exact bA [3,1000000000] rfl (by decide +kernel) | exact be [3,1000000000] [1400003] rfl (by decide +kernel) ZQ | exact ZQ) (hk:=?_)
 refine ZG ?_
 obtain ⟨rZ2,hrZ2,h⟩:=af h
 refine ZF trivial ?_
 refine ZS trivial (QR _ _ hrZ2) ?_
 refine ZG ?_
 obtain ⟨rZ3,hrZ3,h⟩:=af h
 refine ZF trivial ?_
 refine ZW trivial (w_a _ _ hrZ3) (h2:=by first | exact bA [1000000000] rfl (by decide +kernel) | exact be [1000000000] [] rfl (by decide +kernel) ZQ | exact ZQ) (hk:=?_)
 refine ZG ?_
 obtain ⟨rZ4,hrZ4,h⟩:=af h
 refine ZF trivial ?_
 refine ZW trivial (w_a _ _ hrZ4) (h2:=by first | exact bA [1000000000] rfl (by decide +kernel) | exact be [1000000000] [] rfl (by decide +kernel) ZQ | exact ZQ) (hk:=?_)
 refine ZG ?_
 obtain ⟨uZ5,huZ5,h⟩:=af h
 have huZ5g:=aR huZ5
 cases h
 exact ZL huZ5g @DZ.eq_1
theorem w_q (nZ0:Int) (lowZ0:Int) (highZ0:Int) {r:Bool} (h:M_q nZ0 lowZ0 highZ0=some r):Ok Tryz.prog 70 [.i nZ0,.i lowZ0,.i highZ0] ((fun r=>.b r) r):=by
 refine ay bc m70 rfl ?_
 unfold M_q at h
 simp only [ZC,A70,V70,aJ]
 obtain ⟨cZ1,h⟩ | ⟨cZ1,h⟩:=ai h
 · cases h
   exact ZL cZ1 @V70.eq_1
 · cases h
   exact ZL cZ1 @V70.eq_1
def S_r (sZ0:ByteArray) (v:Int):St:=⟨[(0,.z sZ0),(7,.i (sZ0.size:Int)),(8,.i v)],[]⟩
def zY (sZ0:ByteArray) (v:Unit):St:=⟨[(0,.z sZ0)],[]⟩
theorem w_r (sZ0:ByteArray) (sZ1:Int) (o:Int ⊕ (Unit ⊕ Bool)) (h:M_r sZ0 sZ1=some o):AWP (OkS Tryz.prog) Fz (qL [0,7,8] [] (S_r sZ0) (qS (qX 0 [0] [] (zY sZ0)) (qR V97 (fun r=>.b r))) o) (S_r sZ0 sZ1):=by
 unfold M_r at h
 simp only [ZC,S_r,Fz]
 obtain ⟨cZ2,h⟩ | ⟨cZ2,h⟩:=ai h
 · obtain ⟨oZ7,hoZ7,h⟩:=af h
   try refine ZF cZ2 ?_
   refine aA (sh:=(fun v=>⟨[(0,.z sZ0),(3,.i sZ1),(4,.b v.1),(5,.b v.2),(7,.i (sZ0.size:Int)),(8,.i sZ1)],[]⟩)) (s:=oZ7) ?_ ?_
   · replace h:=hoZ7
     obtain ⟨yZ3,hyZ3,h⟩:=af h
     obtain ⟨hyZ3a,hyZ3b⟩:=rX hyZ3
     obtain ⟨cZ4,h⟩ | ⟨cZ4,h⟩:=ai h
     · obtain ⟨cZ5,h⟩ | ⟨cZ5,h⟩:=ai h
       · cases h
         exact ZL (ZA cZ2 (ZA hyZ3a (ZA hyZ3b (ZA cZ4 cZ5)))) trivial
       · cases h
         exact ZL (ZA cZ2 (ZA hyZ3a (ZA hyZ3b (ZA cZ4 cZ5)))) trivial
     · obtain ⟨cZ6,h⟩ | ⟨cZ6,h⟩:=ai h
       · cases h
         exact ZL (ZA cZ2 (ZA hyZ3a (ZA hyZ3b (ZA cZ4 cZ6)))) trivial
       · cases h
         exact ZL (ZA cZ2 (ZA hyZ3a (ZA hyZ3b (ZA cZ4 cZ6)))) trivial
   · simp only [ZC,OJ]
     obtain ⟨cZ8,h⟩ | ⟨cZ8,h⟩:=ai h
     · obtain ⟨cZ9,h⟩ | ⟨cZ9,h⟩:=ai h
       · cases h
         exact ZL (ZA cZ2 (ZA cZ8 cZ9)) @V97.eq_1
       · obtain ⟨cZ10,h⟩ | ⟨cZ10,h⟩:=ai h
         · cases h
           exact ZL (ZA cZ2 (ZA cZ8 (ZA cZ9 cZ10))) @V97.eq_1
         · cases h
           exact ZL (ZA cZ2 (ZA cZ8 (ZA cZ9 cZ10))) (ZA @S_r.eq_1 @zY.eq_1)
     · cases h
       exact ZL (ZA cZ2 cZ8) (ZA @S_r.eq_1 @zY.eq_1)
 · cases h
   exact ZL cZ2 (ZA @S_r.eq_1 @zY.eq_1)
theorem w_df (sZ0:ByteArray) {r:Bool} (h:Hl sZ0=some r):Ok Tryz.prog 97 [.z sZ0] ((fun r=>.b r) r):=by
 refine ay bc m97 rfl ?_
 unfold Hl at h
 simp only [ZC,A97,V97,aJ]
 obtain ⟨oZ11,hoZ11,h⟩:=af h
 try refine ZF trivial ?_
 refine bi (o:=oZ11) (br cZ (aF (w_r sZ0) hoZ11 ?_)) (fun vZ12 hv=>?_) (fun xZ13 hv e τ hne hq=>?_)
 · exact ZK (ZA @S_r.eq_1 @zY.eq_1)
 · subst hv
   simp only [] at h
   simp only [ZC,zY,Nx]
   obtain ⟨rZ14,hrZ14,h⟩:=af h
   refine ZF trivial ?_
   refine ZS trivial (w_q _ _ _ hrZ14) ?_
   refine ZG ?_
   cases h
   exact ZL trivial @V97.eq_1
 · subst hv
   simp only [] at h
   obtain ⟨rfl,qZ15⟩:=hq
   cases h
   exact qZ15
def CK (sZ0:List ByteArray) (vZ0:ByteArray) (v:Int):St:=⟨[(0,.lst .o 1 (sZ0.map AV.z)),(1,.z vZ0),(7,.i (sZ0.length:Int)),(8,.i v)],[]⟩
def sX (v:Unit):St:=⟨[],[]⟩
theorem w_as (sZ0:List ByteArray) (vZ0:ByteArray) (sZ1:Int) (o:Int ⊕ (Unit ⊕ Int)) (h:zy sZ0 vZ0 sZ1=some o):AWP (OkS Tryz.prog) wT (qL [0,1,7,8] [] (CK sZ0 vZ0) (qS (qX 0 [] [] (sX)) (qR DJ (fun r=>.i r))) o) (CK sZ0 vZ0 sZ1):=by
 unfold zy at h
 simp only [ZC,CK,wT]
 obtain ⟨cZ2,h⟩ | ⟨cZ2,h⟩:=ai h
 · obtain ⟨yZ3,hyZ3,h⟩:=af h
   obtain ⟨hyZ3a,hyZ3b⟩:=ba hyZ3
   obtain ⟨cZ4,h⟩ | ⟨cZ4,h⟩:=ai h
   · cases h
     exact ZL (ZA cZ2 (ZA hyZ3a (ZA hyZ3b cZ4))) @DJ.eq_1
   · cases h
     exact ZL (ZA cZ2 (ZA hyZ3a (ZA hyZ3b cZ4))) (ZA @CK.eq_1 @sX.eq_1)
 · cases h
   exact ZL cZ2 (ZA @CK.eq_1 @sX.eq_1)
theorem w_eg (sZ0:List ByteArray) (vZ0:ByteArray) {r:Int} (h:LK sZ0 vZ0=some r):Ok Tryz.prog 135 [.lst .o 1 (sZ0.map AV.z),.z vZ0] ((fun r=>.i r) r):=by
 refine ay bc m135 rfl ?_
 unfold LK at h
 simp only [ZC,A135,DJ,aJ]
 obtain ⟨oZ5,hoZ5,h⟩:=af h
 try refine ZF trivial ?_
 refine bi (o:=oZ5) (br cZ (aF (w_as sZ0 vZ0) hoZ5 ?_)) (fun vZ6 hv=>?_) (fun xZ7 hv e τ hne hq=>?_)
 · exact ZK (ZA @CK.eq_1 @sX.eq_1)
 · subst hv
   simp only [] at h
   simp only [ZC,sX,HF]
   cases h
   exact ZL trivial @DJ.eq_1
 · subst hv
   simp only [] at h
   obtain ⟨rfl,qZ8⟩:=hq
   cases h
   exact qZ8
theorem w_dg (sZ0:List ByteArray) (vZ0:ByteArray) {r:Bool} (h:HN sZ0 vZ0=some r):Ok Tryz.prog 98 [.lst .o 1 (sZ0.map AV.z),.z vZ0] ((fun r=>.b r) r):=by
 refine ay bc m98 rfl ?_
 unfold HN at h
 simp only [ZC,A98,V98,aJ]
 obtain ⟨rZ1,hrZ1,h⟩:=af h
 refine ZF trivial ?_
 refine ZS trivial (w_eg _ _ hrZ1) ?_
 refine ZG ?_
 cases h
 exact ZL trivial @V98.eq_1
theorem Ni (xZ0:Int) {r:Bool} (h:sM xZ0=some r):Ok Tryz.prog 153 [.i xZ0] ((fun r=>.b r) r):=by
 refine ay bc m153 rfl ?_
 unfold sM at h
 simp only [ZC,A153,Pu,aJ]
 cases h
 exact ZL trivial @Pu.eq_1
theorem w_s (xZ0:Int) (yZ0:Int) {r:Int} (h:M_s xZ0 yZ0=some r):Ok Tryz.prog 121 [.i xZ0,.i yZ0] ((fun r=>.i r) r):=by
 refine ay bc m121 rfl ?_
 unfold M_s at h
 simp only [ZC,A121,uO,aJ]
 obtain ⟨rZ1,hrZ1,h⟩:=af h
 refine ZF trivial ?_
 refine ZS trivial (Ni _ hrZ1) ?_
 refine ZG ?_
 obtain ⟨rZ2,hrZ2,h⟩:=af h
 refine ZF trivial ?_
 refine ZS trivial (Ni _ hrZ2) ?_
 refine ZG ?_
 obtain ⟨cZ3,h⟩ | ⟨cZ3,h⟩:=ai h
 · obtain ⟨cZ4,h⟩ | ⟨cZ4,h⟩:=ai h
   · cases h
     exact ZL (ZA cZ3 cZ4) @uO.eq_1
   · cases h
     exact ZL (ZA cZ3 cZ4) @uO.eq_1
 · obtain ⟨cZ5,h⟩ | ⟨cZ5,h⟩:=ai h
   · cases h
     exact ZL (ZA cZ3 cZ5) @uO.eq_1
   · obtain ⟨cZ6,h⟩ | ⟨cZ6,h⟩:=ai h
     · cases h
       exact ZL (ZA cZ3 (ZA cZ5 cZ6)) @uO.eq_1
     · obtain ⟨cZ7,h⟩ | ⟨cZ7,h⟩:=ai h
       · cases h
         exact ZL (ZA cZ3 (ZA cZ5 (ZA cZ6 cZ7))) @uO.eq_1
       · cases h
         exact ZL (ZA cZ3 (ZA cZ5 (ZA cZ6 cZ7))) @uO.eq_1
def S_e (valsZ0:List Int) (v:Int):St:=⟨[(3,.i 0),(6,.lst .o 1 (valsZ0.map AV.i)),(7,.i (valsZ0.length:Int)),(8,.i v)],[]⟩
def HJ (v:Unit):St:=⟨[(3,.i 0)],[]⟩
theorem w_e (valsZ0:List Int) (sZ1:Int) (o:Int ⊕ (Unit ⊕ Int)) (h:M_e valsZ0 sZ1=some o):AWP (OkS Tryz.prog) wy (qL [3,6,7,8] [] (S_e valsZ0) (qS (qX 0 [3] [] (HJ)) (qR Eg (fun r=>.i r))) o) (S_e valsZ0 sZ1):=by
 unfold M_e at h
 simp only [ZC,S_e,wy]
 obtain ⟨cZ2,h⟩ | ⟨cZ2,h⟩:=ai h
 · obtain ⟨yZ3,hyZ3,h⟩:=af h
   obtain ⟨hyZ3a,hyZ3b⟩:=ba hyZ3
   obtain ⟨cZ4,h⟩ | ⟨cZ4,h⟩:=ai h
   · cases h
     exact ZL (ZA cZ2 (ZA hyZ3a (ZA hyZ3b cZ4))) @Eg.eq_1
   · cases h
     exact ZL (ZA cZ2 (ZA hyZ3a (ZA hyZ3b cZ4))) (ZA @S_e.eq_1 @HJ.eq_1)
 · cases h
   exact ZL cZ2 (ZA @S_e.eq_1 @HJ.eq_1)
theorem Pg (valsZ0:List Int) {r:Int} (h:pn valsZ0=some r):Ok Tryz.prog 120 [.lst .o 1 (valsZ0.map AV.i)] ((fun r=>.i r) r):=by
 refine ay bc m120 rfl ?_
 unfold pn at h
 simp only [ZC,A120,Eg,aJ]
 obtain ⟨oZ5,hoZ5,h⟩:=af h
 try refine ZF trivial ?_
 refine bi (o:=oZ5) (br cZ (aF (w_e valsZ0) hoZ5 ?_)) (fun vZ6 hv=>?_) (fun xZ7 hv e τ hne hq=>?_)
 · exact ZK (ZA @S_e.eq_1 @HJ.eq_1)
 · subst hv
   simp only [] at h
   simp only [ZC,HJ,Dm]
   cases h
   exact ZL trivial @Eg.eq_1
 · subst hv
   simp only [] at h
   obtain ⟨rfl,qZ8⟩:=hq
   cases h
   exact qZ8
theorem w_dh (aZ0:ar) (bZ0:ar) {r:Int} (h:Gf aZ0 bZ0=some r):Ok Tryz.prog 99 [.agg [.i aZ0.A,.i aZ0.B,.i aZ0.Length,.i aZ0.Risk],.agg [.i bZ0.A,.i bZ0.B,.i bZ0.Length,.i bZ0.Risk]] ((fun r=>.i r) r):=by
 refine ay bc m99 rfl ?_
 unfold Gf at h
 simp only [ZC,A99,V99,aJ]
 obtain ⟨rZ1,hrZ1,h⟩:=af h
 refine ZF trivial ?_
 refine ZS trivial (w_s _ _ hrZ1) ?_
 refine ZG ?_
 obtain ⟨rZ2,hrZ2,h⟩:=af h
 refine ZF trivial ?_
 refine ZS trivial (w_s _ _ hrZ2) ?_
 refine ZG ?_
 obtain ⟨rZ3,hrZ3,h⟩:=af h
 refine ZF trivial ?_
 refine ZS trivial (w_s _ _ hrZ3) ?_
 refine ZG ?_
 obtain ⟨rZ4,hrZ4,h⟩:=af h
 refine ZF trivial ?_
 refine ZS trivial (w_s _ _ hrZ4) ?_
 refine ZG ?_
 obtain ⟨lZ5,hlZ5,h⟩:=aQ h
 have eZ6:Row.arr 1 [(.i rZ1:AV),(.i rZ2:AV),(.i rZ3:AV),(.i rZ4:AV)]=Row.arr 1 (lZ5.map AV.i):=by rw [← hlZ5]; rfl
 have jjZ7:lZ5.length=4:=by rw [← hlZ5]; rfl
 have nZ8:sub (lZ5.map AV.i) 0 4=lZ5.map AV.i:=yP _ (by simp [← hlZ5])
 obtain ⟨rZ9,hrZ9,h⟩:=af h
 refine ZF (ZA eZ6 (ZA jjZ7 nZ8)) ?_
 refine ZS (ZA eZ6 (ZA jjZ7 nZ8)) (Pg _ hrZ9) ?_
 refine ZG ?_
 cases h
 exact ZL (ZA eZ6 (ZA jjZ7 nZ8)) (ZA @V99.eq_1 (ZA hlZ5.symm jjZ7))
def CO (nZ0:ae) (v:Int):St:=⟨[(1,.pt 1 0 0),(8,.lst .o 1 (nZ0.Nodes.map AV.z)),(9,.i (nZ0.Nodes.length:Int)),(10,.i v)],[(1,.var (.agg [.lst .o 1 (nZ0.Nodes.map AV.z),.lst .o 4 (nZ0.Fibers.map (ah .o))]))]⟩
def uE (nZ0:ae) (v:Unit):St:=⟨[(1,.pt 1 0 0)],[(1,.var (.agg [.lst .o 1 (nZ0.Nodes.map AV.z),.lst .o 4 (nZ0.Fibers.map (ah .o))]))]⟩
theorem w_at (nZ0:ae) (sZ1:Int) (o:Int ⊕ (Unit ⊕ Bool)) (h:CW nZ0 sZ1=some o):AWP (OkS Tryz.prog) Gv (qL [1,8,9,10] [1] (CO nZ0) (qS (qX 0 [1] [1] (uE nZ0)) (qR V57 (fun r=>.b r))) o) (CO nZ0 sZ1):=by
 unfold CW at h
 simp only [ZC,CO,Gv]
 obtain ⟨cZ2,h⟩ | ⟨cZ2,h⟩:=ai h
 · obtain ⟨yZ3,hyZ3,h⟩:=af h
   obtain ⟨hyZ3a,hyZ3b⟩:=ba hyZ3
   obtain ⟨rZ4,hrZ4,h⟩:=af h
   refine ZF (ZA cZ2 (ZA hyZ3a hyZ3b)) ?_
   refine ZS (ZA cZ2 (ZA hyZ3a hyZ3b)) (w_df _ hrZ4) ?_
   refine ZG ?_
   obtain ⟨cZ5,h⟩ | ⟨cZ5,h⟩:=ai h
   · cases h
     exact ZL (ZA cZ2 (ZA hyZ3a (ZA hyZ3b cZ5))) @V57.eq_1
   · obtain ⟨lZ6,hlZ6,h⟩:=af h
     obtain ⟨hlZ6a,hlZ6b,hlZ6c,hlZ6d,hlZ6e⟩:=yp AV.z hlZ6
     obtain ⟨rZ7,hrZ7,h⟩:=af h
     refine ZF (ZA cZ2 (ZA hyZ3a (ZA hyZ3b (ZA cZ5 (ZA hlZ6a (ZA hlZ6b (ZA hlZ6c (ZA hlZ6d hlZ6e)))))))) ?_
     refine ZS (ZA cZ2 (ZA hyZ3a (ZA hyZ3b (ZA cZ5 (ZA hlZ6a (ZA hlZ6b (ZA hlZ6c (ZA hlZ6d hlZ6e)))))))) (w_dg _ _ hrZ7) ?_
     refine ZG ?_
     obtain ⟨cZ8,h⟩ | ⟨cZ8,h⟩:=ai h
     · cases h
       exact ZL (ZA cZ2 (ZA hyZ3a (ZA hyZ3b (ZA cZ5 (ZA hlZ6a (ZA hlZ6b (ZA hlZ6c (ZA hlZ6d (ZA hlZ6e cZ8))))))))) @V57.eq_1
     · cases h
       exact ZL (ZA cZ2 (ZA hyZ3a (ZA hyZ3b (ZA cZ5 (ZA hlZ6a (ZA hlZ6b (ZA hlZ6c (ZA hlZ6d (ZA hlZ6e cZ8))))))))) (ZA @CO.eq_1 @uE.eq_1)
 · cases h
   exact ZL cZ2 (ZA @CO.eq_1 @uE.eq_1)
def S_t (nZ0:ae) (v:Int):St:=⟨[(1,.pt 1 0 0),(28,.lst .o 4 (nZ0.Fibers.map (ah .o))),(29,.i (nZ0.Fibers.length:Int)),(30,.i v)],[(1,.var (.agg [.lst .o 1 (nZ0.Nodes.map AV.z),.lst .o 4 (nZ0.Fibers.map (ah .o))]))]⟩
def zU (nZ0:ae) (v:Unit):St:=⟨[(1,.pt 1 0 0)],[(1,.var (.agg [.lst .o 1 (nZ0.Nodes.map AV.z),.lst .o 4 (nZ0.Fibers.map (ah .o))]))]⟩
theorem w_t (nZ0:ae) (sZ12:Int) (o:Int ⊕ (Unit ⊕ Bool)) (h:M_t nZ0 sZ12=some o):AWP (OkS Tryz.prog) Hp (qL [1,28,29,30] [1] (S_t nZ0) (qS (qX 2 [1] [1] (zU nZ0)) (qR V57 (fun r=>.b r))) o) (S_t nZ0 sZ12):=by
 unfold M_t at h
 simp only [ZC,S_t,Hp]
 obtain ⟨cZ13,h⟩ | ⟨cZ13,h⟩:=ai h
 · obtain ⟨yZ14,hyZ14,h⟩:=af h
   obtain ⟨hyZ14a,hyZ14b⟩:=ba hyZ14
   obtain ⟨cZ15,h⟩ | ⟨cZ15,h⟩:=ai h
   · cases h
     exact ZL (ZA cZ13 (ZA hyZ14a (ZA hyZ14b cZ15))) @V57.eq_1
   · obtain ⟨cZ16,h⟩ | ⟨cZ16,h⟩:=ai h
     · cases h
       exact ZL (ZA cZ13 (ZA hyZ14a (ZA hyZ14b (ZA cZ15 cZ16)))) @V57.eq_1
     · obtain ⟨cZ17,h⟩ | ⟨cZ17,h⟩:=ai h
       · cases h
         exact ZL (ZA cZ13 (ZA hyZ14a (ZA hyZ14b (ZA cZ15 (ZA cZ16 cZ17))))) @V57.eq_1
       · obtain ⟨rZ18,hrZ18,h⟩:=af h
         refine ZF (ZA cZ13 (ZA hyZ14a (ZA hyZ14b (ZA cZ15 (ZA cZ16 cZ17))))) ?_
         refine ZS (ZA cZ13 (ZA hyZ14a (ZA hyZ14b (ZA cZ15 (ZA cZ16 cZ17))))) (w_q _ _ _ hrZ18) ?_
         refine ZG ?_
         obtain ⟨cZ19,h⟩ | ⟨cZ19,h⟩:=ai h
         · cases h
           exact ZL (ZA cZ13 (ZA hyZ14a (ZA hyZ14b (ZA cZ15 (ZA cZ16 (ZA cZ17 cZ19)))))) @V57.eq_1
         · obtain ⟨rZ20,hrZ20,h⟩:=af h
           refine ZF (ZA cZ13 (ZA hyZ14a (ZA hyZ14b (ZA cZ15 (ZA cZ16 (ZA cZ17 cZ19)))))) ?_
           refine ZS (ZA cZ13 (ZA hyZ14a (ZA hyZ14b (ZA cZ15 (ZA cZ16 (ZA cZ17 cZ19)))))) (w_q _ _ _ hrZ20) ?_
           refine ZG ?_
           obtain ⟨cZ21,h⟩ | ⟨cZ21,h⟩:=ai h
           · cases h
             exact ZL (ZA cZ13 (ZA hyZ14a (ZA hyZ14b (ZA cZ15 (ZA cZ16 (ZA cZ17 (ZA cZ19 cZ21))))))) @V57.eq_1
           · obtain ⟨cZ22,h⟩ | ⟨cZ22,h⟩:=ai h
             · obtain ⟨yZ23,hyZ23,h⟩:=af h
               obtain ⟨hyZ23a,hyZ23b⟩:=ba hyZ23
               obtain ⟨rZ24,hrZ24,h⟩:=af h
               refine ZF (ZA cZ13 (ZA hyZ14a (ZA hyZ14b (ZA cZ15 (ZA cZ16 (ZA cZ17 (ZA cZ19 (ZA cZ21 (ZA cZ22 (ZA hyZ23a hyZ23b)))))))))) ?_
               refine ZS (ZA cZ13 (ZA hyZ14a (ZA hyZ14b (ZA cZ15 (ZA cZ16 (ZA cZ17 (ZA cZ19 (ZA cZ21 (ZA cZ22 (ZA hyZ23a hyZ23b)))))))))) (w_dh _ _ hrZ24) ?_
               refine ZG ?_
               obtain ⟨cZ25,h⟩ | ⟨cZ25,h⟩:=ai h
               · cases h
                 exact ZL (ZA cZ13 (ZA hyZ14a (ZA hyZ14b (ZA cZ15 (ZA cZ16 (ZA cZ17 (ZA cZ19 (ZA cZ21 (ZA cZ22 (ZA hyZ23a (ZA hyZ23b cZ25))))))))))) @V57.eq_1
               · cases h
                 exact ZL (ZA cZ13 (ZA hyZ14a (ZA hyZ14b (ZA cZ15 (ZA cZ16 (ZA cZ17 (ZA cZ19 (ZA cZ21 (ZA cZ22 (ZA hyZ23a (ZA hyZ23b cZ25))))))))))) (ZA @S_t.eq_1 @zU.eq_1)
             · cases h
               exact ZL (ZA cZ13 (ZA hyZ14a (ZA hyZ14b (ZA cZ15 (ZA cZ16 (ZA cZ17 (ZA cZ19 (ZA cZ21 cZ22)))))))) (ZA @S_t.eq_1 @zU.eq_1)
 · cases h
   exact ZL cZ13 (ZA @S_t.eq_1 @zU.eq_1)
theorem Qp (nZ0:ae) {r:Bool} (h:vD nZ0=some r):Ok Tryz.prog 57 [.agg [.lst .o 1 (nZ0.Nodes.map AV.z),.lst .o 4 (nZ0.Fibers.map (ah .o))]] ((fun r=>.b r) r):=by
 refine ay bc m57 rfl ?_
 unfold vD at h
 simp only [ZC,A57,V57,aJ]
 obtain ⟨oZ9,hoZ9,h⟩:=af h
 try refine ZF trivial ?_
 refine bi (o:=oZ9) (br cZ (aF (w_at nZ0) hoZ9 ?_)) (fun vZ10 hv=>?_) (fun xZ11 hv e τ hne hq=>?_)
 · exact ZK (ZA @CO.eq_1 @uE.eq_1)
 · subst hv
   simp only [] at h
   simp only [ZC,uE,Od]
   obtain ⟨oZ26,hoZ26,h⟩:=af h
   try refine ZF trivial ?_
   refine bi (o:=oZ26) (br cZ (aF (w_t nZ0) hoZ26 ?_)) (fun vZ27 hv=>?_) (fun xZ28 hv e τ hne hq=>?_)
   · exact ZK (ZA @S_t.eq_1 @zU.eq_1)
   · subst hv
     simp only [] at h
     simp only [ZC,zU,OB]
     obtain ⟨rZ29,hrZ29,h⟩:=af h
     refine ZF trivial ?_
     refine ZS trivial (w_q _ _ _ hrZ29) ?_
     refine ZG ?_
     obtain ⟨cZ30,h⟩ | ⟨cZ30,h⟩:=ai h
     · cases h
       exact ZL cZ30 @V57.eq_1
     · cases h
       exact ZL cZ30 @V57.eq_1
   · subst hv
     simp only [] at h
     obtain ⟨rfl,qZ31⟩:=hq
     cases h
     exact qZ31
 · subst hv
   simp only [] at h
   obtain ⟨rfl,qZ32⟩:=hq
   cases h
   exact qZ32
def S_l (sZ0:List Int) (vZ0:Int) (v:Int):St:=⟨[(0,.lst .o 1 (sZ0.map AV.i)),(1,.i vZ0),(7,.i (sZ0.length:Int)),(8,.i v)],[]⟩
def Dz (v:Unit):St:=⟨[],[]⟩
theorem w_l (sZ0:List Int) (vZ0:Int) (sZ1:Int) (o:Int ⊕ (Unit ⊕ Int)) (h:M_l sZ0 vZ0 sZ1=some o):AWP (OkS Tryz.prog) DF (qL [0,1,7,8] [] (S_l sZ0 vZ0) (qS (qX 0 [] [] (Dz)) (qR V76 (fun r=>.i r))) o) (S_l sZ0 vZ0 sZ1):=by
 unfold M_l at h
 simp only [ZC,S_l,DF]
 obtain ⟨cZ2,h⟩ | ⟨cZ2,h⟩:=ai h
 · obtain ⟨yZ3,hyZ3,h⟩:=af h
   obtain ⟨hyZ3a,hyZ3b⟩:=ba hyZ3
   obtain ⟨cZ4,h⟩ | ⟨cZ4,h⟩:=ai h
   · cases h
     exact ZL (ZA cZ2 (ZA hyZ3a (ZA hyZ3b cZ4))) @V76.eq_1
   · cases h
     exact ZL (ZA cZ2 (ZA hyZ3a (ZA hyZ3b cZ4))) (ZA @S_l.eq_1 @Dz.eq_1)
 · cases h
   exact ZL cZ2 (ZA @S_l.eq_1 @Dz.eq_1)
theorem QD (sZ0:List Int) (vZ0:Int) {r:Int} (h:tD sZ0 vZ0=some r):Ok Tryz.prog 76 [.lst .o 1 (sZ0.map AV.i),.i vZ0] ((fun r=>.i r) r):=by
 refine ay bc m76 rfl ?_
 unfold tD at h
 simp only [ZC,A76,V76,aJ]
 obtain ⟨oZ5,hoZ5,h⟩:=af h
 try refine ZF trivial ?_
 refine bi (o:=oZ5) (br cZ (aF (w_l sZ0 vZ0) hoZ5 ?_)) (fun vZ6 hv=>?_) (fun xZ7 hv e τ hne hq=>?_)
 · exact ZK (ZA @S_l.eq_1 @Dz.eq_1)
 · subst hv
   simp only [] at h
   simp only [ZC,Dz,Ny]
   cases h
   exact ZL trivial @V76.eq_1
 · subst hv
   simp only [] at h
   obtain ⟨rfl,qZ8⟩:=hq
   cases h
   exact qZ8
theorem w_m (sZ0:List Int) (vZ0:Int) {r:Bool} (h:M_m sZ0 vZ0=some r):Ok Tryz.prog 79 [.lst .o 1 (sZ0.map AV.i),.i vZ0] ((fun r=>.b r) r):=by
 refine ay bc m79 rfl ?_
 unfold M_m at h
 simp only [ZC,A79,V79,aJ]
 obtain ⟨rZ1,hrZ1,h⟩:=af h
 refine ZF trivial ?_
 refine ZS trivial (QD _ _ hrZ1) ?_
 refine ZG ?_
 cases h
 exact ZL trivial @V79.eq_1
theorem Lq (fZ0:ar) (nodeZ0:Int) {r:Int} (h:pg fZ0 nodeZ0=some r):Ok Tryz.prog 128 [.agg [.i fZ0.A,.i fZ0.B,.i fZ0.Length,.i fZ0.Risk],.i nodeZ0] ((fun r=>.i r) r):=by
 refine ay bc m128 rfl ?_
 unfold pg at h
 simp only [ZC,A128,Dc,aJ]
 obtain ⟨cZ1,h⟩ | ⟨cZ1,h⟩:=ai h
 · cases h
   exact ZL cZ1 @Dc.eq_1
 · obtain ⟨cZ2,h⟩ | ⟨cZ2,h⟩:=ai h
   · cases h
     exact ZL (ZA cZ1 cZ2) @Dc.eq_1
   · cases h
     exact ZL (ZA cZ1 cZ2) @Dc.eq_1
def S_u (nZ0:ae) (ringZ0:List Int) (v:Int×Int×List Int):St:=⟨[(2,.lst .o 1 (ringZ0.map AV.i)),(3,.pt 3 0 0),(9,.sl 9 0 v.2.2.length),(10,.i v.1),(15,.lst .o 1 (ringZ0.map AV.i)),(16,.i (ringZ0.length:Int)),(17,.i v.2.1)],[(3,.var (.agg [.lst .o 1 (nZ0.Nodes.map AV.z),.lst .o 4 (nZ0.Fibers.map (ah .o))])),(9,.arr 1 (v.2.2.map AV.i))]⟩
def Hf (v:Int×List Int):St:=⟨[(9,.sl 9 0 v.2.length),(10,.i v.1)],[(9,.arr 1 (v.2.map AV.i))]⟩
theorem w_u (nZ0:ae) (ringZ0:List Int) (sZ1:Int×Int×List Int) (o:(Int×Int×List Int) ⊕ ((Int×List Int) ⊕ (List Int×Int×Bool))) (h:M_u nZ0 ringZ0 sZ1=some o):AWP (OkS Tryz.prog) xf (qL [2,3,9,10,15,16,17] [3,9] (S_u nZ0 ringZ0) (qS (qX 0 [9,10] [9] (Hf)) (qR Cn (fun r=>.tup [.lst .u 1 (r.1.map AV.i),.i r.2.1,.b r.2.2]))) o) (S_u nZ0 ringZ0 sZ1):=by
 unfold M_u at h
 simp only [ZC,S_u,xf]
 obtain ⟨cZ2,h⟩ | ⟨cZ2,h⟩:=ai h
 · obtain ⟨yZ3,hyZ3,h⟩:=af h
   obtain ⟨hyZ3a,hyZ3b⟩:=ba hyZ3
   obtain ⟨oZ8,hoZ8,h⟩:=af h
   try refine ZF (ZA cZ2 (ZA hyZ3a hyZ3b)) ?_
   refine aA (sh:=(fun v=>⟨[(2,.lst .o 1 (ringZ0.map AV.i)),(3,.pt 3 0 0),(9,.sl 9 0 sZ1.2.2.length),(10,.i sZ1.1),(12,.i yZ3),(15,.lst .o 1 (ringZ0.map AV.i)),(16,.i (ringZ0.length:Int)),(17,.i sZ1.2.1),(35,.b v)],[(3,.var (.agg [.lst .o 1 (nZ0.Nodes.map AV.z),.lst .o 4 (nZ0.Fibers.map (ah .o))])),(9,.arr 1 (sZ1.2.2.map AV.i))]⟩)) (s:=oZ8) ?_ ?_
   · replace h:=hoZ8
     obtain ⟨rZ4,hrZ4,h⟩:=af h
     refine ZF (ZA cZ2 (ZA hyZ3a hyZ3b)) ?_
     refine ZS (ZA cZ2 (ZA hyZ3a hyZ3b)) (w_q _ _ _ hrZ4) ?_
     refine ZG ?_
     obtain ⟨cZ5,h⟩ | ⟨cZ5,h⟩:=ai h
     · cases h
       exact ZL (ZA cZ2 (ZA hyZ3a (ZA hyZ3b cZ5))) trivial
     · obtain ⟨lZ6,hlZ6,h⟩:=af h
       obtain ⟨hlZ6a,hlZ6b,hlZ6c,hlZ6d,hlZ6e⟩:=yp AV.i hlZ6
       obtain ⟨rZ7,hrZ7,h⟩:=af h
       refine ZF (ZA cZ2 (ZA hyZ3a (ZA hyZ3b (ZA cZ5 (ZA hlZ6a (ZA hlZ6b (ZA hlZ6c (ZA hlZ6d hlZ6e)))))))) ?_
       refine ZS (ZA cZ2 (ZA hyZ3a (ZA hyZ3b (ZA cZ5 (ZA hlZ6a (ZA hlZ6b (ZA hlZ6c (ZA hlZ6d hlZ6e)))))))) (w_m _ _ hrZ7) ?_
       refine ZG ?_
       cases h
       exact ZL (ZA cZ2 (ZA hyZ3a (ZA hyZ3b (ZA cZ5 (ZA hlZ6a (ZA hlZ6b (ZA hlZ6c (ZA hlZ6d hlZ6e)))))))) trivial
   · simp only [ZC,Il]
     obtain ⟨cZ9,h⟩ | ⟨cZ9,h⟩:=ai h
     · cases h
       exact ZL (ZA cZ2 (ZA hyZ3a (ZA hyZ3b cZ9))) @Cn.eq_1
     · obtain ⟨lZ10,hlZ10,h⟩:=aQ h
       have eZ11:Row.arr 1 [(.i sZ1.1:AV)]=Row.arr 1 (lZ10.map AV.i):=by rw [← hlZ10]; rfl
       have jjZ12:lZ10.length=1:=by rw [← hlZ10]; rfl
       obtain ⟨uZ13,huZ13,h⟩:=af h
       have huZ13g:=aR huZ13
       obtain ⟨lZ14,hlZ14,h⟩:=aQ h
       have eZ15:sZ1.2.2.map AV.i++lZ10.map AV.i=lZ14.map AV.i:=by rw [← hlZ14,List.map_append]
       have eZ16:sZ1.2.2.length+1=lZ14.length:=by simp [← hlZ10,← hlZ14] <;> omega
       rw [eZ16] at huZ13g
       obtain ⟨yZ17,hyZ17,h⟩:=af h
       obtain ⟨hyZ17a,hyZ17b⟩:=ba hyZ17
       obtain ⟨rZ18,hrZ18,h⟩:=af h
       refine ZF (ZA cZ2 (ZA hyZ3a (ZA hyZ3b (ZA cZ9 (ZA eZ11 (ZA jjZ12 (ZA huZ13g (ZA eZ15 (ZA eZ16 (ZA hyZ17a hyZ17b)))))))))) ?_
       refine ZS (ZA cZ2 (ZA hyZ3a (ZA hyZ3b (ZA cZ9 (ZA eZ11 (ZA jjZ12 (ZA huZ13g (ZA eZ15 (ZA eZ16 (ZA hyZ17a hyZ17b)))))))))) (Lq _ _ hrZ18) ?_
       refine ZG ?_
       obtain ⟨cZ19,h⟩ | ⟨cZ19,h⟩:=ai h
       · cases h
         exact ZL (ZA cZ2 (ZA hyZ3a (ZA hyZ3b (ZA cZ9 (ZA eZ11 (ZA jjZ12 (ZA huZ13g (ZA eZ15 (ZA eZ16 (ZA hyZ17a (ZA hyZ17b cZ19))))))))))) (ZA @Cn.eq_1 (ZA hlZ10.symm (ZA hlZ14.symm jjZ12)))
       · cases h
         exact ZL (ZA cZ2 (ZA hyZ3a (ZA hyZ3b (ZA cZ9 (ZA eZ11 (ZA jjZ12 (ZA huZ13g (ZA eZ15 (ZA eZ16 (ZA hyZ17a (ZA hyZ17b cZ19))))))))))) (ZA @S_u.eq_1 (ZA @Hf.eq_1 (ZA hlZ10.symm (ZA hlZ14.symm jjZ12))))
 · cases h
   exact ZL cZ2 (ZA @S_u.eq_1 @Hf.eq_1)
theorem w_di (nZ0:ae) (startZ0:Int) (ringZ0:List Int) {r:List Int×Int×Bool} (h:Ja nZ0 startZ0 ringZ0=some r):Ok Tryz.prog 113 [.agg [.lst .o 1 (nZ0.Nodes.map AV.z),.lst .o 4 (nZ0.Fibers.map (ah .o))],.i startZ0,.lst .o 1 (ringZ0.map AV.i)] ((fun r=>.tup [.lst .u 1 (r.1.map AV.i),.i r.2.1,.b r.2.2]) r):=by
 refine ay bc m113 rfl ?_
 unfold Ja at h
 simp only [ZC,A113,Cn,aJ]
 obtain ⟨oZ20,hoZ20,h⟩:=af h
 try refine ZF trivial ?_
 refine bi (o:=oZ20) (br cZ (aF (w_u nZ0 ringZ0) hoZ20 ?_)) (fun vZ21 hv=>?_) (fun xZ22 hv e τ hne hq=>?_)
 · exact ZK (ZA @S_u.eq_1 @Hf.eq_1)
 · subst hv
   simp only [] at h
   simp only [ZC,Hf,GZ]
   cases h
   exact ZL trivial @Cn.eq_1
 · subst hv
   simp only [] at h
   obtain ⟨rfl,qZ23⟩:=hq
   cases h
   exact qZ23
def Bt (xZ0:List Int) (v:Int×Int):St:=⟨[(0,.lst .o 1 (xZ0.map AV.i)),(3,.i v.1),(4,.i v.2)],[]⟩
def th (v:Int):St:=⟨[(3,.i v)],[]⟩
theorem w_au (xZ0:List Int) (sZ3:Int×Int) (o:(Int×Int) ⊕ Int) (h:AH xZ0 sZ3=some o):AWP (OkS Tryz.prog) vn (qL [0,3,4] [] (Bt xZ0) (qX 0 [3] [] (th)) o) (Bt xZ0 sZ3):=by
 unfold AH at h
 simp only [ZC,Bt,vn]
 obtain ⟨cZ4,h⟩ | ⟨cZ4,h⟩:=ai h
 · obtain ⟨yZ5,hyZ5,h⟩:=af h
   obtain ⟨hyZ5a,hyZ5b⟩:=ba hyZ5
   cases h
   exact ZL (ZA cZ4 (ZA hyZ5a hyZ5b)) (ZA @Bt.eq_1 @th.eq_1)
 · cases h
   exact ZL cZ4 (ZA @Bt.eq_1 @th.eq_1)
theorem w_dj (xZ0:List Int) {r:Int} (h:JE xZ0=some r):Ok Tryz.prog 114 [.lst .o 1 (xZ0.map AV.i)] ((fun r=>.i r) r):=by
 refine ay bc m114 rfl ?_
 unfold JE at h
 simp only [ZC,A114,OY,aJ]
 obtain ⟨cZ1,h⟩ | ⟨cZ1,h⟩:=ai h
 · cases h
 · obtain ⟨yZ2,hyZ2,h⟩:=af h
   obtain ⟨hyZ2a,hyZ2b⟩:=ba hyZ2
   obtain ⟨oZ6,hoZ6,h⟩:=af h
   try refine ZF (ZA cZ1 (ZA hyZ2a hyZ2b)) ?_
   refine aA (bf (aF (w_au xZ0) hoZ6 ?_)) ?_
   · exact ZK (ZA @Bt.eq_1 @th.eq_1)
   · simp only [ZC,th,GU]
     cases h
     exact ZL (ZA cZ1 (ZA hyZ2a hyZ2b)) @OY.eq_1
theorem w_cl (sZ0:List Int) {r:List Int} (h:Az sZ0=some r):Ok Tryz.prog 55 [.lst .o 1 (sZ0.map AV.i)] ((fun r=>.lst .u 1 (r.map AV.i)) r):=by
 refine ay bc m55 rfl ?_
 unfold Az at h
 simp only [ZC,A55,V55,aJ]
 obtain ⟨cZ1,h⟩ | ⟨cZ1,h⟩:=ai h
 · refine ZF cZ1 ?_
   refine And.intro ?_ ?_
   · replace h:=SB h
     cases h
     exact ZL cZ1 @V55.eq_1
   · replace h:=Sl h
     obtain ⟨uZ2,huZ2,h⟩:=af h
     have huZ2g:=aR huZ2
     cases h
     exact ZL (ZA cZ1 huZ2g) @V55.eq_1
 · obtain ⟨uZ3,huZ3,h⟩:=af h
   have huZ3g:=aR huZ3
   cases h
   exact ZL (ZA cZ1 huZ3g) @V55.eq_1
def S_z (v:Int×Int×List Int):St:=⟨[(0,.sl 1000000000 0 v.2.2.length),(2,.i v.1),(3,.i v.2.1)],[(1000000000,.arr 1 (v.2.2.map AV.i))]⟩
def Jr (v:List Int):St:=⟨[],[(1000000000,.arr 1 (v.map AV.i))]⟩
theorem w_z (sZ1:Int×Int×List Int) (o:(Int×Int×List Int) ⊕ (List Int)) (h:M_z sZ1=some o):AWP (OkS Tryz.prog) oJ (qL [0,2,3] [1000000000] (S_z) (qX 0 [] [1000000000] (Jr)) o) (S_z sZ1):=by
 unfold M_z at h
 simp only [ZC,S_z,oJ]
 obtain ⟨cZ2,h⟩ | ⟨cZ2,h⟩:=ai h
 · obtain ⟨kZ3,hkZ3,h⟩:=af h
   obtain ⟨hkZ3a,hkZ3b⟩:=aR hkZ3
   obtain ⟨yZ4,hyZ4,h⟩:=af h
   obtain ⟨kZ5,hkZ5,h⟩:=af h
   obtain ⟨hkZ5a,hkZ5b⟩:=aR hkZ5
   obtain ⟨yZ6,hyZ6,h⟩:=af h
   obtain ⟨lZ7,hlZ7,h⟩:=aQ h
   have eZ8:(sZ1.2.2.map AV.i).set (Int.toNat sZ1.1) (.i yZ4)=lZ7.map AV.i:=by rw [← hlZ7,List.map_set]
   obtain ⟨yZ9,hyZ9,h⟩:=af h
   obtain ⟨lZ10,hlZ10,h⟩:=aQ h
   have eZ11:(lZ7.map AV.i).set (Int.toNat sZ1.2.1) (.i yZ6)=lZ10.map AV.i:=by rw [← hlZ10,List.map_set]
   cases h
   exact ZL (ZA cZ2 (ZA hkZ3a (ZA hkZ3b (ZA hyZ4 (ZA hkZ5a (ZA hkZ5b (ZA hyZ6 (ZA eZ8 (ZA hyZ9 eZ11))))))))) (ZA @S_z.eq_1 (ZA @Jr.eq_1 (ZA hlZ7.symm hlZ10.symm)))
 · cases h
   exact ZL cZ2 (ZA @S_z.eq_1 @Jr.eq_1)
theorem w_dk (aaZ0:List Int) {r:List Int} (h:Hh aaZ0=some r):OkM Tryz.prog 115 [.sl 1000000000 0 aaZ0.length] [(1000000000,.arr 1 (aaZ0.map AV.i))] ((fun (r:List Int)=>.tup []) r) ((fun (r:List Int)=>[(1000000000,.arr 1 (r.map AV.i))]) r):=by
 refine bl (lr:=[1000000000]) bc Ri rfl rfl ?_
 unfold Hh at h
 simp only [ZC,Ej,wP]
 obtain ⟨oZ12,hoZ12,h⟩:=af h
 try refine ZF trivial ?_
 first | refine dG (bf (aF (w_z) hoZ12 ?_)) (fun τ qZ13=>?_) | refine fH (aF (w_z) hoZ12 ?_) (fun τ qZ13=>?_)
 · exact ZK (ZA @S_z.eq_1 @Jr.eq_1)
 · cases h
   refine jg qZ13 (by decide) ?_ rfl
   exact ZK (ZA @wP.eq_1 @Jr.eq_1)
def S_g (s1Z0:List Int) (s2Z0:List Int) (v:Int):St:=⟨[(0,.lst .o 1 (s1Z0.map AV.i)),(1,.lst .o 1 (s2Z0.map AV.i)),(9,.lst .o 1 (s1Z0.map AV.i)),(10,.i (s1Z0.length:Int)),(11,.i v)],[]⟩
def Iw (s1Z0:List Int) (s2Z0:List Int) (v:Unit):St:=⟨[(0,.lst .o 1 (s1Z0.map AV.i)),(1,.lst .o 1 (s2Z0.map AV.i))],[]⟩
theorem w_g (s1Z0:List Int) (s2Z0:List Int) (sZ1:Int) (o:Int ⊕ (Unit ⊕ Int)) (h:M_g s1Z0 s2Z0 sZ1=some o):AWP (OkS Tryz.prog) vS (qL [0,1,9,10,11] [] (S_g s1Z0 s2Z0) (qS (qX 0 [0,1] [] (Iw s1Z0 s2Z0)) (qR wU (fun r=>.i r))) o) (S_g s1Z0 s2Z0 sZ1):=by
 unfold M_g at h
 simp only [ZC,S_g,vS]
 obtain ⟨cZ2,h⟩ | ⟨cZ2,h⟩:=ai h
 · obtain ⟨yZ3,hyZ3,h⟩:=af h
   obtain ⟨hyZ3a,hyZ3b⟩:=ba hyZ3
   obtain ⟨cZ4,h⟩ | ⟨cZ4,h⟩:=ai h
   · cases h
     exact ZL (ZA cZ2 (ZA hyZ3a (ZA hyZ3b cZ4))) @wU.eq_1
   · obtain ⟨yZ5,hyZ5,h⟩:=af h
     obtain ⟨hyZ5a,hyZ5b⟩:=ba hyZ5
     obtain ⟨rZ6,hrZ6,h⟩:=af h
     refine ZF (ZA cZ2 (ZA hyZ3a (ZA hyZ3b (ZA cZ4 (ZA hyZ5a hyZ5b))))) ?_
     refine ZS (ZA cZ2 (ZA hyZ3a (ZA hyZ3b (ZA cZ4 (ZA hyZ5a hyZ5b))))) (w_s _ _ hrZ6) ?_
     refine ZG ?_
     obtain ⟨cZ7,h⟩ | ⟨cZ7,h⟩:=ai h
     · cases h
       exact ZL (ZA cZ2 (ZA hyZ3a (ZA hyZ3b (ZA cZ4 (ZA hyZ5a (ZA hyZ5b cZ7)))))) @wU.eq_1
     · cases h
       exact ZL (ZA cZ2 (ZA hyZ3a (ZA hyZ3b (ZA cZ4 (ZA hyZ5a (ZA hyZ5b cZ7)))))) (ZA @S_g.eq_1 @Iw.eq_1)
 · cases h
   exact ZL cZ2 (ZA @S_g.eq_1 @Iw.eq_1)
theorem Po (s1Z0:List Int) (s2Z0:List Int) {r:Int} (h:oy s1Z0 s2Z0=some r):Ok Tryz.prog 116 [.lst .o 1 (s1Z0.map AV.i),.lst .o 1 (s2Z0.map AV.i)] ((fun r=>.i r) r):=by
 refine ay bc m116 rfl ?_
 unfold oy at h
 simp only [ZC,A116,wU,aJ]
 obtain ⟨oZ8,hoZ8,h⟩:=af h
 try refine ZF trivial ?_
 refine bi (o:=oZ8) (br cZ (aF (w_g s1Z0 s2Z0) hoZ8 ?_)) (fun vZ9 hv=>?_) (fun xZ10 hv e τ hne hq=>?_)
 · exact ZK (ZA @S_g.eq_1 @Iw.eq_1)
 · subst hv
   simp only [] at h
   simp only [ZC,Iw,DM]
   obtain ⟨cZ11,h⟩ | ⟨cZ11,h⟩:=ai h
   · cases h
     exact ZL cZ11 @wU.eq_1
   · cases h
     exact ZL cZ11 @wU.eq_1
 · subst hv
   simp only [] at h
   obtain ⟨rfl,qZ12⟩:=hq
   cases h
   exact qZ12
def CA (ringZ0:List Int) (rZ8:List Int×Int×Bool) (v:Int):St:=⟨[(1,.lst .o 1 (ringZ0.map AV.i)),(7,.sl 7 0 rZ8.1.length),(56,.sl 7 0 rZ8.1.length),(57,.i (rZ8.1.length:Int)),(58,.i v)],[(7,.arr 1 (rZ8.1.map AV.i))]⟩
def uD (ringZ0:List Int) (rZ8:List Int×Int×Bool) (v:Unit):St:=⟨[(1,.lst .o 1 (ringZ0.map AV.i)),(7,.sl 7 0 rZ8.1.length)],[(7,.arr 1 (rZ8.1.map AV.i))]⟩
theorem w_aa (ringZ0:List Int) (rZ8:List Int×Int×Bool) (sZ14:Int) (o:Int ⊕ (Unit ⊕ (List Int×Bool))) (h:vN rZ8 sZ14=some o):AWP (OkS Tryz.prog) IG (qL [1,7,56,57,58] [7] (CA ringZ0 rZ8) (qS (qX 0 [1,7] [7] (uD ringZ0 rZ8)) (qR V75 (fun r=>.tup [.lst .u 1 (r.1.map AV.i),.b r.2]))) o) (CA ringZ0 rZ8 sZ14):=by
 unfold vN at h
 simp only [ZC,CA,IG]
 obtain ⟨cZ15,h⟩ | ⟨cZ15,h⟩:=ai h
 · obtain ⟨kZ16,hkZ16,h⟩:=af h
   obtain ⟨hkZ16a,hkZ16b⟩:=aR hkZ16
   obtain ⟨yZ17,hyZ17,h⟩:=af h
   obtain ⟨uZ18,huZ18,h⟩:=af h
   obtain ⟨huZ18a,huZ18b,huZ18c,huZ18d⟩:=aR huZ18
   obtain ⟨lZ19,hlZ19,h⟩:=aQ h
   have eZ20:sub (rZ8.1.map AV.i) 0 (Int.toNat sZ14)=lZ19.map AV.i:=by rw [cA,hlZ19]
   obtain ⟨rZ21,hrZ21,h⟩:=af h
   refine ZF (ZA cZ15 (ZA hkZ16a (ZA hkZ16b (ZA hyZ17 (ZA huZ18a (ZA huZ18b (ZA huZ18c (ZA huZ18d eZ20)))))))) ?_
   refine ZS (ZA cZ15 (ZA hkZ16a (ZA hkZ16b (ZA hyZ17 (ZA huZ18a (ZA huZ18b (ZA huZ18c (ZA huZ18d eZ20)))))))) (w_m _ _ hrZ21) ?_
   refine ZG ?_
   obtain ⟨cZ22,h⟩ | ⟨cZ22,h⟩:=ai h
   · cases h
     exact ZL (ZA cZ15 (ZA hkZ16a (ZA hkZ16b (ZA hyZ17 (ZA huZ18a (ZA huZ18b (ZA huZ18c (ZA huZ18d (ZA eZ20 cZ22))))))))) @V75.eq_1
   · cases h
     exact ZL (ZA cZ15 (ZA hkZ16a (ZA hkZ16b (ZA hyZ17 (ZA huZ18a (ZA huZ18b (ZA huZ18c (ZA huZ18d (ZA eZ20 cZ22))))))))) (ZA @CA.eq_1 @uD.eq_1)
 · cases h
   exact ZL cZ15 (ZA @CA.eq_1 @uD.eq_1)
theorem Gl (nZ0:ae) (ringZ0:List Int) {r:List Int×Bool} (h:qF nZ0 ringZ0=some r):Ok Tryz.prog 75 [.agg [.lst .o 1 (nZ0.Nodes.map AV.z),.lst .o 4 (nZ0.Fibers.map (ah .o))],.lst .o 1 (ringZ0.map AV.i)] ((fun r=>.tup [.lst .u 1 (r.1.map AV.i),.b r.2]) r):=by
 refine ay bc m75 rfl ?_
 unfold qF at h
 simp only [ZC,A75,V75,aJ]
 obtain ⟨oZ4,hoZ4,h⟩:=af h
 try refine ZF trivial ?_
 refine aA (sh:=(fun v=>⟨[(1,.lst .o 1 (ringZ0.map AV.i)),(2,.pt 2 0 0),(26,.b v)],[(2,.var (.agg [.lst .o 1 (nZ0.Nodes.map AV.z),.lst .o 4 (nZ0.Fibers.map (ah .o))]))]⟩)) (s:=oZ4) ?_ ?_
 · replace h:=hoZ4
   obtain ⟨cZ1,h⟩ | ⟨cZ1,h⟩:=ai h
   · cases h
     exact ZL cZ1 trivial
   · obtain ⟨yZ2,hyZ2,h⟩:=af h
     obtain ⟨hyZ2a,hyZ2b⟩:=ba hyZ2
     obtain ⟨rZ3,hrZ3,h⟩:=af h
     refine ZF (ZA cZ1 (ZA hyZ2a hyZ2b)) ?_
     refine ZS (ZA cZ1 (ZA hyZ2a hyZ2b)) (w_q _ _ _ hrZ3) ?_
     refine ZG ?_
     cases h
     exact ZL (ZA cZ1 (ZA hyZ2a hyZ2b)) trivial
 · simp only [ZC,OH]
   obtain ⟨cZ5,h⟩ | ⟨cZ5,h⟩:=ai h
   · cases h
     exact ZL cZ5 @V75.eq_1
   · obtain ⟨yZ6,hyZ6,h⟩:=af h
     obtain ⟨hyZ6a,hyZ6b⟩:=ba hyZ6
     obtain ⟨yZ7,hyZ7,h⟩:=af h
     obtain ⟨hyZ7a,hyZ7b⟩:=ba hyZ7
     obtain ⟨rZ8,hrZ8,h⟩:=af h
     refine ZF (ZA cZ5 (ZA hyZ6a (ZA hyZ6b (ZA hyZ7a hyZ7b)))) ?_
     refine ZU (ZA cZ5 (ZA hyZ6a (ZA hyZ6b (ZA hyZ7a hyZ7b)))) (w_di _ _ _ hrZ8) ?_
     refine ZG ?_
     obtain ⟨oZ12,hoZ12,h⟩:=af h
     try refine ZF (ZA cZ5 (ZA hyZ6a (ZA hyZ6b (ZA hyZ7a hyZ7b)))) ?_
     refine aA (sh:=(fun v=>⟨[(1,.lst .o 1 (ringZ0.map AV.i)),(7,.sl 7 0 rZ8.1.length),(55,.b v)],[(7,.arr 1 (rZ8.1.map AV.i))]⟩)) (s:=oZ12) ?_ ?_
     · replace h:=hoZ12
       obtain ⟨cZ9,h⟩ | ⟨cZ9,h⟩:=ai h
       · cases h
         exact ZL (ZA cZ5 (ZA hyZ6a (ZA hyZ6b (ZA hyZ7a (ZA hyZ7b cZ9))))) trivial
       · obtain ⟨cZ10,h⟩ | ⟨cZ10,h⟩:=ai h
         · cases h
           exact ZL (ZA cZ5 (ZA hyZ6a (ZA hyZ6b (ZA hyZ7a (ZA hyZ7b (ZA cZ9 cZ10)))))) trivial
         · obtain ⟨rZ11,hrZ11,h⟩:=af h
           refine ZF (ZA cZ5 (ZA hyZ6a (ZA hyZ6b (ZA hyZ7a (ZA hyZ7b (ZA cZ9 cZ10)))))) ?_
           refine ZS (ZA cZ5 (ZA hyZ6a (ZA hyZ6b (ZA hyZ7a (ZA hyZ7b (ZA cZ9 cZ10)))))) (w_dj _ hrZ11) ?_
           refine ZG ?_
           cases h
           exact ZL (ZA cZ5 (ZA hyZ6a (ZA hyZ6b (ZA hyZ7a (ZA hyZ7b (ZA cZ9 cZ10)))))) trivial
     · simp only [ZC,Oo]
       obtain ⟨cZ13,h⟩ | ⟨cZ13,h⟩:=ai h
       · cases h
         exact ZL (ZA cZ5 (ZA hyZ6a (ZA hyZ6b (ZA hyZ7a (ZA hyZ7b cZ13))))) @V75.eq_1
       · obtain ⟨oZ23,hoZ23,h⟩:=af h
         try refine ZF (ZA cZ5 (ZA hyZ6a (ZA hyZ6b (ZA hyZ7a (ZA hyZ7b cZ13))))) ?_
         refine bi (o:=oZ23) (br cZ (aF (w_aa ringZ0 rZ8) hoZ23 ?_)) (fun vZ24 hv=>?_) (fun xZ25 hv e τ hne hq=>?_)
         · exact ZK (ZA @CA.eq_1 @uD.eq_1)
         · subst hv
           simp only [] at h
           simp only [ZC,uD,OL]
           obtain ⟨rZ26,hrZ26,h⟩:=af h
           refine ZF (ZA cZ5 (ZA hyZ6a (ZA hyZ6b (ZA hyZ7a (ZA hyZ7b cZ13))))) ?_
           refine ZU (ZA cZ5 (ZA hyZ6a (ZA hyZ6b (ZA hyZ7a (ZA hyZ7b cZ13))))) (w_cl _ hrZ26) ?_
           refine ZG ?_
           obtain ⟨rZ27,hrZ27,h⟩:=af h
           refine ZF (ZA cZ5 (ZA hyZ6a (ZA hyZ6b (ZA hyZ7a (ZA hyZ7b cZ13))))) ?_
           refine ZW (ZA cZ5 (ZA hyZ6a (ZA hyZ6b (ZA hyZ7a (ZA hyZ7b cZ13))))) (w_dk _ hrZ27) (h2:=by first | exact bA [1000000000] rfl (by decide +kernel) | exact be [1000000000] [] rfl (by decide +kernel) ZQ | exact ZQ) (hk:=?_)
           refine ZG ?_
           obtain ⟨lZ28,hlZ28,h⟩:=aQ h
           have eZ29:sub (rZ27.map AV.i) 0 rZ26.length=lZ28.map AV.i:=by rw [cA,hlZ28]
           obtain ⟨rZ30,hrZ30,h⟩:=af h
           refine ZF (ZA cZ5 (ZA hyZ6a (ZA hyZ6b (ZA hyZ7a (ZA hyZ7b (ZA cZ13 eZ29)))))) ?_
           refine ZS (ZA cZ5 (ZA hyZ6a (ZA hyZ6b (ZA hyZ7a (ZA hyZ7b (ZA cZ13 eZ29)))))) (Po _ _ hrZ30) ?_
           refine ZG ?_
           cases h
           exact ZL (ZA cZ5 (ZA hyZ6a (ZA hyZ6b (ZA hyZ7a (ZA hyZ7b (ZA cZ13 eZ29)))))) @V75.eq_1
         · subst hv
           simp only [] at h
           obtain ⟨rfl,qZ31⟩:=hq
           cases h
           exact qZ31
theorem w_dl (nZ0:ae) (ringZ0:List Int) {r:List Int×Bool} (h:Df nZ0 ringZ0=some r):Ok Tryz.prog 88 [.agg [.lst .o 1 (nZ0.Nodes.map AV.z),.lst .o 4 (nZ0.Fibers.map (ah .o))],.lst .o 1 (ringZ0.map AV.i)] ((fun r=>.tup [.lst .u 1 (r.1.map AV.i),.b r.2]) r):=by
 refine ay bc m88 rfl ?_
 unfold Df at h
 simp only [ZC,A88,V88,aJ]
 obtain ⟨rZ1,hrZ1,h⟩:=af h
 refine ZF trivial ?_
 refine ZS trivial (Qp _ hrZ1) ?_
 refine ZG ?_
 obtain ⟨cZ2,h⟩ | ⟨cZ2,h⟩:=ai h
 · cases h
   exact ZL cZ2 @V88.eq_1
 · obtain ⟨rZ3,hrZ3,h⟩:=af h
   refine ZF cZ2 ?_
   refine ZU cZ2 (Gl _ _ hrZ3) ?_
   refine ZG ?_
   obtain ⟨cZ4,h⟩ | ⟨cZ4,h⟩:=ai h
   · cases h
     exact ZL (ZA cZ2 cZ4) @V88.eq_1
   · cases h
     exact ZL (ZA cZ2 cZ4) @V88.eq_1
theorem LI (nZ0:ae) (ringZ0:List Int) {r:Bool} (h:uG nZ0 ringZ0=some r):Ok Tryz.prog 40 [.agg [.lst .o 1 (nZ0.Nodes.map AV.z),.lst .o 4 (nZ0.Fibers.map (ah .o))],.lst .o 1 (ringZ0.map AV.i)] ((fun r=>.b r) r):=by
 refine ay bc m40 rfl ?_
 unfold uG at h
 simp only [ZC,A40,V40,aJ]
 obtain ⟨rZ1,hrZ1,h⟩:=af h
 refine ZF trivial ?_
 refine ZU trivial (w_dl _ _ hrZ1) ?_
 refine ZG ?_
 cases h
 exact ZL trivial @V40.eq_1
theorem w_bf (aaZ0:au) (abZ0:Int) {r:Bool×Int} (h:jH aaZ0 abZ0=some r):OkM Tryz.prog 78 [.agg [.i ((aaZ0).Start),.lst .s 1 (((aaZ0).Fibers).map AV.i)],.pt 1000000000 0 0] [(1000000000,.var (.i abZ0))] ((fun (r:Bool×Int)=>.b r.1) r) ((fun (r:Bool×Int)=>[(1000000000,.var (.i r.2))]) r):=by
 refine bl (lr:=[1000000000]) bc RP rfl rfl ?_
 unfold jH at h
 simp only [ZC,NF,Gn]
 obtain ⟨rZ1,hrZ1,h⟩:=af h
 refine ZF trivial ?_
 refine ZS trivial (w_m _ _ hrZ1) ?_
 refine ZG ?_
 cases h
 exact ZL trivial @Gn.eq_1
def BI {H:World→Prop} (aaZ0:List (Tok H aw 2)) (v:Int×Int):St:=⟨[(0,.sl 1000000000 0 aaZ0.length),(1,.fn 78 [.pt 1000000001 0 0]),(7,.i (aaZ0.length:Int)),(8,.i v.1)],[(1000000000,.arr 2 (aaZ0.map bb)),(1000000001,.var (.i v.2))]⟩
def sw {H:World→Prop} (aaZ0:List (Tok H aw 2)) (v:Int):St:=⟨[],[(1000000000,.arr 2 (aaZ0.map bb)),(1000000001,.var (.i v))]⟩
theorem w_bd {H:World→Prop} (aaZ0:List (Tok H aw 2)) (sZ1:Int×Int) (o:(Int×Int) ⊕ (Int ⊕ (Int×List (Tok H aw 2)×Int))) (h:Ee Tok.x eJ aaZ0 sZ1=some o):AWP (OkT H Tryz.prog) nO (qL [0,1,7,8] [1000000000,1000000001] (BI aaZ0) (qS (qX 0 [] [1000000000,1000000001] (sw aaZ0)) (qM oe [1000000000,1000000001] (fun (r:Int×List (Tok H aw 2)×Int)=>.i r.1) (fun (r:Int×List (Tok H aw 2)×Int)=>[(1000000000,.arr 2 (r.2.1.map bb)),(1000000001,.var (.i r.2.2))]))) o) (BI aaZ0 sZ1):=by
 unfold Ee at h
 simp only [ZC,BI,nO]
 obtain ⟨cZ2,h⟩ | ⟨cZ2,h⟩:=ai h
 · obtain ⟨kZ3,hkZ3,h⟩:=af h
   obtain ⟨hkZ3a,hkZ3b⟩:=aR hkZ3
   obtain ⟨yZ4,hyZ4,h⟩:=af h
   obtain ⟨rZ5,hrZ5,h⟩:=af h
   refine ZF (ZA eR (ZA eV (ZA cZ2 (ZA hkZ3a (ZA hkZ3b hyZ4))))) ?_
   refine ZW (ZA eR (ZA eV (ZA cZ2 (ZA hkZ3a (ZA hkZ3b hyZ4))))) (vb yZ4 (w_bf _ _ hrZ5)) (h2:=by first | exact bA [1000000000] rfl (by decide +kernel) | exact be [1000000000] [] rfl (by decide +kernel) ZQ | exact ZQ) (hk:=?_)
   refine ZG ?_
   obtain ⟨cZ6,h⟩ | ⟨cZ6,h⟩:=ai h
   · cases h
     exact ZL (ZA eR (ZA eV (ZA cZ2 (ZA hkZ3a (ZA hkZ3b (ZA hyZ4 cZ6)))))) @oe.eq_1
   · cases h
     exact ZL (ZA eR (ZA eV (ZA cZ2 (ZA hkZ3a (ZA hkZ3b (ZA hyZ4 cZ6)))))) (ZA @BI.eq_1 @sw.eq_1)
 · cases h
   exact ZL (ZA eR (ZA eV cZ2)) (ZA @BI.eq_1 @sw.eq_1)
theorem w_cm {H:World→Prop} (aaZ0:List (Tok H aw 2)) (abZ0:Int) {r:Int×List (Tok H aw 2)×Int} (h:vd Tok.x eJ aaZ0 abZ0=some r):rK H Tryz.prog 117 [.sl 1000000000 0 aaZ0.length,.fn 78 [.pt 1000000001 0 0]] [(1000000000,.arr 2 (aaZ0.map bb)),(1000000001,.var (.i abZ0))] ((fun (r:Int×List (Tok H aw 2)×Int)=>.i r.1) r) ((fun (r:Int×List (Tok H aw 2)×Int)=>[(1000000000,.arr 2 (r.2.1.map bb)),(1000000001,.var (.i r.2.2))]) r):=by
 refine gW (lr:=[1000000000,1000000001]) bc Pr rfl rfl ?_
 unfold vd at h
 simp only [ZC,Ez,oe]
 obtain ⟨oZ7,hoZ7,h⟩:=af h
 try refine ZF (ZA eR eV) ?_
 refine bi (o:=oZ7) (br Ig (aF (w_bd aaZ0) hoZ7 ?_)) (fun vZ8 hv=>?_) (fun xZ9 hv e τ hne hq=>?_)
 · exact ZK (ZA @BI.eq_1 @sw.eq_1)
 · subst hv
   simp only [] at h
   simp only [ZC,sw,si]
   cases h
   exact ZL (ZA eR eV) @oe.eq_1
 · subst hv
   simp only [] at h
   obtain ⟨rfl,qZ10⟩:=hq
   cases h
   exact qZ10
def wS {H:World→Prop} (aaZ0:List (Tok H aw 2)) (v:Int×Int×List (Tok H aw 2)×Int):St:=⟨[(0,.sl 1000000000 0 aaZ0.length),(1,.fn 78 [.pt 1000000001 0 0]),(5,.i v.1),(6,.i v.2.1)],[(1000000000,.arr 2 (v.2.2.1.map bb)),(1000000001,.var (.i v.2.2.2))]⟩
def qq {H:World→Prop} (aaZ0:List (Tok H aw 2)) (v:Int×List (Tok H aw 2)×Int):St:=⟨[(0,.sl 1000000000 0 aaZ0.length),(5,.i v.1)],[(1000000000,.arr 2 (v.2.1.map bb)),(1000000001,.var (.i v.2.2))]⟩
theorem w_ab {H:World→Prop} (aaZ0:List (Tok H aw 2)) (sZ3:Int×Int×List (Tok H aw 2)×Int) (o:(Int×Int×List (Tok H aw 2)×Int) ⊕ (Int×List (Tok H aw 2)×Int)) (h:ET Tok.x eJ aaZ0 sZ3=some o):AWP (OkT H Tryz.prog) qH (qL [0,1,5,6] [1000000000,1000000001] (wS aaZ0) (qX 0 [0,5] [1000000000,1000000001] (qq aaZ0)) o) (wS aaZ0 sZ3):=by
 unfold ET at h
 simp only [ZC,wS,qH]
 obtain ⟨cZ4,h⟩ | ⟨cZ4,h⟩:=ai h
 · obtain ⟨kZ5,hkZ5,h⟩:=af h
   obtain ⟨hkZ5a,hkZ5b⟩:=aR hkZ5
   obtain ⟨yZ6,hyZ6,h⟩:=af h
   obtain ⟨rZ7,hrZ7,h⟩:=af h
   refine ZF (ZA eR (ZA eV (ZA cZ4 (ZA hkZ5a (ZA hkZ5b hyZ6))))) ?_
   refine ZW (ZA eR (ZA eV (ZA cZ4 (ZA hkZ5a (ZA hkZ5b hyZ6))))) (vb yZ6 (w_bf _ _ hrZ7)) (h2:=by first | exact bA [1000000000] rfl (by decide +kernel) | exact be [1000000000] [] rfl (by decide +kernel) ZQ | exact ZQ) (hk:=?_)
   refine ZG ?_
   obtain ⟨cZ8,h⟩ | ⟨cZ8,h⟩:=ai h
   · obtain ⟨kZ9,hkZ9,h⟩:=af h
     obtain ⟨hkZ9a,hkZ9b⟩:=aR hkZ9
     obtain ⟨yZ10,hyZ10,h⟩:=af h
     obtain ⟨lZ11,hlZ11,h⟩:=aQ h
     have eZ12:(sZ3.2.2.1.map bb).set (Int.toNat sZ3.1) ((bb yZ6))=lZ11.map bb:=by rw [← hlZ11,List.map_set]
     cases h
     exact ZL (ZA eR (ZA eV (ZA cZ4 (ZA hkZ5a (ZA hkZ5b (ZA hyZ6 (ZA cZ8 (ZA hkZ9a (ZA hkZ9b (ZA hyZ10 eZ12)))))))))) (ZA @wS.eq_1 (ZA @qq.eq_1 hlZ11.symm))
   · cases h
     exact ZL (ZA eR (ZA eV (ZA cZ4 (ZA hkZ5a (ZA hkZ5b (ZA hyZ6 cZ8)))))) (ZA @wS.eq_1 @qq.eq_1)
 · cases h
   exact ZL (ZA eR (ZA eV cZ4)) (ZA @wS.eq_1 @qq.eq_1)
theorem w_bw {H:World→Prop} (aaZ0:List (Tok H aw 2)) (abZ0:Int) {r:Nat×Nat×List (Tok H aw 2)×Int} (h:pc Tok.x eJ aaZ0 abZ0=some r):rK H Tryz.prog 77 [.sl 1000000000 0 aaZ0.length,.fn 78 [.pt 1000000001 0 0]] [(1000000000,.arr 2 (aaZ0.map bb)),(1000000001,.var (.i abZ0))] ((fun (r:Nat×Nat×List (Tok H aw 2)×Int)=>.sl 1000000000 r.1 r.2.1) r) ((fun (r:Nat×Nat×List (Tok H aw 2)×Int)=>[(1000000000,.arr 2 (r.2.2.1.map bb)),(1000000001,.var (.i r.2.2.2))]) r):=by
 refine gW (lr:=[1000000000,1000000001]) bc Sp rfl rfl ?_
 unfold pc at h
 simp only [ZC,OE,xU]
 obtain ⟨rZ1,hrZ1,h⟩:=af h
 refine ZF (ZA eR eV) ?_
 refine ZW (ZA eR eV) (w_cm _ _ hrZ1) (h2:=by first | exact bA [1000000000,1000000001] rfl (by decide +kernel) | exact be [1000000000,1000000001] [] rfl (by decide +kernel) ZQ | exact ZQ) (hk:=?_)
 refine ZG ?_
 obtain ⟨cZ2,h⟩ | ⟨cZ2,h⟩:=ai h
 · cases h
   exact ZL (ZA eR (ZA eV cZ2)) @xU.eq_1
 · obtain ⟨oZ13,hoZ13,h⟩:=af h
   try refine ZF (ZA eR (ZA eV cZ2)) ?_
   refine aA (bf (aF (w_ab aaZ0) hoZ13 ?_)) ?_
   · exact ZK (ZA @wS.eq_1 @qq.eq_1)
   · simp only [ZC,qq,yA]
     obtain ⟨uZ14,huZ14,h⟩:=af h
     obtain ⟨huZ14a,huZ14b,huZ14c,huZ14d⟩:=aR huZ14
     obtain ⟨lZ15,hlZ15,h⟩:=aQ h
     have eZ16:cG (oZ13.2.1.map bb) (Int.toNat oZ13.1) (List.replicate (aaZ0.length - (Int.toNat oZ13.1)) (.agg [.i 0,.sc (.slice none 0 0)]:AV))=lZ15.map bb:=by rw [← hlZ15,← Ey] <;> simp [List.map_take,tr]
     try simp only [Int.toNat_natCast] at eZ16
     have eZ17:lZ15.length=oZ13.2.1.length:=by rw [← hlZ15]; exact jc _ _ _
     obtain ⟨uZ18,huZ18,h⟩:=af h
     obtain ⟨huZ18a,huZ18b,huZ18c,huZ18d⟩:=aR huZ18
     cases h
     exact ZL (ZA eR (ZA eV (ZA cZ2 (ZA huZ14a (ZA huZ14b (ZA huZ14c (ZA huZ14d (ZA eZ16 (ZA huZ18a (ZA huZ18b (ZA huZ18c huZ18d))))))))))) (ZA @xU.eq_1 eZ17)
theorem w_eo (aaZ0:List au) (abZ0:Int) {r:Nat×Nat×List au×Int} (h:pc id (⟨0,[]⟩:au) aaZ0 abZ0=some r):OkM Tryz.prog 77 [.sl 1000000000 0 aaZ0.length,.fn 78 [.pt 1000000001 0 0]] [(1000000000,.arr 2 (aaZ0.map (aw .u))),(1000000001,.var (.i abZ0))] ((fun (r:Nat×Nat×List au×Int)=>.sl 1000000000 r.1 r.2.1) r) ((fun (r:Nat×Nat×List au×Int)=>[(1000000000,.arr 2 (r.2.2.1.map (aw .u))),(1000000001,.var (.i r.2.2.2))]) r):=by
 refine IX (E:=aw) (k:=2) (R:=1000000000) (R':=1000000000) (xs:=aaZ0) (ys:=r.2.2.1) (ins:=[(1000000000,.arr 2 (aaZ0.map (aw .u))),(1000000001,.var (.i abZ0))]) (outsR:=(fun (r:Nat×Nat×List au×Int)=>[(1000000000,.arr 2 (r.2.2.1.map (aw .u))),(1000000001,.var (.i r.2.2.2))]) r) (fun x=>⟨_,rfl,rfl⟩) (by decide) (fun w S B v x fp h B'=>Bl x ▸ h.shs B') rfl (fun _ _=>rfl) rfl (fun _ _=>rfl) (Kk (by simp [Row.flatU,AV.noU])) fun H XZ0 hX=>?_
 subst hX
 obtain ⟨YZ0,h1,h2,h3⟩:=fy XZ0 abZ0 h
 have hw:=w_bw XZ0 abZ0 h1
 try simp only [List.length_map]
 exact ⟨YZ0,_,_,h2,h3,rfl,fun q hq=>by simp only [aq,if_neg (Ne.symm hq)],rfl,fun q hq=>by simp only [aq,if_neg (Ne.symm hq)],hw⟩
def CV (nZ0:ae) (rZ0:au) (v:Int×Int):St:=⟨[(2,.pt 2 0 0),(5,.i v.1),(9,.lst .o 1 (rZ0.Fibers.map AV.i)),(10,.i (rZ0.Fibers.length:Int)),(11,.i v.2)],[(2,.var (.agg [.lst .o 1 (nZ0.Nodes.map AV.z),.lst .o 4 (nZ0.Fibers.map (ah .o))]))]⟩
def sK (v:Int):St:=⟨[(5,.i v)],[]⟩
theorem w_av (nZ0:ae) (rZ0:au) (sZ1:Int×Int) (o:(Int×Int) ⊕ Int) (h:zc nZ0 rZ0 sZ1=some o):AWP (OkS Tryz.prog) vM (qL [2,5,9,10,11] [2] (CV nZ0 rZ0) (qX 0 [5] [] (sK)) o) (CV nZ0 rZ0 sZ1):=by
 unfold zc at h
 simp only [ZC,CV,vM]
 obtain ⟨cZ2,h⟩ | ⟨cZ2,h⟩:=ai h
 · obtain ⟨yZ3,hyZ3,h⟩:=af h
   obtain ⟨hyZ3a,hyZ3b⟩:=ba hyZ3
   obtain ⟨yZ4,hyZ4,h⟩:=af h
   obtain ⟨hyZ4a,hyZ4b⟩:=ba hyZ4
   cases h
   exact ZL (ZA cZ2 (ZA hyZ3a (ZA hyZ3b (ZA hyZ4a hyZ4b)))) (ZA @CV.eq_1 @sK.eq_1)
 · cases h
   exact ZL cZ2 (ZA @CV.eq_1 @sK.eq_1)
theorem w_cc (nZ0:ae) (rZ0:au) {r:Int} (h:xe nZ0 rZ0=some r):Ok Tryz.prog 122 [.agg [.lst .o 1 (nZ0.Nodes.map AV.z),.lst .o 4 (nZ0.Fibers.map (ah .o))],.agg [.i rZ0.Start,.lst .o 1 (rZ0.Fibers.map AV.i)]] ((fun r=>.i r) r):=by
 refine ay bc m122 rfl ?_
 unfold xe at h
 simp only [ZC,A122,Pv,aJ]
 obtain ⟨oZ5,hoZ5,h⟩:=af h
 try refine ZF trivial ?_
 refine aA (bf (aF (w_av nZ0 rZ0) hoZ5 ?_)) ?_
 · exact ZK (ZA @CV.eq_1 @sK.eq_1)
 · simp only [ZC,sK,Jo]
   cases h
   exact ZL trivial @Pv.eq_1
theorem w_dm (nZ0:ae) (aZ0:au) (bZ0:au) {r:Int} (h:HE nZ0 aZ0 bZ0=some r):Ok Tryz.prog 82 [.agg [.lst .o 1 (nZ0.Nodes.map AV.z),.lst .o 4 (nZ0.Fibers.map (ah .o))],.agg [.i aZ0.Start,.lst .o 1 (aZ0.Fibers.map AV.i)],.agg [.i bZ0.Start,.lst .o 1 (bZ0.Fibers.map AV.i)]] ((fun r=>.i r) r):=by
 refine ay bc m82 rfl ?_
 unfold HE at h
 simp only [ZC,A82,V82,aJ]
 obtain ⟨rZ1,hrZ1,h⟩:=af h
 refine ZF trivial ?_
 refine ZS trivial (w_cc _ _ hrZ1) ?_
 refine ZG ?_
 obtain ⟨rZ2,hrZ2,h⟩:=af h
 refine ZF trivial ?_
 refine ZS trivial (w_cc _ _ hrZ2) ?_
 refine ZG ?_
 obtain ⟨rZ3,hrZ3,h⟩:=af h
 refine ZF trivial ?_
 refine ZS trivial (w_s _ _ hrZ3) ?_
 refine ZG ?_
 obtain ⟨rZ4,hrZ4,h⟩:=af h
 refine ZF trivial ?_
 refine ZS trivial (w_s _ _ hrZ4) ?_
 refine ZG ?_
 obtain ⟨rZ5,hrZ5,h⟩:=af h
 refine ZF trivial ?_
 refine ZS trivial (Po _ _ hrZ5) ?_
 refine ZG ?_
 obtain ⟨rZ6,hrZ6,h⟩:=af h
 refine ZF trivial ?_
 refine ZS trivial (w_s _ _ hrZ6) ?_
 refine ZG ?_
 obtain ⟨lZ7,hlZ7,h⟩:=aQ h
 have eZ8:Row.arr 1 [(.i rZ3:AV),(.i rZ4:AV),(.i rZ5:AV),(.i rZ6:AV)]=Row.arr 1 (lZ7.map AV.i):=by rw [← hlZ7]; rfl
 have jjZ9:lZ7.length=4:=by rw [← hlZ7]; rfl
 have nZ10:sub (lZ7.map AV.i) 0 4=lZ7.map AV.i:=yP _ (by simp [← hlZ7])
 obtain ⟨rZ11,hrZ11,h⟩:=af h
 refine ZF (ZA eZ8 (ZA jjZ9 nZ10)) ?_
 refine ZS (ZA eZ8 (ZA jjZ9 nZ10)) (Pg _ hrZ11) ?_
 refine ZG ?_
 cases h
 exact ZL (ZA eZ8 (ZA jjZ9 nZ10)) (ZA @V82.eq_1 (ZA hlZ7.symm jjZ9))
theorem w_cn (aZ0:au) (bZ0:au) (p2Z0:ae) {r:Int} (h:ws aZ0 bZ0 p2Z0=some r):Ok Tryz.prog 81 [.agg [.i aZ0.Start,.lst .o 1 (aZ0.Fibers.map AV.i)],.agg [.i bZ0.Start,.lst .o 1 (bZ0.Fibers.map AV.i)],.bp .o (.agg [.lst .o 1 (p2Z0.Nodes.map AV.z),.lst .o 4 (p2Z0.Fibers.map (ah .o))]) 0] ((fun r=>.i r) r):=by
 refine ay bc m81 rfl ?_
 unfold ws at h
 simp only [ZC,A81,V81,aJ]
 obtain ⟨rZ1,hrZ1,h⟩:=af h
 refine ZF trivial ?_
 refine ZS trivial (w_dm _ _ _ hrZ1) ?_
 refine ZG ?_
 cases h
 exact ZL trivial @V81.eq_1
def AK (nZ0:ae) (ringZ0:List Int) (fiberZ0:Int) (yZ7:ar) (rZ8:Int) (rZ9:Int) (v:Int×List Int):St:=⟨[(1,.lst .o 1 (ringZ0.map AV.i)),(3,.pt 3 0 0),(5,.pt 5 0 0),(11,.i (ringZ0.length:Int)),(12,.i rZ8),(13,.i rZ9),(14,.pt 14 0 0),(15,.pt 15 0 0),(16,.i v.1)],[(3,.var (.agg [.lst .o 1 (nZ0.Nodes.map AV.z),.lst .o 4 (nZ0.Fibers.map (ah .o))])),(5,.var (.i fiberZ0)),(14,.var (.agg [.i yZ7.A,.sl 500000897 0 v.2.length])),(15,.var (.agg [.i yZ7.A,.sl 500000961 0 0])),(500000897,.arr 1 (v.2.map AV.i)),(500000961,.arr 1 [])]⟩
def sV (nZ0:ae) (ringZ0:List Int) (fiberZ0:Int) (yZ7:ar) (rZ8:Int) (rZ9:Int) (v:List Int):St:=⟨[(1,.lst .o 1 (ringZ0.map AV.i)),(3,.pt 3 0 0),(5,.pt 5 0 0),(11,.i (ringZ0.length:Int)),(12,.i rZ8),(13,.i rZ9),(14,.pt 14 0 0),(15,.pt 15 0 0)],[(3,.var (.agg [.lst .o 1 (nZ0.Nodes.map AV.z),.lst .o 4 (nZ0.Fibers.map (ah .o))])),(5,.var (.i fiberZ0)),(14,.var (.agg [.i yZ7.A,.sl 500000897 0 v.length])),(15,.var (.agg [.i yZ7.A,.sl 500000961 0 0])),(500000897,.arr 1 (v.map AV.i)),(500000961,.arr 1 [])]⟩
theorem w_ac (nZ0:ae) (ringZ0:List Int) (fiberZ0:Int) (yZ7:ar) (rZ8:Int) (rZ9:Int) (sZ13:Int×List Int) (o:(Int×List Int) ⊕ (List Int)) (h:vz ringZ0 rZ9 sZ13=some o):AWP (OkS Tryz.prog) Jt (qL [1,3,5,11,12,13,14,15,16] [3,5,14,15,500000897,500000961] (AK nZ0 ringZ0 fiberZ0 yZ7 rZ8 rZ9) (qX 0 [1,3,5,11,12,13,14,15] [3,5,14,15,500000897,500000961] (sV nZ0 ringZ0 fiberZ0 yZ7 rZ8 rZ9)) o) (AK nZ0 ringZ0 fiberZ0 yZ7 rZ8 rZ9 sZ13):=by
 unfold vz at h
 simp only [ZC,AK,Jt]
 obtain ⟨cZ14,h⟩ | ⟨cZ14,h⟩:=ai h
 · obtain ⟨yZ15,hyZ15,h⟩:=af h
   obtain ⟨hyZ15a,hyZ15b⟩:=ba hyZ15
   obtain ⟨lZ16,hlZ16,h⟩:=aQ h
   have eZ17:Row.arr 1 [(.i yZ15:AV)]=Row.arr 1 (lZ16.map AV.i):=by rw [← hlZ16]; rfl
   have jjZ18:lZ16.length=1:=by rw [← hlZ16]; rfl
   obtain ⟨uZ19,huZ19,h⟩:=af h
   have huZ19g:=aR huZ19
   obtain ⟨lZ20,hlZ20,h⟩:=aQ h
   have eZ21:sZ13.2.map AV.i++lZ16.map AV.i=lZ20.map AV.i:=by rw [← hlZ20,List.map_append]
   have eZ22:sZ13.2.length+1=lZ20.length:=by simp [← hlZ16,← hlZ20] <;> omega
   rw [eZ22] at huZ19g
   obtain ⟨uZ23,huZ23,h⟩:=af h
   have huZ23g:=aR huZ23
   cases h
   exact ZL (ZA cZ14 (ZA hyZ15a (ZA hyZ15b (ZA eZ17 (ZA jjZ18 (ZA huZ19g (ZA eZ21 (ZA eZ22 huZ23g)))))))) (ZA @AK.eq_1 (ZA @sV.eq_1 (ZA hlZ16.symm (ZA hlZ20.symm jjZ18))))
 · cases h
   exact ZL cZ14 (ZA @AK.eq_1 @sV.eq_1)
def BV (nZ0:ae) (ringZ0:List Int) (fiberZ0:Int) (yZ7:ar) (rZ9:Int) (oZ24:List Int) (v:Int×List Int):St:=⟨[(1,.lst .o 1 (ringZ0.map AV.i)),(3,.pt 3 0 0),(5,.pt 5 0 0),(11,.i (ringZ0.length:Int)),(13,.i rZ9),(14,.pt 14 0 0),(15,.pt 15 0 0),(17,.i v.1)],[(3,.var (.agg [.lst .o 1 (nZ0.Nodes.map AV.z),.lst .o 4 (nZ0.Fibers.map (ah .o))])),(5,.var (.i fiberZ0)),(14,.var (.agg [.i yZ7.A,.sl 500000897 0 oZ24.length])),(15,.var (.agg [.i yZ7.A,.sl 500000961 0 v.2.length])),(500000897,.arr 1 (oZ24.map AV.i)),(500000961,.arr 1 (v.2.map AV.i))]⟩
def tG (nZ0:ae) (fiberZ0:Int) (yZ7:ar) (oZ24:List Int) (v:List Int):St:=⟨[(3,.pt 3 0 0),(5,.pt 5 0 0),(14,.pt 14 0 0),(15,.pt 15 0 0)],[(3,.var (.agg [.lst .o 1 (nZ0.Nodes.map AV.z),.lst .o 4 (nZ0.Fibers.map (ah .o))])),(5,.var (.i fiberZ0)),(14,.var (.agg [.i yZ7.A,.sl 500000897 0 oZ24.length])),(15,.var (.agg [.i yZ7.A,.sl 500000961 0 v.length])),(500000897,.arr 1 (oZ24.map AV.i)),(500000961,.arr 1 (v.map AV.i))]⟩
theorem w_ad (nZ0:ae) (ringZ0:List Int) (fiberZ0:Int) (yZ7:ar) (rZ9:Int) (oZ24:List Int) (sZ25:Int×List Int) (o:(Int×List Int) ⊕ (List Int)) (h:vT ringZ0 rZ9 sZ25=some o):AWP (OkS Tryz.prog) FO (qL [1,3,5,11,13,14,15,17] [3,5,14,15,500000897,500000961] (BV nZ0 ringZ0 fiberZ0 yZ7 rZ9 oZ24) (qX 2 [3,5,14,15] [3,5,14,15,500000897,500000961] (tG nZ0 fiberZ0 yZ7 oZ24)) o) (BV nZ0 ringZ0 fiberZ0 yZ7 rZ9 oZ24 sZ25):=by
 unfold vT at h
 simp only [ZC,BV,FO]
 obtain ⟨cZ26,h⟩ | ⟨cZ26,h⟩:=ai h
 · obtain ⟨uZ27,huZ27,h⟩:=af h
   have huZ27g:=aR huZ27
   obtain ⟨yZ28,hyZ28,h⟩:=af h
   obtain ⟨hyZ28a,hyZ28b⟩:=ba hyZ28
   obtain ⟨lZ29,hlZ29,h⟩:=aQ h
   have eZ30:Row.arr 1 [(.i yZ28:AV)]=Row.arr 1 (lZ29.map AV.i):=by rw [← hlZ29]; rfl
   have jjZ31:lZ29.length=1:=by rw [← hlZ29]; rfl
   obtain ⟨uZ32,huZ32,h⟩:=af h
   have huZ32g:=aR huZ32
   obtain ⟨lZ33,hlZ33,h⟩:=aQ h
   have eZ34:sZ25.2.map AV.i++lZ29.map AV.i=lZ33.map AV.i:=by rw [← hlZ33,List.map_append]
   have eZ35:sZ25.2.length+1=lZ33.length:=by simp [← hlZ29,← hlZ33] <;> omega
   rw [eZ35] at huZ32g
   obtain ⟨uZ36,huZ36,h⟩:=af h
   have huZ36g:=aR huZ36
   cases h
   exact ZL (ZA cZ26 (ZA huZ27g (ZA hyZ28a (ZA hyZ28b (ZA eZ30 (ZA jjZ31 (ZA huZ32g (ZA eZ34 (ZA eZ35 huZ36g))))))))) (ZA @BV.eq_1 (ZA @tG.eq_1 (ZA hlZ29.symm (ZA hlZ33.symm jjZ31))))
 · cases h
   exact ZL cZ26 (ZA @BV.eq_1 @tG.eq_1)
theorem w_dn (nZ0:ae) (ringZ0:List Int) (fiberZ0:Int) {r:List au×Bool} (h:EP nZ0 ringZ0 fiberZ0=some r):Ok Tryz.prog 37 [.agg [.lst .o 1 (nZ0.Nodes.map AV.z),.lst .o 4 (nZ0.Fibers.map (ah .o))],.lst .o 1 (ringZ0.map AV.i),.i fiberZ0] ((fun r=>.tup [.lst .u 2 (r.1.map (aw .u)),.b r.2]) r):=by
 refine ay bc m37 rfl ?_
 unfold EP at h
 simp only [ZC,A37,V37,aJ]
 obtain ⟨oZ4,hoZ4,h⟩:=af h
 try refine ZF trivial ?_
 refine aA (sh:=(fun v=>⟨[(1,.lst .o 1 (ringZ0.map AV.i)),(3,.pt 3 0 0),(5,.pt 5 0 0),(31,.b v)],[(3,.var (.agg [.lst .o 1 (nZ0.Nodes.map AV.z),.lst .o 4 (nZ0.Fibers.map (ah .o))])),(5,.var (.i fiberZ0))]⟩)) (s:=oZ4) ?_ ?_
 · replace h:=hoZ4
   obtain ⟨rZ1,hrZ1,h⟩:=af h
   refine ZF trivial ?_
   refine ZS trivial (LI _ _ hrZ1) ?_
   refine ZG ?_
   obtain ⟨cZ2,h⟩ | ⟨cZ2,h⟩:=ai h
   · cases h
     exact ZL cZ2 trivial
   · obtain ⟨rZ3,hrZ3,h⟩:=af h
     refine ZF cZ2 ?_
     refine ZS cZ2 (w_q _ _ _ hrZ3) ?_
     refine ZG ?_
     cases h
     exact ZL cZ2 trivial
 · simp only [ZC,NR]
   obtain ⟨cZ5,h⟩ | ⟨cZ5,h⟩:=ai h
   · cases h
     exact ZL cZ5 @V37.eq_1
   · obtain ⟨rZ6,hrZ6,h⟩:=af h
     refine ZF cZ5 ?_
     refine ZU cZ5 (Gl _ _ hrZ6) ?_
     refine ZG ?_
     obtain ⟨yZ7,hyZ7,h⟩:=af h
     obtain ⟨hyZ7a,hyZ7b⟩:=ba hyZ7
     obtain ⟨rZ8,hrZ8,h⟩:=af h
     refine ZF (ZA cZ5 (ZA hyZ7a hyZ7b)) ?_
     refine ZS (ZA cZ5 (ZA hyZ7a hyZ7b)) (QD _ _ hrZ8) ?_
     refine ZG ?_
     obtain ⟨rZ9,hrZ9,h⟩:=af h
     refine ZF (ZA cZ5 (ZA hyZ7a hyZ7b)) ?_
     refine ZS (ZA cZ5 (ZA hyZ7a hyZ7b)) (QD _ _ hrZ9) ?_
     refine ZG ?_
     obtain ⟨oZ11,hoZ11,h⟩:=af h
     try refine ZF (ZA cZ5 (ZA hyZ7a hyZ7b)) ?_
     refine aA (sh:=(fun v=>⟨[(1,.lst .o 1 (ringZ0.map AV.i)),(3,.pt 3 0 0),(5,.pt 5 0 0),(10,.pt 10 0 0),(11,.i (ringZ0.length:Int)),(12,.i rZ8),(13,.i rZ9),(58,.b v)],[(3,.var (.agg [.lst .o 1 (nZ0.Nodes.map AV.z),.lst .o 4 (nZ0.Fibers.map (ah .o))])),(5,.var (.i fiberZ0)),(10,.var (.agg [.i yZ7.A,.i yZ7.B,.i yZ7.Length,.i yZ7.Risk]))]⟩)) (s:=oZ11) ?_ ?_
     · replace h:=hoZ11
       obtain ⟨cZ10,h⟩ | ⟨cZ10,h⟩:=ai h
       · cases h
         exact ZL (ZA cZ5 (ZA hyZ7a (ZA hyZ7b cZ10))) trivial
       · cases h
         exact ZL (ZA cZ5 (ZA hyZ7a (ZA hyZ7b cZ10))) trivial
     · simp only [ZC,Oh]
       obtain ⟨cZ12,h⟩ | ⟨cZ12,h⟩:=ai h
       · cases h
         exact ZL (ZA cZ5 (ZA hyZ7a (ZA hyZ7b cZ12))) @V37.eq_1
       · obtain ⟨oZ24,hoZ24,h⟩:=af h
         try refine ZF (ZA cZ5 (ZA hyZ7a (ZA hyZ7b cZ12))) ?_
         refine aA (bf (aF (w_ac nZ0 ringZ0 fiberZ0 yZ7 rZ8 rZ9) hoZ24 ?_)) ?_
         · exact ZK (ZA @AK.eq_1 @sV.eq_1)
         · simp only [ZC,sV,NC]
           obtain ⟨oZ37,hoZ37,h⟩:=af h
           try refine ZF (ZA cZ5 (ZA hyZ7a (ZA hyZ7b cZ12))) ?_
           refine aA (bf (aF (w_ad nZ0 ringZ0 fiberZ0 yZ7 rZ9 oZ24) hoZ37 ?_)) ?_
           · exact ZK (ZA @BV.eq_1 @tG.eq_1)
           · simp only [ZC,tG,Ov]
             obtain ⟨lZ38,hlZ38,h⟩:=aQ h
             have eZ39:Row.arr 2 [(.agg [.i yZ7.A,.lst .u 1 (oZ24.map AV.i)]:AV),(.agg [.i yZ7.A,.lst .u 1 (oZ37.map AV.i)]:AV)]=Row.arr 2 (lZ38.map (aw .u)):=by rw [← hlZ38]; rfl
             have jjZ40:lZ38.length=2:=by rw [← hlZ38]; rfl
             obtain ⟨rZ41,hrZ41,h⟩:=af h
             refine ZF (ZA cZ5 (ZA hyZ7a (ZA hyZ7b (ZA cZ12 (ZA eZ39 jjZ40))))) ?_
             refine ZW (ZA cZ5 (ZA hyZ7a (ZA hyZ7b (ZA cZ12 (ZA eZ39 jjZ40))))) (w_eo _ _ hrZ41) (h2:=by first | exact bA [1000000000,1000000001] rfl (by decide +kernel) | exact be [1000000000,1000000001] [] rfl (by decide +kernel) ZQ | exact ZQ) (hk:=?_)
             refine ZG ?_
             obtain ⟨lZ42,hlZ42,h⟩:=aQ h
             have eZ43:sub (rZ41.2.2.1.map (aw .u)) rZ41.1 rZ41.2.1=lZ42.map (aw .u):=by rw [cA,hlZ42]
             obtain ⟨lZ44,hlZ44,h⟩:=af h
             obtain ⟨lZ45,hlZ45,h⟩:=aQ h
             have eZ46:lZ45.length=rZ41.2.2.1.length:=by rw [← hlZ45,jc]
             refine ZF (ZA cZ5 (ZA hyZ7a (ZA hyZ7b (ZA cZ12 (ZA eZ39 (ZA jjZ40 eZ43)))))) ?_
             refine wF (by simp only [VS1,VS2,VS3,VS4,VS5,VS6,VT1,VT2,cm,cn,decide_true,decide_false,List.nodup_nil,List.nodup_cons,gM,gw,gO,ne_eq,not_false_eq_true,Int.reduceEq,Int.reduceNe,true_and,false_and,Nat.reduceSub,Nat.reduceMul,↓reduceIte,reduceCtorEq,Nat.reduceEqDiff,Nat.reduceAdd,Nat.reduceLeDiff,Int.reduceLE,cZ5,hyZ7a,hyZ7b,cZ12,eZ39,jjZ40,eZ43]; exact (pS Qk (aw .u) (nM .u) (xs:=rZ41.2.2.1) (i0:=rZ41.1) (n:=rZ41.2.1) (ms:=lZ42) (cmp:=(fun x0 x1=>ws x0 x1 nZ0)) (C:=[.bp .o (.agg [.lst .o 1 (nZ0.Nodes.map AV.z),.lst .o 4 (nZ0.Fibers.map (ah .o))]) 0]) hlZ42 hlZ45 (by simp only [VS1,VS2,VS3,VS4,VS5,VS6,VT1,VT2,cm,cn,decide_true,decide_false,List.nodup_nil,List.nodup_cons,gM,gw,gO,ne_eq,not_false_eq_true,Int.reduceEq,Int.reduceNe,true_and,false_and,Nat.reduceSub,Nat.reduceMul,↓reduceIte,reduceCtorEq,Nat.reduceEqDiff,Nat.reduceAdd,Nat.reduceLeDiff,Int.reduceLE,List.map_cons,List.map_nil]) rfl (by simp [Wf,VS1,VS2,VS3,VS4,VS5,VS6,VT1,VT2]) (by simp [VS1,VS2,VS3,VS4,VS5,VS6,VT1,VT2]) ((EG m81)) (fun _ _ _ hq=>by simp only [hU,VS1,VS2,VS3,VS4,VS5,VS6,VT1,VT2,cm,cn,decide_true,decide_false,List.nodup_nil,List.nodup_cons,gM,gw,gO,ne_eq,not_false_eq_true,Int.reduceEq,Int.reduceNe,true_and,false_and,Nat.reduceSub,Nat.reduceMul,↓reduceIte,reduceCtorEq,Nat.reduceEqDiff,Nat.reduceAdd,Nat.reduceLeDiff,Int.reduceLE]; exact w_cn _ _ _ hq) hlZ44)) (by simp [VS1,VS2,VS3,VS4,VS5,VS6,VT1,VT2]) (by first | exact bA [1000000000,1000000001] rfl (by decide +kernel) | simp [VS1,VS2,VS3,VS4,VS5,VS6,VT1,VT2]) ?_
             refine ZG ?_
             obtain ⟨lZ47,hlZ47,h⟩:=aQ h
             have eZ48:sub (lZ45.map (aw .u)) rZ41.1 rZ41.2.1=lZ47.map (aw .u):=by rw [cA,hlZ47]
             cases h
             exact ZL (ZA cZ5 (ZA hyZ7a (ZA hyZ7b (ZA cZ12 (ZA eZ39 (ZA jjZ40 (ZA eZ43 eZ48))))))) (ZA @V37.eq_1 (ZA hlZ38.symm (ZA eZ46 jjZ40)))
def S_v (nZ0:ae) (ringZ0:List Int) (fromZ0:Int) (v:Int×Int×List Int):St:=⟨[(1,.lst .o 1 (ringZ0.map AV.i)),(2,.i fromZ0),(3,.pt 3 0 0),(8,.sl 8 0 v.2.2.length),(9,.i v.1),(10,.i v.2.1)],[(3,.var (.agg [.lst .o 1 (nZ0.Nodes.map AV.z),.lst .o 4 (nZ0.Fibers.map (ah .o))])),(8,.arr 1 (v.2.2.map AV.i))]⟩
def Gb (ringZ0:List Int) (fromZ0:Int) (v:Int×List Int):St:=⟨[(1,.lst .o 1 (ringZ0.map AV.i)),(2,.i fromZ0),(8,.sl 8 0 v.2.length),(9,.i v.1)],[(8,.arr 1 (v.2.map AV.i))]⟩
theorem w_v (nZ0:ae) (ringZ0:List Int) (fromZ0:Int) (sZ1:Int×Int×List Int) (o:(Int×Int×List Int) ⊕ ((Int×List Int) ⊕ (List Int×Bool))) (h:M_v nZ0 ringZ0 sZ1=some o):AWP (OkS Tryz.prog) xc (qL [1,2,3,8,9,10] [3,8] (S_v nZ0 ringZ0 fromZ0) (qS (qX 0 [1,2,8,9] [8] (Gb ringZ0 fromZ0)) (qR xi (fun r=>.tup [.lst .u 1 (r.1.map AV.i),.b r.2]))) o) (S_v nZ0 ringZ0 fromZ0 sZ1):=by
 unfold M_v at h
 simp only [ZC,S_v,xc]
 obtain ⟨cZ2,h⟩ | ⟨cZ2,h⟩:=ai h
 · obtain ⟨oZ10,hoZ10,h⟩:=af h
   try refine ZF cZ2 ?_
   refine aA (sh:=(fun v=>⟨[(1,.lst .o 1 (ringZ0.map AV.i)),(2,.i fromZ0),(3,.pt 3 0 0),(8,.sl 8 0 sZ1.2.2.length),(9,.i sZ1.1),(10,.i sZ1.2.1),(43,.b v)],[(3,.var (.agg [.lst .o 1 (nZ0.Nodes.map AV.z),.lst .o 4 (nZ0.Fibers.map (ah .o))])),(8,.arr 1 (sZ1.2.2.map AV.i))]⟩)) (s:=oZ10) ?_ ?_
   · replace h:=hoZ10
     obtain ⟨yZ3,hyZ3,h⟩:=af h
     obtain ⟨hyZ3a,hyZ3b⟩:=ba hyZ3
     obtain ⟨rZ4,hrZ4,h⟩:=af h
     refine ZF (ZA cZ2 (ZA hyZ3a hyZ3b)) ?_
     refine ZS (ZA cZ2 (ZA hyZ3a hyZ3b)) (w_h _ _ _ hrZ4) ?_
     refine ZG ?_
     obtain ⟨cZ5,h⟩ | ⟨cZ5,h⟩:=ai h
     · cases h
       exact ZL (ZA cZ2 (ZA hyZ3a (ZA hyZ3b cZ5))) trivial
     · obtain ⟨lZ6,hlZ6,h⟩:=af h
       obtain ⟨hlZ6a,hlZ6b,hlZ6c,hlZ6d,hlZ6e⟩:=yp AV.i hlZ6
       obtain ⟨rZ7,hrZ7,h⟩:=af h
       refine ZF (ZA cZ2 (ZA hyZ3a (ZA hyZ3b (ZA cZ5 (ZA hlZ6a (ZA hlZ6b (ZA hlZ6c (ZA hlZ6d hlZ6e)))))))) ?_
       refine ZS (ZA cZ2 (ZA hyZ3a (ZA hyZ3b (ZA cZ5 (ZA hlZ6a (ZA hlZ6b (ZA hlZ6c (ZA hlZ6d hlZ6e)))))))) (w_b _ _ hrZ7) ?_
       refine ZG ?_
       obtain ⟨cZ8,h⟩ | ⟨cZ8,h⟩:=ai h
       · cases h
         exact ZL (ZA cZ2 (ZA hyZ3a (ZA hyZ3b (ZA cZ5 (ZA hlZ6a (ZA hlZ6b (ZA hlZ6c (ZA hlZ6d (ZA hlZ6e cZ8))))))))) trivial
       · obtain ⟨rZ9,hrZ9,h⟩:=af h
         refine ZF (ZA cZ2 (ZA hyZ3a (ZA hyZ3b (ZA cZ5 (ZA hlZ6a (ZA hlZ6b (ZA hlZ6c (ZA hlZ6d (ZA hlZ6e cZ8))))))))) ?_
         refine ZS (ZA cZ2 (ZA hyZ3a (ZA hyZ3b (ZA cZ5 (ZA hlZ6a (ZA hlZ6b (ZA hlZ6c (ZA hlZ6d (ZA hlZ6e cZ8))))))))) (w_b _ _ hrZ9) ?_
         refine ZG ?_
         cases h
         exact ZL (ZA cZ2 (ZA hyZ3a (ZA hyZ3b (ZA cZ5 (ZA hlZ6a (ZA hlZ6b (ZA hlZ6c (ZA hlZ6d (ZA hlZ6e cZ8))))))))) trivial
   · simp only [ZC,Fa]
     obtain ⟨cZ11,h⟩ | ⟨cZ11,h⟩:=ai h
     · cases h
       exact ZL (ZA cZ2 cZ11) @xi.eq_1
     · obtain ⟨lZ12,hlZ12,h⟩:=aQ h
       have eZ13:Row.arr 1 [(.i sZ1.1:AV)]=Row.arr 1 (lZ12.map AV.i):=by rw [← hlZ12]; rfl
       have jjZ14:lZ12.length=1:=by rw [← hlZ12]; rfl
       obtain ⟨uZ15,huZ15,h⟩:=af h
       have huZ15g:=aR huZ15
       obtain ⟨lZ16,hlZ16,h⟩:=aQ h
       have eZ17:sZ1.2.2.map AV.i++lZ12.map AV.i=lZ16.map AV.i:=by rw [← hlZ16,List.map_append]
       have eZ18:sZ1.2.2.length+1=lZ16.length:=by simp [← hlZ12,← hlZ16] <;> omega
       rw [eZ18] at huZ15g
       obtain ⟨yZ19,hyZ19,h⟩:=af h
       obtain ⟨hyZ19a,hyZ19b⟩:=ba hyZ19
       obtain ⟨rZ20,hrZ20,h⟩:=af h
       refine ZF (ZA cZ2 (ZA cZ11 (ZA eZ13 (ZA jjZ14 (ZA huZ15g (ZA eZ17 (ZA eZ18 (ZA hyZ19a hyZ19b)))))))) ?_
       refine ZS (ZA cZ2 (ZA cZ11 (ZA eZ13 (ZA jjZ14 (ZA huZ15g (ZA eZ17 (ZA eZ18 (ZA hyZ19a hyZ19b)))))))) (KL _ _ _ hrZ20) ?_
       refine ZG ?_
       obtain ⟨cZ21,h⟩ | ⟨cZ21,h⟩:=ai h
       · cases h
         exact ZL (ZA cZ2 (ZA cZ11 (ZA eZ13 (ZA jjZ14 (ZA huZ15g (ZA eZ17 (ZA eZ18 (ZA hyZ19a (ZA hyZ19b cZ21))))))))) (ZA @xi.eq_1 (ZA hlZ12.symm (ZA hlZ16.symm jjZ14)))
       · cases h
         exact ZL (ZA cZ2 (ZA cZ11 (ZA eZ13 (ZA jjZ14 (ZA huZ15g (ZA eZ17 (ZA eZ18 (ZA hyZ19a (ZA hyZ19b cZ21))))))))) (ZA @S_v.eq_1 (ZA @Gb.eq_1 (ZA hlZ12.symm (ZA hlZ16.symm jjZ14))))
 · cases h
   exact ZL cZ2 (ZA @S_v.eq_1 @Gb.eq_1)
theorem w_co (nZ0:ae) (ringZ0:List Int) (fromZ0:Int) {r:List Int×Bool} (h:yW nZ0 ringZ0 fromZ0=some r):Ok Tryz.prog 141 [.agg [.lst .o 1 (nZ0.Nodes.map AV.z),.lst .o 4 (nZ0.Fibers.map (ah .o))],.lst .o 1 (ringZ0.map AV.i),.i fromZ0] ((fun r=>.tup [.lst .u 1 (r.1.map AV.i),.b r.2]) r):=by
 refine ay bc m141 rfl ?_
 unfold yW at h
 simp only [ZC,A141,xi,aJ]
 obtain ⟨oZ22,hoZ22,h⟩:=af h
 try refine ZF trivial ?_
 refine bi (o:=oZ22) (br cZ (aF (w_v nZ0 ringZ0 fromZ0) hoZ22 ?_)) (fun vZ23 hv=>?_) (fun xZ24 hv e τ hne hq=>?_)
 · exact ZK (ZA @S_v.eq_1 @Gb.eq_1)
 · subst hv
   simp only [] at h
   simp only [ZC,Gb,EQ]
   obtain ⟨cZ25,h⟩ | ⟨cZ25,h⟩:=ai h
   · cases h
     exact ZL cZ25 @xi.eq_1
   · cases h
     exact ZL cZ25 @xi.eq_1
 · subst hv
   simp only [] at h
   obtain ⟨rfl,qZ26⟩:=hq
   cases h
   exact qZ26
def S_n (ringZ0:List Int) (sZ1:Int) (rZ3:List Int×Bool) (v:Bool×Int):St:=⟨[(1,.lst .o 1 (ringZ0.map AV.i)),(5,.i sZ1),(6,.sl 6 0 rZ3.1.length),(8,.b v.1),(9,.i v.2)],[(6,.arr 1 (rZ3.1.map AV.i))]⟩
def Bu (ringZ0:List Int) (v:Bool):St:=⟨[(1,.lst .o 1 (ringZ0.map AV.i)),(8,.b v)],[]⟩
theorem w_n (ringZ0:List Int) (sZ1:Int) (rZ3:List Int×Bool) (sZ5:Bool×Int) (o:(Bool×Int) ⊕ Bool) (h:M_n sZ1 rZ3 sZ5=some o):AWP (OkS Tryz.prog) vW (qL [1,5,6,8,9] [6] (S_n ringZ0 sZ1 rZ3) (qX 2 [1,8] [] (Bu ringZ0)) o) (S_n ringZ0 sZ1 rZ3 sZ5):=by
 unfold M_n at h
 simp only [ZC,S_n,vW]
 obtain ⟨cZ6,h⟩ | ⟨cZ6,h⟩:=ai h
 · obtain ⟨cZ7,h⟩ | ⟨cZ7,h⟩:=ai h
   · obtain ⟨kZ8,hkZ8,h⟩:=af h
     obtain ⟨hkZ8a,hkZ8b⟩:=aR hkZ8
     obtain ⟨yZ9,hyZ9,h⟩:=af h
     cases h
     exact ZL (ZA cZ6 (ZA cZ7 (ZA hkZ8a (ZA hkZ8b hyZ9)))) (ZA @S_n.eq_1 @Bu.eq_1)
   · cases h
     exact ZL (ZA cZ6 cZ7) (ZA @S_n.eq_1 @Bu.eq_1)
 · cases h
   exact ZL cZ6 (ZA @S_n.eq_1 @Bu.eq_1)
def zR (nZ0:ae) (ringZ0:List Int) (v:Int):St:=⟨[(1,.lst .o 1 (ringZ0.map AV.i)),(2,.pt 2 0 0),(5,.i v)],[(2,.var (.agg [.lst .o 1 (nZ0.Nodes.map AV.z),.lst .o 4 (nZ0.Fibers.map (ah .o))]))]⟩
def td (v:Unit):St:=⟨[],[]⟩
theorem w_aw (nZ0:ae) (ringZ0:List Int) (sZ1:Int) (o:Int ⊕ (Unit ⊕ Bool)) (h:Ci nZ0 ringZ0 sZ1=some o):AWP (OkS Tryz.prog) xl (qL [1,2,5] [2] (zR nZ0 ringZ0) (qS (qX 0 [] [] (td)) (qR BB (fun r=>.b r))) o) (zR nZ0 ringZ0 sZ1):=by
 unfold Ci at h
 simp only [ZC,zR,xl]
 obtain ⟨cZ2,h⟩ | ⟨cZ2,h⟩:=ai h
 · obtain ⟨rZ3,hrZ3,h⟩:=af h
   refine ZF cZ2 ?_
   refine ZU cZ2 (w_co _ _ _ hrZ3) ?_
   refine ZG ?_
   obtain ⟨cZ4,h⟩ | ⟨cZ4,h⟩:=ai h
   · cases h
     exact ZL (ZA cZ2 cZ4) (ZA @zR.eq_1 @td.eq_1)
   · obtain ⟨oZ10,hoZ10,h⟩:=af h
     try refine ZF (ZA cZ2 cZ4) ?_
     refine aA (bf (aF (w_n ringZ0 sZ1 rZ3) hoZ10 ?_)) ?_
     · exact ZK (ZA @S_n.eq_1 @Bu.eq_1)
     · simp only [ZC,Bu,FY]
       obtain ⟨cZ11,h⟩ | ⟨cZ11,h⟩:=ai h
       · obtain ⟨rZ12,hrZ12,h⟩:=af h
         refine ZF (ZA cZ2 (ZA cZ4 cZ11)) ?_
         refine ZU (ZA cZ2 (ZA cZ4 cZ11)) (RE _ hrZ12) ?_
         refine ZG ?_
         obtain ⟨rZ13,hrZ13,h⟩:=af h
         refine ZF (ZA cZ2 (ZA cZ4 cZ11)) ?_
         refine ZS (ZA cZ2 (ZA cZ4 cZ11)) (Ry _ _ hrZ13) ?_
         refine ZG ?_
         cases h
         exact ZL (ZA cZ2 (ZA cZ4 cZ11)) @BB.eq_1
       · cases h
         exact ZL (ZA cZ2 (ZA cZ4 cZ11)) @BB.eq_1
 · cases h
   exact ZL cZ2 (ZA @zR.eq_1 @td.eq_1)
theorem w_do (nZ0:ae) (ringZ0:List Int) {r:Bool} (h:Iu nZ0 ringZ0=some r):Ok Tryz.prog 111 [.agg [.lst .o 1 (nZ0.Nodes.map AV.z),.lst .o 4 (nZ0.Fibers.map (ah .o))],.lst .o 1 (ringZ0.map AV.i)] ((fun r=>.b r) r):=by
 refine ay bc m111 rfl ?_
 unfold Iu at h
 simp only [ZC,A111,BB,aJ]
 obtain ⟨oZ14,hoZ14,h⟩:=af h
 try refine ZF trivial ?_
 refine bi (o:=oZ14) (br cZ (aF (w_aw nZ0 ringZ0) hoZ14 ?_)) (fun vZ15 hv=>?_) (fun xZ16 hv e τ hne hq=>?_)
 · exact ZK (ZA @zR.eq_1 @td.eq_1)
 · subst hv
   simp only [] at h
   simp only [ZC,td,Eb]
   cases h
   exact ZL trivial @BB.eq_1
 · subst hv
   simp only [] at h
   obtain ⟨rfl,qZ17⟩:=hq
   cases h
   exact qZ17
theorem w_dp (nZ0:ae) (ringZ0:List Int) {r:Bool} (h:Dy nZ0 ringZ0=some r):Ok Tryz.prog 71 [.agg [.lst .o 1 (nZ0.Nodes.map AV.z),.lst .o 4 (nZ0.Fibers.map (ah .o))],.lst .o 1 (ringZ0.map AV.i)] ((fun r=>.b r) r):=by
 refine ay bc m71 rfl ?_
 unfold Dy at h
 simp only [ZC,A71,V71,aJ]
 obtain ⟨rZ1,hrZ1,h⟩:=af h
 refine ZF trivial ?_
 refine ZS trivial (RC _ hrZ1) ?_
 refine ZG ?_
 obtain ⟨cZ2,h⟩ | ⟨cZ2,h⟩:=ai h
 · obtain ⟨rZ3,hrZ3,h⟩:=af h
   refine ZF cZ2 ?_
   refine ZS cZ2 (w_do _ _ hrZ3) ?_
   refine ZG ?_
   cases h
   exact ZL cZ2 @V71.eq_1
 · cases h
   exact ZL cZ2 @V71.eq_1
def Cl (nZ0:ae) (ringZ0:List Int) (v:Int):St:=⟨[(1,.lst .o 1 (ringZ0.map AV.i)),(2,.pt 2 0 0),(5,.i v)],[(2,.var (.agg [.lst .o 1 (nZ0.Nodes.map AV.z),.lst .o 4 (nZ0.Fibers.map (ah .o))]))]⟩
def tX (v:Unit):St:=⟨[],[]⟩
theorem w_ax (nZ0:ae) (ringZ0:List Int) (sZ1:Int) (o:Int ⊕ (Unit ⊕ (List Int))) (h:ze nZ0 ringZ0 sZ1=some o):AWP (OkS Tryz.prog) wO (qL [1,2,5] [2] (Cl nZ0 ringZ0) (qS (qX 0 [] [] (tX)) (qR DG (fun r=>.lst .u 1 (r.map AV.i)))) o) (Cl nZ0 ringZ0 sZ1):=by
 unfold ze at h
 simp only [ZC,Cl,wO]
 obtain ⟨cZ2,h⟩ | ⟨cZ2,h⟩:=ai h
 · obtain ⟨rZ3,hrZ3,h⟩:=af h
   refine ZF cZ2 ?_
   refine ZU cZ2 (w_co _ _ _ hrZ3) ?_
   refine ZG ?_
   obtain ⟨cZ4,h⟩ | ⟨cZ4,h⟩:=ai h
   · cases h
     exact ZL (ZA cZ2 cZ4) @DG.eq_1
   · cases h
     exact ZL (ZA cZ2 cZ4) (ZA @Cl.eq_1 @tX.eq_1)
 · cases h
   exact ZL cZ2 (ZA @Cl.eq_1 @tX.eq_1)
theorem w_cp (nZ0:ae) (ringZ0:List Int) {r:List Int} (h:Ax nZ0 ringZ0=some r):Ok Tryz.prog 112 [.agg [.lst .o 1 (nZ0.Nodes.map AV.z),.lst .o 4 (nZ0.Fibers.map (ah .o))],.lst .o 1 (ringZ0.map AV.i)] ((fun r=>.lst .u 1 (r.map AV.i)) r):=by
 refine ay bc m112 rfl ?_
 unfold Ax at h
 simp only [ZC,A112,DG,aJ]
 obtain ⟨oZ5,hoZ5,h⟩:=af h
 try refine ZF trivial ?_
 refine bi (o:=oZ5) (br cZ (aF (w_ax nZ0 ringZ0) hoZ5 ?_)) (fun vZ6 hv=>?_) (fun xZ7 hv e τ hne hq=>?_)
 · exact ZK (ZA @Cl.eq_1 @tX.eq_1)
 · subst hv
   simp only [] at h
   simp only [ZC,tX,FP]
   cases h
   exact ZL trivial @DG.eq_1
 · subst hv
   simp only [] at h
   obtain ⟨rfl,qZ8⟩:=hq
   cases h
   exact qZ8
def S_i (nZ0:ae) (ringZ0:List Int) (rZ1:List Int) (v:Int×List Int×List Int):St:=⟨[(1,.lst .o 1 (ringZ0.map AV.i)),(2,.pt 2 0 0),(6,.sl 6 0 v.2.1.length),(7,.sl 7 0 v.2.2.length),(8,.sl 8 0 rZ1.length),(9,.i v.1)],[(2,.var (.agg [.lst .o 1 (nZ0.Nodes.map AV.z),.lst .o 4 (nZ0.Fibers.map (ah .o))])),(6,.arr 1 (v.2.1.map AV.i)),(7,.arr 1 (v.2.2.map AV.i)),(8,.arr 1 (rZ1.map AV.i))]⟩
def vV (v:List Int×List Int):St:=⟨[(6,.sl 6 0 v.1.length),(7,.sl 7 0 v.2.length)],[(6,.arr 1 (v.1.map AV.i)),(7,.arr 1 (v.2.map AV.i))]⟩
theorem w_i (nZ0:ae) (ringZ0:List Int) (rZ1:List Int) (sZ2:Int×List Int×List Int) (o:(Int×List Int×List Int) ⊕ (List Int×List Int)) (h:M_i nZ0 ringZ0 rZ1 sZ2=some o):AWP (OkS Tryz.prog) EI (qL [1,2,6,7,8,9] [2,6,7,8] (S_i nZ0 ringZ0 rZ1) (qX 0 [6,7] [6,7] (vV)) o) (S_i nZ0 ringZ0 rZ1 sZ2):=by
 unfold M_i at h
 simp only [ZC,S_i,EI]
 obtain ⟨cZ3,h⟩ | ⟨cZ3,h⟩:=ai h
 · obtain ⟨rZ4,hrZ4,h⟩:=af h
   refine ZF cZ3 ?_
   refine ZS cZ3 (w_b _ _ hrZ4) ?_
   refine ZG ?_
   obtain ⟨cZ5,h⟩ | ⟨cZ5,h⟩:=ai h
   · obtain ⟨lZ6,hlZ6,h⟩:=aQ h
     have eZ7:Row.arr 1 [(.i sZ2.1:AV)]=Row.arr 1 (lZ6.map AV.i):=by rw [← hlZ6]; rfl
     have jjZ8:lZ6.length=1:=by rw [← hlZ6]; rfl
     obtain ⟨uZ9,huZ9,h⟩:=af h
     have huZ9g:=aR huZ9
     obtain ⟨lZ10,hlZ10,h⟩:=aQ h
     have eZ11:sZ2.2.1.map AV.i++lZ6.map AV.i=lZ10.map AV.i:=by rw [← hlZ10,List.map_append]
     have eZ12:sZ2.2.1.length+1=lZ10.length:=by simp [← hlZ6,← hlZ10] <;> omega
     rw [eZ12] at huZ9g
     cases h
     exact ZL (ZA cZ3 (ZA cZ5 (ZA eZ7 (ZA jjZ8 (ZA huZ9g (ZA eZ11 eZ12)))))) (ZA @S_i.eq_1 (ZA @vV.eq_1 (ZA hlZ6.symm (ZA hlZ10.symm jjZ8))))
   · obtain ⟨oZ17,hoZ17,h⟩:=af h
     try refine ZF (ZA cZ3 cZ5) ?_
     refine aA (sh:=(fun v=>⟨[(1,.lst .o 1 (ringZ0.map AV.i)),(2,.pt 2 0 0),(6,.sl 6 0 sZ2.2.1.length),(7,.sl 7 0 sZ2.2.2.length),(8,.sl 8 0 rZ1.length),(9,.i sZ2.1),(30,.b v)],[(2,.var (.agg [.lst .o 1 (nZ0.Nodes.map AV.z),.lst .o 4 (nZ0.Fibers.map (ah .o))])),(6,.arr 1 (sZ2.2.1.map AV.i)),(7,.arr 1 (sZ2.2.2.map AV.i)),(8,.arr 1 (rZ1.map AV.i))]⟩)) (s:=oZ17) ?_ ?_
     · replace h:=hoZ17
       obtain ⟨yZ13,hyZ13,h⟩:=af h
       obtain ⟨hyZ13a,hyZ13b⟩:=ba hyZ13
       obtain ⟨rZ14,hrZ14,h⟩:=af h
       refine ZF (ZA cZ3 (ZA cZ5 (ZA hyZ13a hyZ13b))) ?_
       refine ZS (ZA cZ3 (ZA cZ5 (ZA hyZ13a hyZ13b))) (w_b _ _ hrZ14) ?_
       refine ZG ?_
       obtain ⟨cZ15,h⟩ | ⟨cZ15,h⟩:=ai h
       · obtain ⟨rZ16,hrZ16,h⟩:=af h
         refine ZF (ZA cZ3 (ZA cZ5 (ZA hyZ13a (ZA hyZ13b cZ15)))) ?_
         refine ZS (ZA cZ3 (ZA cZ5 (ZA hyZ13a (ZA hyZ13b cZ15)))) (w_b _ _ hrZ16) ?_
         refine ZG ?_
         cases h
         exact ZL (ZA cZ3 (ZA cZ5 (ZA hyZ13a (ZA hyZ13b cZ15)))) trivial
       · cases h
         exact ZL (ZA cZ3 (ZA cZ5 (ZA hyZ13a (ZA hyZ13b cZ15)))) trivial
     · simp only [ZC,OA]
       obtain ⟨cZ18,h⟩ | ⟨cZ18,h⟩:=ai h
       · obtain ⟨lZ19,hlZ19,h⟩:=aQ h
         have eZ20:Row.arr 1 [(.i sZ2.1:AV)]=Row.arr 1 (lZ19.map AV.i):=by rw [← hlZ19]; rfl
         have jjZ21:lZ19.length=1:=by rw [← hlZ19]; rfl
         obtain ⟨uZ22,huZ22,h⟩:=af h
         have huZ22g:=aR huZ22
         obtain ⟨lZ23,hlZ23,h⟩:=aQ h
         have eZ24:sZ2.2.2.map AV.i++lZ19.map AV.i=lZ23.map AV.i:=by rw [← hlZ23,List.map_append]
         have eZ25:sZ2.2.2.length+1=lZ23.length:=by simp [← hlZ19,← hlZ23] <;> omega
         rw [eZ25] at huZ22g
         cases h
         exact ZL (ZA cZ3 (ZA cZ5 (ZA cZ18 (ZA eZ20 (ZA jjZ21 (ZA huZ22g (ZA eZ24 eZ25))))))) (ZA @S_i.eq_1 (ZA @vV.eq_1 (ZA hlZ19.symm (ZA hlZ23.symm jjZ21))))
       · cases h
         exact ZL (ZA cZ3 (ZA cZ5 cZ18)) (ZA @S_i.eq_1 @vV.eq_1)
 · cases h
   exact ZL cZ3 (ZA @S_i.eq_1 @vV.eq_1)
theorem w_dq (nZ0:ae) (ringZ0:List Int) {r:List Int×List Int} (h:Iv nZ0 ringZ0=some r):Ok Tryz.prog 73 [.agg [.lst .o 1 (nZ0.Nodes.map AV.z),.lst .o 4 (nZ0.Fibers.map (ah .o))],.lst .o 1 (ringZ0.map AV.i)] ((fun r=>.tup [.lst .u 1 (r.1.map AV.i),.lst .u 1 (r.2.map AV.i)]) r):=by
 refine ay bc m73 rfl ?_
 unfold Iv at h
 simp only [ZC,A73,V73,aJ]
 obtain ⟨rZ1,hrZ1,h⟩:=af h
 refine ZF trivial ?_
 refine ZU trivial (w_cp _ _ hrZ1) ?_
 refine ZG ?_
 obtain ⟨oZ26,hoZ26,h⟩:=af h
 try refine ZF trivial ?_
 refine aA (bf (aF (w_i nZ0 ringZ0 rZ1) hoZ26 ?_)) ?_
 · exact ZK (ZA @S_i.eq_1 @vV.eq_1)
 · simp only [ZC,vV,NI]
   cases h
   exact ZL trivial @V73.eq_1
def AI (nZ0:ae) (ringZ0:List Int) (fromZ0:Int) (toZ0:Int) (rZ1:List Int) (v:Int):St:=⟨[(1,.lst .o 1 (ringZ0.map AV.i)),(2,.i fromZ0),(3,.i toZ0),(4,.pt 4 0 0),(8,.pt 8 0 0),(9,.sl 9 0 rZ1.length),(10,.i v)],[(4,.var (.agg [.lst .o 1 (nZ0.Nodes.map AV.z),.lst .o 4 (nZ0.Fibers.map (ah .o))])),(8,.var (.agg [.i 0,.lst .u 1 []])),(9,.arr 1 (rZ1.map AV.i))]⟩
def tq (nZ0:ae) (ringZ0:List Int) (fromZ0:Int) (toZ0:Int) (v:Int):St:=⟨[(1,.lst .o 1 (ringZ0.map AV.i)),(2,.i fromZ0),(3,.i toZ0),(4,.pt 4 0 0),(8,.pt 8 0 0),(10,.i v)],[(4,.var (.agg [.lst .o 1 (nZ0.Nodes.map AV.z),.lst .o 4 (nZ0.Fibers.map (ah .o))])),(8,.var (.agg [.i 0,.lst .u 1 []]))]⟩
theorem w_ae (nZ0:ae) (ringZ0:List Int) (fromZ0:Int) (toZ0:Int) (rZ1:List Int) (sZ2:Int) (o:Int ⊕ Int) (h:xp fromZ0 rZ1 sZ2=some o):AWP (OkS Tryz.prog) Dn (qL [1,2,3,4,8,9,10] [4,8,9] (AI nZ0 ringZ0 fromZ0 toZ0 rZ1) (qX 0 [1,2,3,4,8,10] [4,8] (tq nZ0 ringZ0 fromZ0 toZ0)) o) (AI nZ0 ringZ0 fromZ0 toZ0 rZ1 sZ2):=by
 unfold xp at h
 simp only [ZC,AI,Dn]
 obtain ⟨kZ3,hkZ3,h⟩:=af h
 obtain ⟨hkZ3a,hkZ3b⟩:=aR hkZ3
 obtain ⟨yZ4,hyZ4,h⟩:=af h
 obtain ⟨cZ5,h⟩ | ⟨cZ5,h⟩:=ai h
 · cases h
   exact ZL (ZA hkZ3a (ZA hkZ3b (ZA hyZ4 cZ5))) (ZA @AI.eq_1 @tq.eq_1)
 · cases h
   exact ZL (ZA hkZ3a (ZA hkZ3b (ZA hyZ4 cZ5))) (ZA @AI.eq_1 @tq.eq_1)
def Aj (nZ0:ae) (ringZ0:List Int) (fromZ0:Int) (toZ0:Int) (v:Int×Int×List Int):St:=⟨[(1,.lst .o 1 (ringZ0.map AV.i)),(3,.i toZ0),(4,.pt 4 0 0),(8,.pt 8 0 0),(10,.i v.1),(11,.pt 11 0 0),(12,.i v.2.1)],[(4,.var (.agg [.lst .o 1 (nZ0.Nodes.map AV.z),.lst .o 4 (nZ0.Fibers.map (ah .o))])),(8,.var (.agg [.i 0,.lst .u 1 []])),(11,.var (.agg [.i fromZ0,.sl 500000705 0 v.2.2.length])),(500000705,.arr 1 (v.2.2.map AV.i))]⟩
def sf (fromZ0:Int) (v:List Int):St:=⟨[(8,.pt 8 0 0),(11,.pt 11 0 0)],[(8,.var (.agg [.i 0,.lst .u 1 []])),(11,.var (.agg [.i fromZ0,.sl 500000705 0 v.length])),(500000705,.arr 1 (v.map AV.i))]⟩
theorem w_af (nZ0:ae) (ringZ0:List Int) (fromZ0:Int) (toZ0:Int) (sZ7:Int×Int×List Int) (o:(Int×Int×List Int) ⊕ (List Int)) (h:vX nZ0 ringZ0 toZ0 sZ7=some o):AWP (OkS Tryz.prog) DU (qL [1,3,4,8,10,11,12] [4,8,11,500000705] (Aj nZ0 ringZ0 fromZ0 toZ0) (qX 2 [8,11] [8,11,500000705] (sf fromZ0)) o) (Aj nZ0 ringZ0 fromZ0 toZ0 sZ7):=by
 unfold vX at h
 simp only [ZC,Aj,DU]
 obtain ⟨cZ8,h⟩ | ⟨cZ8,h⟩:=ai h
 · obtain ⟨yZ9,hyZ9,h⟩:=af h
   obtain ⟨hyZ9a,hyZ9b⟩:=ba hyZ9
   obtain ⟨lZ10,hlZ10,h⟩:=aQ h
   have eZ11:Row.arr 1 [(.i yZ9:AV)]=Row.arr 1 (lZ10.map AV.i):=by rw [← hlZ10]; rfl
   have jjZ12:lZ10.length=1:=by rw [← hlZ10]; rfl
   obtain ⟨uZ13,huZ13,h⟩:=af h
   have huZ13g:=aR huZ13
   obtain ⟨lZ14,hlZ14,h⟩:=aQ h
   have eZ15:sZ7.2.2.map AV.i++lZ10.map AV.i=lZ14.map AV.i:=by rw [← hlZ14,List.map_append]
   have eZ16:sZ7.2.2.length+1=lZ14.length:=by simp [← hlZ10,← hlZ14] <;> omega
   rw [eZ16] at huZ13g
   obtain ⟨rZ17,hrZ17,h⟩:=af h
   refine ZF (ZA cZ8 (ZA hyZ9a (ZA hyZ9b (ZA eZ11 (ZA jjZ12 (ZA huZ13g (ZA eZ15 eZ16))))))) ?_
   refine ZS (ZA cZ8 (ZA hyZ9a (ZA hyZ9b (ZA eZ11 (ZA jjZ12 (ZA huZ13g (ZA eZ15 eZ16))))))) (KL _ _ _ hrZ17) ?_
   refine ZG ?_
   obtain ⟨uZ18,huZ18,h⟩:=af h
   have huZ18g:=aR huZ18
   cases h
   exact ZL (ZA cZ8 (ZA hyZ9a (ZA hyZ9b (ZA eZ11 (ZA jjZ12 (ZA huZ13g (ZA eZ15 (ZA eZ16 huZ18g)))))))) (ZA @Aj.eq_1 (ZA @sf.eq_1 (ZA hlZ10.symm (ZA hlZ14.symm jjZ12))))
 · cases h
   exact ZL cZ8 (ZA @Aj.eq_1 @sf.eq_1)
theorem w_cq (nZ0:ae) (ringZ0:List Int) (fromZ0:Int) (toZ0:Int) {r:au} (h:Aa nZ0 ringZ0 fromZ0 toZ0=some r):Ok Tryz.prog 84 [.agg [.lst .o 1 (nZ0.Nodes.map AV.z),.lst .o 4 (nZ0.Fibers.map (ah .o))],.lst .o 1 (ringZ0.map AV.i),.i fromZ0,.i toZ0] ((fun r=>.agg [.i r.Start,.lst .u 1 (r.Fibers.map AV.i)]) r):=by
 refine ay bc m84 rfl ?_
 unfold Aa at h
 simp only [ZC,A84,V84,aJ]
 obtain ⟨rZ1,hrZ1,h⟩:=af h
 refine ZF trivial ?_
 refine ZU trivial (w_cp _ _ hrZ1) ?_
 refine ZG ?_
 obtain ⟨oZ6,hoZ6,h⟩:=af h
 try refine ZF trivial ?_
 refine aA (bf (aF (w_ae nZ0 ringZ0 fromZ0 toZ0 rZ1) hoZ6 ?_)) ?_
 · exact ZK (ZA @AI.eq_1 @tq.eq_1)
 · simp only [ZC,tq,NG]
   obtain ⟨oZ19,hoZ19,h⟩:=af h
   try refine ZF trivial ?_
   refine aA (bf (aF (w_af nZ0 ringZ0 fromZ0 toZ0) hoZ19 ?_)) ?_
   · exact ZK (ZA @Aj.eq_1 @sf.eq_1)
   · simp only [ZC,sf,NV]
     cases h
     exact ZL trivial @V84.eq_1
def Bx (nZ0:ae) (rZ0:au) (v:Int×List Int):St:=⟨[(2,.pt 2 0 0),(3,.pt 3 0 0),(6,.sl 6 0 v.2.length),(7,.i v.1)],[(2,.var (.agg [.lst .o 1 (nZ0.Nodes.map AV.z),.lst .o 4 (nZ0.Fibers.map (ah .o))])),(3,.var (.agg [.i rZ0.Start,.lst .o 1 (rZ0.Fibers.map AV.i)])),(6,.arr 1 (v.2.map AV.i))]⟩
def tM (v:List Int):St:=⟨[(6,.sl 6 0 v.length)],[(6,.arr 1 (v.map AV.i))]⟩
theorem w_ag (nZ0:ae) (rZ0:au) (sZ8:Int×List Int) (o:(Int×List Int) ⊕ ((List Int) ⊕ (List Int×Bool))) (h:wM nZ0 rZ0 sZ8=some o):AWP (OkS Tryz.prog) vm (qL [2,3,6,7] [2,3,6] (Bx nZ0 rZ0) (qS (qX 0 [6] [6] (tM)) (qR wV (fun r=>.tup [.lst .u 1 (r.1.map AV.i),.b r.2]))) o) (Bx nZ0 rZ0 sZ8):=by
 unfold wM at h
 simp only [ZC,Bx,vm]
 obtain ⟨cZ9,h⟩ | ⟨cZ9,h⟩:=ai h
 · obtain ⟨yZ10,hyZ10,h⟩:=af h
   obtain ⟨hyZ10a,hyZ10b⟩:=ba hyZ10
   obtain ⟨rZ11,hrZ11,h⟩:=af h
   refine ZF (ZA cZ9 (ZA hyZ10a hyZ10b)) ?_
   refine ZS (ZA cZ9 (ZA hyZ10a hyZ10b)) (w_h _ _ _ hrZ11) ?_
   refine ZG ?_
   obtain ⟨cZ12,h⟩ | ⟨cZ12,h⟩:=ai h
   · cases h
     exact ZL (ZA cZ9 (ZA hyZ10a (ZA hyZ10b cZ12))) @wV.eq_1
   · obtain ⟨kZ13,hkZ13,h⟩:=af h
     obtain ⟨hkZ13a,hkZ13b⟩:=aR hkZ13
     obtain ⟨yZ14,hyZ14,h⟩:=af h
     obtain ⟨rZ15,hrZ15,h⟩:=af h
     refine ZF (ZA cZ9 (ZA hyZ10a (ZA hyZ10b (ZA cZ12 (ZA hkZ13a (ZA hkZ13b hyZ14)))))) ?_
     refine ZS (ZA cZ9 (ZA hyZ10a (ZA hyZ10b (ZA cZ12 (ZA hkZ13a (ZA hkZ13b hyZ14)))))) (KL _ _ _ hrZ15) ?_
     refine ZG ?_
     obtain ⟨oZ18,hoZ18,h⟩:=af h
     try refine ZF (ZA cZ9 (ZA hyZ10a (ZA hyZ10b (ZA cZ12 (ZA hkZ13a (ZA hkZ13b hyZ14)))))) ?_
     refine aA (sh:=(fun v=>⟨[(2,.pt 2 0 0),(3,.pt 3 0 0),(6,.sl 6 0 sZ8.2.length),(7,.i sZ8.1),(8,.i rZ15),(65,.b v)],[(2,.var (.agg [.lst .o 1 (nZ0.Nodes.map AV.z),.lst .o 4 (nZ0.Fibers.map (ah .o))])),(3,.var (.agg [.i rZ0.Start,.lst .o 1 (rZ0.Fibers.map AV.i)])),(6,.arr 1 (sZ8.2.map AV.i))]⟩)) (s:=oZ18) ?_ ?_
     · replace h:=hoZ18
       obtain ⟨cZ16,h⟩ | ⟨cZ16,h⟩:=ai h
       · cases h
         exact ZL (ZA cZ9 (ZA hyZ10a (ZA hyZ10b (ZA cZ12 (ZA hkZ13a (ZA hkZ13b (ZA hyZ14 cZ16))))))) trivial
       · obtain ⟨rZ17,hrZ17,h⟩:=af h
         refine ZF (ZA cZ9 (ZA hyZ10a (ZA hyZ10b (ZA cZ12 (ZA hkZ13a (ZA hkZ13b (ZA hyZ14 cZ16))))))) ?_
         refine ZS (ZA cZ9 (ZA hyZ10a (ZA hyZ10b (ZA cZ12 (ZA hkZ13a (ZA hkZ13b (ZA hyZ14 cZ16))))))) (w_b _ _ hrZ17) ?_
         refine ZG ?_
         cases h
         exact ZL (ZA cZ9 (ZA hyZ10a (ZA hyZ10b (ZA cZ12 (ZA hkZ13a (ZA hkZ13b (ZA hyZ14 cZ16))))))) trivial
     · simp only [ZC,Fr]
       obtain ⟨cZ19,h⟩ | ⟨cZ19,h⟩:=ai h
       · cases h
         exact ZL (ZA cZ9 (ZA hyZ10a (ZA hyZ10b (ZA cZ12 (ZA hkZ13a (ZA hkZ13b (ZA hyZ14 cZ19))))))) @wV.eq_1
       · obtain ⟨lZ20,hlZ20,h⟩:=aQ h
         have eZ21:Row.arr 1 [(.i rZ15:AV)]=Row.arr 1 (lZ20.map AV.i):=by rw [← hlZ20]; rfl
         have jjZ22:lZ20.length=1:=by rw [← hlZ20]; rfl
         obtain ⟨uZ23,huZ23,h⟩:=af h
         have huZ23g:=aR huZ23
         obtain ⟨lZ24,hlZ24,h⟩:=aQ h
         have eZ25:sZ8.2.map AV.i++lZ20.map AV.i=lZ24.map AV.i:=by rw [← hlZ24,List.map_append]
         have eZ26:sZ8.2.length+1=lZ24.length:=by simp [← hlZ20,← hlZ24] <;> omega
         rw [eZ26] at huZ23g
         cases h
         exact ZL (ZA cZ9 (ZA hyZ10a (ZA hyZ10b (ZA cZ12 (ZA hkZ13a (ZA hkZ13b (ZA hyZ14 (ZA cZ19 (ZA eZ21 (ZA jjZ22 (ZA huZ23g (ZA eZ25 eZ26)))))))))))) (ZA @Bx.eq_1 (ZA @tM.eq_1 (ZA hlZ20.symm (ZA hlZ24.symm jjZ22))))
 · cases h
   exact ZL cZ9 (ZA @Bx.eq_1 @tM.eq_1)
theorem w_cr (nZ0:ae) (rZ0:au) {r:List Int×Bool} (h:CE nZ0 rZ0=some r):Ok Tryz.prog 154 [.agg [.lst .o 1 (nZ0.Nodes.map AV.z),.lst .o 4 (nZ0.Fibers.map (ah .o))],.agg [.i rZ0.Start,.lst .o 1 (rZ0.Fibers.map AV.i)]] ((fun r=>.tup [.lst .u 1 (r.1.map AV.i),.b r.2]) r):=by
 refine ay bc m154 rfl ?_
 unfold CE at h
 simp only [ZC,A154,wV,aJ]
 obtain ⟨lZ1,hlZ1,h⟩:=aQ h
 have eZ2:Row.arr 1 [(.i rZ0.Start:AV)]=Row.arr 1 (lZ1.map AV.i):=by rw [← hlZ1]; rfl
 have jjZ3:lZ1.length=1:=by rw [← hlZ1]; rfl
 obtain ⟨oZ6,hoZ6,h⟩:=af h
 try refine ZF (ZA eZ2 jjZ3) ?_
 refine aA (sh:=(fun v=>⟨[(2,.pt 2 0 0),(3,.pt 3 0 0),(6,.sl 6 0 lZ1.length),(25,.b v)],[(2,.var (.agg [.lst .o 1 (nZ0.Nodes.map AV.z),.lst .o 4 (nZ0.Fibers.map (ah .o))])),(3,.var (.agg [.i rZ0.Start,.lst .o 1 (rZ0.Fibers.map AV.i)])),(6,.arr 1 (lZ1.map AV.i))]⟩)) (s:=oZ6) ?_ ?_
 · replace h:=hoZ6
   obtain ⟨rZ4,hrZ4,h⟩:=af h
   refine ZF (ZA eZ2 jjZ3) ?_
   refine ZS (ZA eZ2 jjZ3) (w_h _ _ _ hrZ4) ?_
   refine ZG ?_
   obtain ⟨cZ5,h⟩ | ⟨cZ5,h⟩:=ai h
   · cases h
     exact ZL (ZA eZ2 (ZA jjZ3 cZ5)) (ZA hlZ1.symm jjZ3)
   · cases h
     exact ZL (ZA eZ2 (ZA jjZ3 cZ5)) (ZA hlZ1.symm jjZ3)
 · simp only [ZC,Ji]
   obtain ⟨cZ7,h⟩ | ⟨cZ7,h⟩:=ai h
   · cases h
     exact ZL (ZA eZ2 (ZA jjZ3 cZ7)) (ZA @wV.eq_1 jjZ3)
   · obtain ⟨oZ27,hoZ27,h⟩:=af h
     try refine ZF (ZA eZ2 (ZA jjZ3 cZ7)) ?_
     refine bi (o:=oZ27) (br cZ (aF (w_ag nZ0 rZ0) hoZ27 ?_)) (fun vZ28 hv=>?_) (fun xZ29 hv e τ hne hq=>?_)
     · exact ZK (ZA @Bx.eq_1 (ZA @tM.eq_1 jjZ3))
     · subst hv
       simp only [] at h
       simp only [ZC,tM,JJ]
       cases h
       exact ZL (ZA eZ2 (ZA jjZ3 cZ7)) (ZA @wV.eq_1 jjZ3)
     · subst hv
       simp only [] at h
       obtain ⟨rfl,qZ30⟩:=hq
       cases h
       exact qZ30
theorem w_eh (nZ0:ae) (rZ0:au) {r:Bool} (h:Ml nZ0 rZ0=some r):Ok Tryz.prog 124 [.agg [.lst .o 1 (nZ0.Nodes.map AV.z),.lst .o 4 (nZ0.Fibers.map (ah .o))],.agg [.i rZ0.Start,.lst .o 1 (rZ0.Fibers.map AV.i)]] ((fun r=>.b r) r):=by
 refine ay bc m124 rfl ?_
 unfold Ml at h
 simp only [ZC,A124,KD,aJ]
 obtain ⟨rZ1,hrZ1,h⟩:=af h
 refine ZF trivial ?_
 refine ZS trivial (RC _ hrZ1) ?_
 refine ZG ?_
 obtain ⟨cZ2,h⟩ | ⟨cZ2,h⟩:=ai h
 · cases h
   exact ZL cZ2 @KD.eq_1
 · obtain ⟨rZ3,hrZ3,h⟩:=af h
   refine ZF cZ2 ?_
   refine ZU cZ2 (w_cr _ _ hrZ3) ?_
   refine ZG ?_
   cases h
   exact ZL cZ2 @KD.eq_1
theorem w_ei (nZ0:ae) (rZ0:au) {r:List Int} (h:KI nZ0 rZ0=some r):Ok Tryz.prog 155 [.agg [.lst .o 1 (nZ0.Nodes.map AV.z),.lst .o 4 (nZ0.Fibers.map (ah .o))],.agg [.i rZ0.Start,.lst .o 1 (rZ0.Fibers.map AV.i)]] ((fun r=>.lst .u 1 (r.map AV.i)) r):=by
 refine ay bc m155 rfl ?_
 unfold KI at h
 simp only [ZC,A155,Px,aJ]
 obtain ⟨rZ1,hrZ1,h⟩:=af h
 refine ZF trivial ?_
 refine ZU trivial (w_cr _ _ hrZ1) ?_
 refine ZG ?_
 cases h
 exact ZL trivial @Px.eq_1
theorem w_ej (nZ0:ae) (rZ0:au) {r:Int} (h:Mr nZ0 rZ0=some r):Ok Tryz.prog 125 [.agg [.lst .o 1 (nZ0.Nodes.map AV.z),.lst .o 4 (nZ0.Fibers.map (ah .o))],.agg [.i rZ0.Start,.lst .o 1 (rZ0.Fibers.map AV.i)]] ((fun r=>.i r) r):=by
 refine ay bc m125 rfl ?_
 unfold Mr at h
 simp only [ZC,A125,PN,aJ]
 obtain ⟨rZ1,hrZ1,h⟩:=af h
 refine ZF trivial ?_
 refine ZU trivial (w_ei _ _ hrZ1) ?_
 refine ZG ?_
 obtain ⟨kZ2,hkZ2,h⟩:=af h
 obtain ⟨hkZ2a,hkZ2b⟩:=aR hkZ2
 obtain ⟨yZ3,hyZ3,h⟩:=af h
 cases h
 exact ZL (ZA hkZ2a (ZA hkZ2b hyZ3)) @PN.eq_1
def Cm (rZ0:au) (rZ3:Int) (v:Int×List Int):St:=⟨[(3,.pt 3 0 0),(4,.pt 4 0 0),(6,.pt 6 0 0),(7,.i v.1)],[(3,.var (.agg [.i rZ0.Start,.lst .o 1 (rZ0.Fibers.map AV.i)])),(4,.var (.agg [.i 0,.lst .u 1 []])),(6,.var (.agg [.i rZ3,.sl 500000385 0 v.2.length])),(500000385,.arr 1 (v.2.map AV.i))]⟩
def tZ (rZ3:Int) (v:List Int):St:=⟨[(4,.pt 4 0 0),(6,.pt 6 0 0)],[(4,.var (.agg [.i 0,.lst .u 1 []])),(6,.var (.agg [.i rZ3,.sl 500000385 0 v.length])),(500000385,.arr 1 (v.map AV.i))]⟩
theorem w_be (rZ0:au) (rZ3:Int) (sZ4:Int×List Int) (o:(Int×List Int) ⊕ (List Int)) (h:Fg rZ0 sZ4=some o):AWP (OkS Tryz.prog) IR (qL [3,4,6,7] [3,4,6,500000385] (Cm rZ0 rZ3) (qX 0 [4,6] [4,6,500000385] (tZ rZ3)) o) (Cm rZ0 rZ3 sZ4):=by
 unfold Fg at h
 simp only [ZC,Cm,IR]
 obtain ⟨cZ5,h⟩ | ⟨cZ5,h⟩:=ai h
 · obtain ⟨yZ6,hyZ6,h⟩:=af h
   obtain ⟨hyZ6a,hyZ6b⟩:=ba hyZ6
   obtain ⟨lZ7,hlZ7,h⟩:=aQ h
   have eZ8:Row.arr 1 [(.i yZ6:AV)]=Row.arr 1 (lZ7.map AV.i):=by rw [← hlZ7]; rfl
   have jjZ9:lZ7.length=1:=by rw [← hlZ7]; rfl
   obtain ⟨uZ10,huZ10,h⟩:=af h
   have huZ10g:=aR huZ10
   obtain ⟨lZ11,hlZ11,h⟩:=aQ h
   have eZ12:sZ4.2.map AV.i++lZ7.map AV.i=lZ11.map AV.i:=by rw [← hlZ11,List.map_append]
   have eZ13:sZ4.2.length+1=lZ11.length:=by simp [← hlZ7,← hlZ11] <;> omega
   rw [eZ13] at huZ10g
   cases h
   exact ZL (ZA cZ5 (ZA hyZ6a (ZA hyZ6b (ZA eZ8 (ZA jjZ9 (ZA huZ10g (ZA eZ12 eZ13))))))) (ZA @Cm.eq_1 (ZA @tZ.eq_1 (ZA hlZ7.symm (ZA hlZ11.symm jjZ9))))
 · cases h
   exact ZL cZ5 (ZA @Cm.eq_1 @tZ.eq_1)
theorem w_dr (nZ0:ae) (rZ0:au) {r:au×Bool} (h:Fv nZ0 rZ0=some r):Ok Tryz.prog 85 [.agg [.lst .o 1 (nZ0.Nodes.map AV.z),.lst .o 4 (nZ0.Fibers.map (ah .o))],.agg [.i rZ0.Start,.lst .o 1 (rZ0.Fibers.map AV.i)]] ((fun r=>.tup [.agg [.i r.1.Start,.lst .u 1 (r.1.Fibers.map AV.i)],.b r.2]) r):=by
 refine ay bc m85 rfl ?_
 unfold Fv at h
 simp only [ZC,A85,V85,aJ]
 obtain ⟨rZ1,hrZ1,h⟩:=af h
 refine ZF trivial ?_
 refine ZS trivial (w_eh _ _ hrZ1) ?_
 refine ZG ?_
 obtain ⟨cZ2,h⟩ | ⟨cZ2,h⟩:=ai h
 · cases h
   exact ZL cZ2 @V85.eq_1
 · obtain ⟨rZ3,hrZ3,h⟩:=af h
   refine ZF cZ2 ?_
   refine ZS cZ2 (w_ej _ _ hrZ3) ?_
   refine ZG ?_
   obtain ⟨oZ14,hoZ14,h⟩:=af h
   try refine ZF cZ2 ?_
   refine aA (bf (aF (w_be rZ0 rZ3) hoZ14 ?_)) ?_
   · exact ZK (ZA @Cm.eq_1 @tZ.eq_1)
   · simp only [ZC,tZ,Oa]
     cases h
     exact ZL cZ2 @V85.eq_1
def CJ (nZ0:ae) (rZ0:au) (v:Int×Int):St:=⟨[(2,.pt 2 0 0),(3,.pt 3 0 0),(5,.i v.1),(6,.i v.2)],[(2,.var (.agg [.lst .o 1 (nZ0.Nodes.map AV.z),.lst .o 4 (nZ0.Fibers.map (ah .o))])),(3,.var (.agg [.i rZ0.Start,.lst .o 1 (rZ0.Fibers.map AV.i)]))]⟩
def uk (v:Int):St:=⟨[(5,.i v)],[]⟩
theorem w_bg (nZ0:ae) (rZ0:au) (sZ1:Int×Int) (o:(Int×Int) ⊕ Int) (h:PA nZ0 rZ0 sZ1=some o):AWP (OkS Tryz.prog) wG (qL [2,3,5,6] [2,3] (CJ nZ0 rZ0) (qX 0 [5] [] (uk)) o) (CJ nZ0 rZ0 sZ1):=by
 unfold PA at h
 simp only [ZC,CJ,wG]
 obtain ⟨cZ2,h⟩ | ⟨cZ2,h⟩:=ai h
 · obtain ⟨yZ3,hyZ3,h⟩:=af h
   obtain ⟨hyZ3a,hyZ3b⟩:=ba hyZ3
   obtain ⟨yZ4,hyZ4,h⟩:=af h
   obtain ⟨hyZ4a,hyZ4b⟩:=ba hyZ4
   cases h
   exact ZL (ZA cZ2 (ZA hyZ3a (ZA hyZ3b (ZA hyZ4a hyZ4b)))) (ZA @CJ.eq_1 @uk.eq_1)
 · cases h
   exact ZL cZ2 (ZA @CJ.eq_1 @uk.eq_1)
theorem w_ct (nZ0:ae) (rZ0:au) {r:Int} (h:GV nZ0 rZ0=some r):Ok Tryz.prog 126 [.agg [.lst .o 1 (nZ0.Nodes.map AV.z),.lst .o 4 (nZ0.Fibers.map (ah .o))],.agg [.i rZ0.Start,.lst .o 1 (rZ0.Fibers.map AV.i)]] ((fun r=>.i r) r):=by
 refine ay bc m126 rfl ?_
 unfold GV at h
 simp only [ZC,A126,PM,aJ]
 obtain ⟨oZ5,hoZ5,h⟩:=af h
 try refine ZF trivial ?_
 refine aA (bf (aF (w_bg nZ0 rZ0) hoZ5 ?_)) ?_
 · exact ZK (ZA @CJ.eq_1 @uk.eq_1)
 · simp only [ZC,uk,GA]
   cases h
   exact ZL trivial @PM.eq_1
theorem ME (xZ0:Int) {r:Int} (h:uK xZ0=some r):Ok Tryz.prog 127 [.i xZ0] ((fun r=>.i r) r):=by
 refine ay bc m127 rfl ?_
 unfold uK at h
 simp only [ZC,A127,Fk,aJ]
 obtain ⟨cZ1,h⟩ | ⟨cZ1,h⟩:=ai h
 · cases h
   exact ZL cZ1 @Fk.eq_1
 · obtain ⟨cZ2,h⟩ | ⟨cZ2,h⟩:=ai h
   · cases h
     exact ZL (ZA cZ1 cZ2) @Fk.eq_1
   · cases h
     exact ZL (ZA cZ1 cZ2) @Fk.eq_1
def yZ (aZ0:au) (bZ0:au) (v:Int):St:=⟨[(4,.pt 4 0 0),(5,.pt 5 0 0),(9,.i v)],[(4,.var (.agg [.i aZ0.Start,.lst .o 1 (aZ0.Fibers.map AV.i)])),(5,.var (.agg [.i bZ0.Start,.lst .o 1 (bZ0.Fibers.map AV.i)]))]⟩
def uh (aZ0:au) (bZ0:au) (v:Unit):St:=⟨[(4,.pt 4 0 0),(5,.pt 5 0 0)],[(4,.var (.agg [.i aZ0.Start,.lst .o 1 (aZ0.Fibers.map AV.i)])),(5,.var (.agg [.i bZ0.Start,.lst .o 1 (bZ0.Fibers.map AV.i)]))]⟩
theorem w_ay (aZ0:au) (bZ0:au) (sZ7:Int) (o:Int ⊕ (Unit ⊕ Int)) (h:zl aZ0 bZ0 sZ7=some o):AWP (OkS Tryz.prog) Dt (qL [4,5,9] [4,5] (yZ aZ0 bZ0) (qS (qX 0 [4,5] [4,5] (uh aZ0 bZ0)) (qR V86 (fun r=>.i r))) o) (yZ aZ0 bZ0 sZ7):=by
 unfold zl at h
 simp only [ZC,yZ,Dt]
 obtain ⟨cZ8,h⟩ | ⟨cZ8,h⟩:=ai h
 · obtain ⟨yZ9,hyZ9,h⟩:=af h
   obtain ⟨hyZ9a,hyZ9b⟩:=ba hyZ9
   obtain ⟨yZ10,hyZ10,h⟩:=af h
   obtain ⟨hyZ10a,hyZ10b⟩:=ba hyZ10
   obtain ⟨cZ11,h⟩ | ⟨cZ11,h⟩:=ai h
   · obtain ⟨rZ12,hrZ12,h⟩:=af h
     refine ZF (ZA cZ8 (ZA hyZ9a (ZA hyZ9b (ZA hyZ10a (ZA hyZ10b cZ11))))) ?_
     refine ZS (ZA cZ8 (ZA hyZ9a (ZA hyZ9b (ZA hyZ10a (ZA hyZ10b cZ11))))) (ME _ hrZ12) ?_
     refine ZG ?_
     cases h
     exact ZL (ZA cZ8 (ZA hyZ9a (ZA hyZ9b (ZA hyZ10a (ZA hyZ10b cZ11))))) @V86.eq_1
   · cases h
     exact ZL (ZA cZ8 (ZA hyZ9a (ZA hyZ9b (ZA hyZ10a (ZA hyZ10b cZ11))))) (ZA @yZ.eq_1 @uh.eq_1)
 · cases h
   exact ZL cZ8 (ZA @yZ.eq_1 @uh.eq_1)
theorem w_ds (nZ0:ae) (aZ0:au) (bZ0:au) {r:Int} (h:Ho nZ0 aZ0 bZ0=some r):Ok Tryz.prog 86 [.agg [.lst .o 1 (nZ0.Nodes.map AV.z),.lst .o 4 (nZ0.Fibers.map (ah .o))],.agg [.i aZ0.Start,.lst .o 1 (aZ0.Fibers.map AV.i)],.agg [.i bZ0.Start,.lst .o 1 (bZ0.Fibers.map AV.i)]] ((fun r=>.i r) r):=by
 refine ay bc m86 rfl ?_
 unfold Ho at h
 simp only [ZC,A86,V86,aJ]
 obtain ⟨rZ1,hrZ1,h⟩:=af h
 refine ZF trivial ?_
 refine ZS trivial (w_ct _ _ hrZ1) ?_
 refine ZG ?_
 obtain ⟨rZ2,hrZ2,h⟩:=af h
 refine ZF trivial ?_
 refine ZS trivial (w_ct _ _ hrZ2) ?_
 refine ZG ?_
 obtain ⟨cZ3,h⟩ | ⟨cZ3,h⟩:=ai h
 · obtain ⟨rZ4,hrZ4,h⟩:=af h
   refine ZF cZ3 ?_
   refine ZS cZ3 (ME _ hrZ4) ?_
   refine ZG ?_
   cases h
   exact ZL cZ3 @V86.eq_1
 · obtain ⟨cZ5,h⟩ | ⟨cZ5,h⟩:=ai h
   · obtain ⟨rZ6,hrZ6,h⟩:=af h
     refine ZF (ZA cZ3 cZ5) ?_
     refine ZS (ZA cZ3 cZ5) (ME _ hrZ6) ?_
     refine ZG ?_
     cases h
     exact ZL (ZA cZ3 cZ5) @V86.eq_1
   · obtain ⟨oZ13,hoZ13,h⟩:=af h
     try refine ZF (ZA cZ3 cZ5) ?_
     refine bi (o:=oZ13) (br cZ (aF (w_ay aZ0 bZ0) hoZ13 ?_)) (fun vZ14 hv=>?_) (fun xZ15 hv e τ hne hq=>?_)
     · exact ZK (ZA @yZ.eq_1 @uh.eq_1)
     · subst hv
       simp only [] at h
       simp only [ZC,uh,NA]
       obtain ⟨rZ16,hrZ16,h⟩:=af h
       refine ZF (ZA cZ3 cZ5) ?_
       refine ZS (ZA cZ3 cZ5) (ME _ hrZ16) ?_
       refine ZG ?_
       cases h
       exact ZL (ZA cZ3 cZ5) @V86.eq_1
     · subst hv
       simp only [] at h
       obtain ⟨rfl,qZ17⟩:=hq
       cases h
       exact qZ17
theorem w_dt (nZ0:ae) (ringZ0:List Int) (fiberZ0:Int) {r:List au×Bool} (h:IB nZ0 ringZ0 fiberZ0=some r):Ok Tryz.prog 38 [.agg [.lst .o 1 (nZ0.Nodes.map AV.z),.lst .o 4 (nZ0.Fibers.map (ah .o))],.lst .o 1 (ringZ0.map AV.i),.i fiberZ0] ((fun r=>.tup [.lst .u 2 (r.1.map (aw .u)),.b r.2]) r):=by
 refine ay bc m38 rfl ?_
 unfold IB at h
 simp only [ZC,A38,V38,aJ]
 obtain ⟨oZ4,hoZ4,h⟩:=af h
 try refine ZF trivial ?_
 refine aA (sh:=(fun v=>⟨[(1,.lst .o 1 (ringZ0.map AV.i)),(2,.i fiberZ0),(3,.pt 3 0 0),(8,.sl 8 0 0),(29,.b v)],[(3,.var (.agg [.lst .o 1 (nZ0.Nodes.map AV.z),.lst .o 4 (nZ0.Fibers.map (ah .o))])),(8,.arr 2 [])]⟩)) (s:=oZ4) ?_ ?_
 · replace h:=hoZ4
   obtain ⟨rZ1,hrZ1,h⟩:=af h
   refine ZF trivial ?_
   refine ZS trivial (w_dp _ _ hrZ1) ?_
   refine ZG ?_
   obtain ⟨cZ2,h⟩ | ⟨cZ2,h⟩:=ai h
   · cases h
     exact ZL cZ2 trivial
   · obtain ⟨rZ3,hrZ3,h⟩:=af h
     refine ZF cZ2 ?_
     refine ZS cZ2 (w_h _ _ _ hrZ3) ?_
     refine ZG ?_
     cases h
     exact ZL cZ2 trivial
 · simp only [ZC,Oz]
   obtain ⟨cZ5,h⟩ | ⟨cZ5,h⟩:=ai h
   · cases h
     exact ZL cZ5 @V38.eq_1
   · obtain ⟨rZ6,hrZ6,h⟩:=af h
     refine ZF cZ5 ?_
     refine ZU cZ5 (w_dq _ _ hrZ6) ?_
     refine ZG ?_
     obtain ⟨oZ10,hoZ10,h⟩:=af h
     try refine ZF cZ5 ?_
     refine aA (sh:=(fun v=>⟨[(1,.lst .o 1 (ringZ0.map AV.i)),(2,.i fiberZ0),(3,.pt 3 0 0),(8,.sl 8 0 0),(46,.b v)],[(3,.var (.agg [.lst .o 1 (nZ0.Nodes.map AV.z),.lst .o 4 (nZ0.Fibers.map (ah .o))])),(8,.arr 2 [])]⟩)) (s:=oZ10) ?_ ?_
     · replace h:=hoZ10
       obtain ⟨rZ7,hrZ7,h⟩:=af h
       refine ZF cZ5 ?_
       refine ZS cZ5 (w_b _ _ hrZ7) ?_
       refine ZG ?_
       obtain ⟨cZ8,h⟩ | ⟨cZ8,h⟩:=ai h
       · obtain ⟨rZ9,hrZ9,h⟩:=af h
         refine ZF (ZA cZ5 cZ8) ?_
         refine ZS (ZA cZ5 cZ8) (w_b _ _ hrZ9) ?_
         refine ZG ?_
         cases h
         exact ZL (ZA cZ5 cZ8) trivial
       · cases h
         exact ZL (ZA cZ5 cZ8) trivial
     · simp only [ZC,OQ]
       obtain ⟨cZ11,h⟩ | ⟨cZ11,h⟩:=ai h
       · cases h
         exact ZL (ZA cZ5 cZ11) @V38.eq_1
       · obtain ⟨yZ12,hyZ12,h⟩:=af h
         obtain ⟨hyZ12a,hyZ12b⟩:=ba hyZ12
         obtain ⟨rZ13,hrZ13,h⟩:=af h
         refine ZF (ZA cZ5 (ZA cZ11 (ZA hyZ12a hyZ12b))) ?_
         refine ZU (ZA cZ5 (ZA cZ11 (ZA hyZ12a hyZ12b))) (w_cq _ _ _ _ hrZ13) ?_
         refine ZG ?_
         obtain ⟨rZ14,hrZ14,h⟩:=af h
         refine ZF (ZA cZ5 (ZA cZ11 (ZA hyZ12a hyZ12b))) ?_
         refine ZU (ZA cZ5 (ZA cZ11 (ZA hyZ12a hyZ12b))) (w_cq _ _ _ _ hrZ14) ?_
         refine ZG ?_
         obtain ⟨rZ15,hrZ15,h⟩:=af h
         refine ZF (ZA cZ5 (ZA cZ11 (ZA hyZ12a hyZ12b))) ?_
         refine ZU (ZA cZ5 (ZA cZ11 (ZA hyZ12a hyZ12b))) (w_dr _ _ hrZ15) ?_
         refine ZG ?_
         obtain ⟨oZ18,hoZ18,h⟩:=af h
         try refine ZF (ZA cZ5 (ZA cZ11 (ZA hyZ12a hyZ12b))) ?_
         refine aA (sh:=(fun v=>⟨[(2,.i fiberZ0),(8,.sl 8 0 0),(12,.pt 12 0 0),(13,.pt 13 0 0)],[(8,.arr 2 []),(12,.var (.agg [.i v.1,.sl 500000769 0 v.2.2.1.length])),(13,.var (.agg [.i v.2.1,.sl 500000833 0 v.2.2.2.length])),(500000769,.arr 1 (v.2.2.1.map AV.i)),(500000833,.arr 1 (v.2.2.2.map AV.i))]⟩)) (s:=oZ18) ?_ ?_
         · replace h:=hoZ18
           obtain ⟨rZ16,hrZ16,h⟩:=af h
           refine ZF (ZA cZ5 (ZA cZ11 (ZA hyZ12a hyZ12b))) ?_
           refine ZS (ZA cZ5 (ZA cZ11 (ZA hyZ12a hyZ12b))) (w_ds _ _ _ hrZ16) ?_
           refine ZG ?_
           obtain ⟨cZ17,h⟩ | ⟨cZ17,h⟩:=ai h
           · cases h
             exact ZL (ZA cZ5 (ZA cZ11 (ZA hyZ12a (ZA hyZ12b cZ17)))) trivial
           · cases h
             exact ZL (ZA cZ5 (ZA cZ11 (ZA hyZ12a (ZA hyZ12b cZ17)))) trivial
         · simp only [ZC,OO]
           obtain ⟨oZ25,hoZ25,h⟩:=af h
           try refine ZF (ZA cZ5 (ZA cZ11 (ZA hyZ12a hyZ12b))) ?_
           refine aA (sh:=(fun v=>⟨[(2,.i fiberZ0),(8,.sl 8 0 v.length),(13,.pt 13 0 0)],[(8,.arr 2 (v.map (aw .u))),(13,.var (.agg [.i oZ18.2.1,.sl 500000833 0 oZ18.2.2.2.length])),(500000833,.arr 1 (oZ18.2.2.2.map AV.i))]⟩)) (s:=oZ25) ?_ ?_
           · replace h:=hoZ25
             obtain ⟨rZ19,hrZ19,h⟩:=af h
             refine ZF (ZA cZ5 (ZA cZ11 (ZA hyZ12a hyZ12b))) ?_
             refine ZS (ZA cZ5 (ZA cZ11 (ZA hyZ12a hyZ12b))) (w_b _ _ hrZ19) ?_
             refine ZG ?_
             obtain ⟨cZ20,h⟩ | ⟨cZ20,h⟩:=ai h
             · obtain ⟨lZ21,hlZ21,h⟩:=aQ h
               have eZ22:Row.arr 2 [(.agg [.i oZ18.1,.lst .u 1 (oZ18.2.2.1.map AV.i)]:AV)]=Row.arr 2 (lZ21.map (aw .u)):=by rw [← hlZ21]; rfl
               have jjZ23:lZ21.length=1:=by rw [← hlZ21]; rfl
               obtain ⟨uZ24,huZ24,h⟩:=af h
               have huZ24g:=aR huZ24
               cases h
               exact ZL (ZA cZ5 (ZA cZ11 (ZA hyZ12a (ZA hyZ12b (ZA cZ20 (ZA eZ22 (ZA jjZ23 huZ24g))))))) (ZA hlZ21.symm jjZ23)
             · cases h
               exact ZL (ZA cZ5 (ZA cZ11 (ZA hyZ12a (ZA hyZ12b cZ20)))) trivial
           · simp only [ZC,NP]
             obtain ⟨rZ26,hrZ26,h⟩:=af h
             refine ZF (ZA cZ5 (ZA cZ11 (ZA hyZ12a hyZ12b))) ?_
             refine ZS (ZA cZ5 (ZA cZ11 (ZA hyZ12a hyZ12b))) (w_b _ _ hrZ26) ?_
             refine ZG ?_
             obtain ⟨cZ27,h⟩ | ⟨cZ27,h⟩:=ai h
             · obtain ⟨lZ28,hlZ28,h⟩:=aQ h
               have eZ29:Row.arr 2 [(.agg [.i oZ18.2.1,.lst .u 1 (oZ18.2.2.2.map AV.i)]:AV)]=Row.arr 2 (lZ28.map (aw .u)):=by rw [← hlZ28]; rfl
               have jjZ30:lZ28.length=1:=by rw [← hlZ28]; rfl
               obtain ⟨uZ31,huZ31,h⟩:=af h
               have huZ31g:=aR huZ31
               obtain ⟨lZ32,hlZ32,h⟩:=aQ h
               have eZ33:oZ25.map (aw .u)++lZ28.map (aw .u)=lZ32.map (aw .u):=by rw [← hlZ32,List.map_append]
               have eZ34:oZ25.length+1=lZ32.length:=by simp [← hlZ28,← hlZ32] <;> omega
               rw [eZ34] at huZ31g
               cases h
               exact ZL (ZA cZ5 (ZA cZ11 (ZA hyZ12a (ZA hyZ12b (ZA cZ27 (ZA eZ29 (ZA jjZ30 (ZA huZ31g (ZA eZ33 eZ34))))))))) (ZA @V38.eq_1 (ZA hlZ28.symm (ZA hlZ32.symm jjZ30)))
             · cases h
               exact ZL (ZA cZ5 (ZA cZ11 (ZA hyZ12a (ZA hyZ12b cZ27)))) @V38.eq_1
def Cv (nZ0:ae) (rZ0:au) (v:Int×Int×List Int):St:=⟨[(2,.pt 2 0 0),(6,.sl 6 0 v.2.2.length),(7,.i v.1),(30,.lst .o 1 (rZ0.Fibers.map AV.i)),(31,.i (rZ0.Fibers.length:Int)),(32,.i v.2.1)],[(2,.var (.agg [.lst .o 1 (nZ0.Nodes.map AV.z),.lst .o 4 (nZ0.Fibers.map (ah .o))])),(6,.arr 1 (v.2.2.map AV.i))]⟩
def tn (v:List Int):St:=⟨[(6,.sl 6 0 v.length)],[(6,.arr 1 (v.map AV.i))]⟩
theorem w_ah (nZ0:ae) (rZ0:au) (sZ8:Int×Int×List Int) (o:(Int×Int×List Int) ⊕ ((List Int) ⊕ (List Int×Bool))) (h:vE nZ0 rZ0 sZ8=some o):AWP (OkS Tryz.prog) Ei (qL [2,6,7,30,31,32] [2,6] (Cv nZ0 rZ0) (qS (qX 0 [6] [6] (tn)) (qR V87 (fun r=>.tup [.lst .u 1 (r.1.map AV.i),.b r.2]))) o) (Cv nZ0 rZ0 sZ8):=by
 unfold vE at h
 simp only [ZC,Cv,Ei]
 obtain ⟨cZ9,h⟩ | ⟨cZ9,h⟩:=ai h
 · obtain ⟨yZ10,hyZ10,h⟩:=af h
   obtain ⟨hyZ10a,hyZ10b⟩:=ba hyZ10
   obtain ⟨rZ11,hrZ11,h⟩:=af h
   refine ZF (ZA cZ9 (ZA hyZ10a hyZ10b)) ?_
   refine ZS (ZA cZ9 (ZA hyZ10a hyZ10b)) (w_q _ _ _ hrZ11) ?_
   refine ZG ?_
   obtain ⟨cZ12,h⟩ | ⟨cZ12,h⟩:=ai h
   · cases h
     exact ZL (ZA cZ9 (ZA hyZ10a (ZA hyZ10b cZ12))) @V87.eq_1
   · obtain ⟨yZ13,hyZ13,h⟩:=af h
     obtain ⟨hyZ13a,hyZ13b⟩:=ba hyZ13
     obtain ⟨rZ14,hrZ14,h⟩:=af h
     refine ZF (ZA cZ9 (ZA hyZ10a (ZA hyZ10b (ZA cZ12 (ZA hyZ13a hyZ13b))))) ?_
     refine ZS (ZA cZ9 (ZA hyZ10a (ZA hyZ10b (ZA cZ12 (ZA hyZ13a hyZ13b))))) (Lq _ _ hrZ14) ?_
     refine ZG ?_
     obtain ⟨oZ17,hoZ17,h⟩:=af h
     try refine ZF (ZA cZ9 (ZA hyZ10a (ZA hyZ10b (ZA cZ12 (ZA hyZ13a hyZ13b))))) ?_
     refine aA (sh:=(fun v=>⟨[(2,.pt 2 0 0),(6,.sl 6 0 sZ8.2.2.length),(7,.i rZ14),(30,.lst .o 1 (rZ0.Fibers.map AV.i)),(31,.i (rZ0.Fibers.length:Int)),(32,.i sZ8.2.1),(56,.b v)],[(2,.var (.agg [.lst .o 1 (nZ0.Nodes.map AV.z),.lst .o 4 (nZ0.Fibers.map (ah .o))])),(6,.arr 1 (sZ8.2.2.map AV.i))]⟩)) (s:=oZ17) ?_ ?_
     · replace h:=hoZ17
       obtain ⟨cZ15,h⟩ | ⟨cZ15,h⟩:=ai h
       · cases h
         exact ZL (ZA cZ9 (ZA hyZ10a (ZA hyZ10b (ZA cZ12 (ZA hyZ13a (ZA hyZ13b cZ15)))))) trivial
       · obtain ⟨rZ16,hrZ16,h⟩:=af h
         refine ZF (ZA cZ9 (ZA hyZ10a (ZA hyZ10b (ZA cZ12 (ZA hyZ13a (ZA hyZ13b cZ15)))))) ?_
         refine ZS (ZA cZ9 (ZA hyZ10a (ZA hyZ10b (ZA cZ12 (ZA hyZ13a (ZA hyZ13b cZ15)))))) (w_m _ _ hrZ16) ?_
         refine ZG ?_
         cases h
         exact ZL (ZA cZ9 (ZA hyZ10a (ZA hyZ10b (ZA cZ12 (ZA hyZ13a (ZA hyZ13b cZ15)))))) trivial
     · simp only [ZC,NZ]
       obtain ⟨cZ18,h⟩ | ⟨cZ18,h⟩:=ai h
       · cases h
         exact ZL (ZA cZ9 (ZA hyZ10a (ZA hyZ10b (ZA cZ12 (ZA hyZ13a (ZA hyZ13b cZ18)))))) @V87.eq_1
       · obtain ⟨lZ19,hlZ19,h⟩:=aQ h
         have eZ20:Row.arr 1 [(.i rZ14:AV)]=Row.arr 1 (lZ19.map AV.i):=by rw [← hlZ19]; rfl
         have jjZ21:lZ19.length=1:=by rw [← hlZ19]; rfl
         obtain ⟨uZ22,huZ22,h⟩:=af h
         have huZ22g:=aR huZ22
         obtain ⟨lZ23,hlZ23,h⟩:=aQ h
         have eZ24:sZ8.2.2.map AV.i++lZ19.map AV.i=lZ23.map AV.i:=by rw [← hlZ23,List.map_append]
         have eZ25:sZ8.2.2.length+1=lZ23.length:=by simp [← hlZ19,← hlZ23] <;> omega
         rw [eZ25] at huZ22g
         cases h
         exact ZL (ZA cZ9 (ZA hyZ10a (ZA hyZ10b (ZA cZ12 (ZA hyZ13a (ZA hyZ13b (ZA cZ18 (ZA eZ20 (ZA jjZ21 (ZA huZ22g (ZA eZ24 eZ25))))))))))) (ZA @Cv.eq_1 (ZA @tn.eq_1 (ZA hlZ19.symm (ZA hlZ23.symm jjZ21))))
 · cases h
   exact ZL cZ9 (ZA @Cv.eq_1 @tn.eq_1)
theorem w_du (nZ0:ae) (rZ0:au) {r:List Int×Bool} (h:Dg nZ0 rZ0=some r):Ok Tryz.prog 87 [.agg [.lst .o 1 (nZ0.Nodes.map AV.z),.lst .o 4 (nZ0.Fibers.map (ah .o))],.agg [.i rZ0.Start,.lst .o 1 (rZ0.Fibers.map AV.i)]] ((fun r=>.tup [.lst .u 1 (r.1.map AV.i),.b r.2]) r):=by
 refine ay bc m87 rfl ?_
 unfold Dg at h
 simp only [ZC,A87,V87,aJ]
 obtain ⟨oZ3,hoZ3,h⟩:=af h
 try refine ZF trivial ?_
 refine aA (sh:=(fun v=>⟨[(2,.pt 2 0 0),(3,.pt 3 0 0),(23,.b v)],[(2,.var (.agg [.lst .o 1 (nZ0.Nodes.map AV.z),.lst .o 4 (nZ0.Fibers.map (ah .o))])),(3,.var (.agg [.i rZ0.Start,.lst .o 1 (rZ0.Fibers.map AV.i)]))]⟩)) (s:=oZ3) ?_ ?_
 · replace h:=hoZ3
   obtain ⟨rZ1,hrZ1,h⟩:=af h
   refine ZF trivial ?_
   refine ZS trivial (w_q _ _ _ hrZ1) ?_
   refine ZG ?_
   obtain ⟨cZ2,h⟩ | ⟨cZ2,h⟩:=ai h
   · cases h
     exact ZL cZ2 trivial
   · cases h
     exact ZL cZ2 trivial
 · simp only [ZC,Nz]
   obtain ⟨cZ4,h⟩ | ⟨cZ4,h⟩:=ai h
   · cases h
     exact ZL cZ4 @V87.eq_1
   · obtain ⟨lZ5,hlZ5,h⟩:=aQ h
     have eZ6:Row.arr 1 [(.i rZ0.Start:AV)]=Row.arr 1 (lZ5.map AV.i):=by rw [← hlZ5]; rfl
     have jjZ7:lZ5.length=1:=by rw [← hlZ5]; rfl
     obtain ⟨oZ26,hoZ26,h⟩:=af h
     try refine ZF (ZA cZ4 (ZA eZ6 jjZ7)) ?_
     refine bi (o:=oZ26) (br cZ (aF (w_ah nZ0 rZ0) hoZ26 ?_)) (fun vZ27 hv=>?_) (fun xZ28 hv e τ hne hq=>?_)
     · exact ZK (ZA @Cv.eq_1 (ZA @tn.eq_1 (ZA hlZ5.symm jjZ7)))
     · subst hv
       simp only [] at h
       simp only [ZC,tn,NN]
       cases h
       exact ZL (ZA cZ4 (ZA eZ6 jjZ7)) (ZA @V87.eq_1 jjZ7)
     · subst hv
       simp only [] at h
       obtain ⟨rfl,qZ29⟩:=hq
       cases h
       exact qZ29
theorem w_cd (nZ0:ae) (rZ0:au) {r:List Int×Bool} (h:uJ nZ0 rZ0=some r):Ok Tryz.prog 39 [.agg [.lst .o 1 (nZ0.Nodes.map AV.z),.lst .o 4 (nZ0.Fibers.map (ah .o))],.agg [.i rZ0.Start,.lst .o 1 (rZ0.Fibers.map AV.i)]] ((fun r=>.tup [.lst .u 1 (r.1.map AV.i),.b r.2]) r):=by
 refine ay bc m39 rfl ?_
 unfold uJ at h
 simp only [ZC,A39,V39,aJ]
 obtain ⟨rZ1,hrZ1,h⟩:=af h
 refine ZF trivial ?_
 refine ZS trivial (Qp _ hrZ1) ?_
 refine ZG ?_
 obtain ⟨cZ2,h⟩ | ⟨cZ2,h⟩:=ai h
 · cases h
   exact ZL cZ2 @V39.eq_1
 · obtain ⟨rZ3,hrZ3,h⟩:=af h
   refine ZF cZ2 ?_
   refine ZU cZ2 (w_du _ _ hrZ3) ?_
   refine ZG ?_
   cases h
   exact ZL cZ2 @V39.eq_1
def zP (lZ0:List Int) (xZ0:Int) (v:Int):St:=⟨[(0,.lst .o 1 (lZ0.map AV.i)),(1,.i xZ0),(5,.i v)],[]⟩
def uP (v:Unit):St:=⟨[],[]⟩
theorem w_az (lZ0:List Int) (xZ0:Int) (sZ1:Int) (o:Int ⊕ (Unit ⊕ Bool)) (h:Ba lZ0 xZ0 sZ1=some o):AWP (OkS Tryz.prog) Hb (qL [0,1,5] [] (zP lZ0 xZ0) (qS (qX 0 [] [] (uP)) (qR V27 (fun r=>.b r))) o) (zP lZ0 xZ0 sZ1):=by
 unfold Ba at h
 simp only [ZC,zP,Hb]
 obtain ⟨cZ2,h⟩ | ⟨cZ2,h⟩:=ai h
 · obtain ⟨yZ3,hyZ3,h⟩:=af h
   obtain ⟨hyZ3a,hyZ3b⟩:=ba hyZ3
   obtain ⟨cZ4,h⟩ | ⟨cZ4,h⟩:=ai h
   · cases h
     exact ZL (ZA cZ2 (ZA hyZ3a (ZA hyZ3b cZ4))) @V27.eq_1
   · cases h
     exact ZL (ZA cZ2 (ZA hyZ3a (ZA hyZ3b cZ4))) (ZA @zP.eq_1 @uP.eq_1)
 · cases h
   exact ZL cZ2 (ZA @zP.eq_1 @uP.eq_1)
theorem w_ce (lZ0:List Int) (xZ0:Int) {r:Bool} (h:xj lZ0 xZ0=some r):Ok Tryz.prog 27 [.lst .o 1 (lZ0.map AV.i),.i xZ0] ((fun r=>.b r) r):=by
 refine ay bc m27 rfl ?_
 unfold xj at h
 simp only [ZC,A27,V27,aJ]
 obtain ⟨oZ5,hoZ5,h⟩:=af h
 try refine ZF trivial ?_
 refine bi (o:=oZ5) (br cZ (aF (w_az lZ0 xZ0) hoZ5 ?_)) (fun vZ6 hv=>?_) (fun xZ7 hv e τ hne hq=>?_)
 · exact ZK (ZA @zP.eq_1 @uP.eq_1)
 · subst hv
   simp only [] at h
   simp only [ZC,uP,Oe]
   cases h
   exact ZL trivial @V27.eq_1
 · subst hv
   simp only [] at h
   obtain ⟨rfl,qZ8⟩:=hq
   cases h
   exact qZ8
theorem w_en (xZ0:Int) {r:Int} (h:Pc xZ0=some r):Ok Tryz.prog 152 [.sc (.int .u64 xZ0)] ((fun r=>.i r) r):=by
 refine ay bc m152 rfl ?_
 unfold Pc at h
 simp only [ZC,A152,Qi,aJ]
 obtain ⟨oZ2,hoZ2,h⟩:=af h
 try refine ZF trivial ?_
 refine aA (sh:=(fun v=>⟨[(0,.sc (.int .u64 v.1)),(2,.i v.2)],[]⟩)) (s:=oZ2) ?_ ?_
 · replace h:=hoZ2
   obtain ⟨cZ1,h⟩ | ⟨cZ1,h⟩:=ai h
   · cases h
     exact ZL cZ1 trivial
   · cases h
     exact ZL cZ1 trivial
 · simp only [ZC,FV]
   obtain ⟨oZ4,hoZ4,h⟩:=af h
   try refine ZF trivial ?_
   refine aA (sh:=(fun v=>⟨[(0,.sc (.int .u64 v.1)),(2,.i v.2)],[]⟩)) (s:=oZ4) ?_ ?_
   · replace h:=hoZ4
     obtain ⟨cZ3,h⟩ | ⟨cZ3,h⟩:=ai h
     · cases h
       exact ZL cZ3 trivial
     · cases h
       exact ZL cZ3 trivial
   · simp only [ZC,Jh]
     obtain ⟨oZ6,hoZ6,h⟩:=af h
     try refine ZF trivial ?_
     refine aA (sh:=(fun v=>⟨[(0,.sc (.int .u64 v.1)),(2,.i v.2)],[]⟩)) (s:=oZ6) ?_ ?_
     · replace h:=hoZ6
       obtain ⟨cZ5,h⟩ | ⟨cZ5,h⟩:=ai h
       · cases h
         exact ZL cZ5 trivial
       · cases h
         exact ZL cZ5 trivial
     · simp only [ZC,DD]
       obtain ⟨yZ7,hyZ7,h⟩:=af h
       obtain ⟨hyZ7a,hyZ7b⟩:=rX hyZ7
       cases h
       exact ZL (ZA hyZ7a hyZ7b) @Qi.eq_1
theorem w_dv (xZ0:Int) {r:Int} (h:Fi xZ0=some r):Ok Tryz.prog 119 [.sc (.int .u64 xZ0)] ((fun r=>.i r) r):=by
 refine ay bc m119 rfl ?_
 unfold Fi at h
 simp only [ZC,A119,Qf,aJ]
 obtain ⟨rZ1,hrZ1,h⟩:=af h
 refine ZF trivial ?_
 refine ZS trivial (w_en _ hrZ1) ?_
 refine ZG ?_
 cases h
 exact ZL trivial @Qf.eq_1
theorem w_dw (xZ0:Int) (yZ0:Int) {r:Bool} (h:Gc xZ0 yZ0=some r):Ok Tryz.prog 164 [.i xZ0,.i yZ0] ((fun r=>.b r) r):=by
 refine ay bc m164 rfl ?_
 unfold Gc at h
 simp only [ZC,A164,GB,aJ]
 obtain ⟨rZ1,hrZ1,h⟩:=af h
 refine ZF trivial ?_
 refine ZS trivial (Ni _ hrZ1) ?_
 refine ZG ?_
 obtain ⟨cZ2,h⟩ | ⟨cZ2,h⟩:=ai h
 · obtain ⟨rZ3,hrZ3,h⟩:=af h
   refine ZF cZ2 ?_
   refine ZS cZ2 (Ni _ hrZ3) ?_
   refine ZG ?_
   obtain ⟨cZ4,h⟩ | ⟨cZ4,h⟩:=ai h
   · cases h
     exact ZL (ZA cZ2 cZ4) @GB.eq_1
   · cases h
     exact ZL (ZA cZ2 cZ4) @GB.eq_1
 · cases h
   exact ZL cZ2 @GB.eq_1
def S_o (aaZ0:Int) (abZ0:Int) (sZ1:Int×List Int) (v:Int×List Int):St:=⟨[(0,.sl 1000000000 0 v.2.length),(1,.i aaZ0),(2,.i abZ0),(6,.i sZ1.1),(7,.i v.1)],[(1000000000,.arr 1 (v.2.map AV.i))]⟩
def FG (aaZ0:Int) (abZ0:Int) (sZ1:Int×List Int) (v:List Int):St:=⟨[(0,.sl 1000000000 0 v.length),(1,.i aaZ0),(2,.i abZ0),(6,.i sZ1.1)],[(1000000000,.arr 1 (v.map AV.i))]⟩
theorem w_o (aaZ0:Int) (abZ0:Int) (sZ1:Int×List Int) (sZ3:Int×List Int) (o:(Int×List Int) ⊕ (List Int)) (h:M_o aaZ0 sZ3=some o):AWP (OkS Tryz.prog) oz (qL [0,1,2,6,7] [1000000000] (S_o aaZ0 abZ0 sZ1) (qX 2 [0,1,2,6] [1000000000] (FG aaZ0 abZ0 sZ1)) o) (S_o aaZ0 abZ0 sZ1 sZ3):=by
 unfold M_o at h
 simp only [ZC,S_o,oz]
 obtain ⟨oZ10,hoZ10,h⟩:=af h
 try refine ZF trivial ?_
 refine aA (sh:=(fun v=>⟨[(0,.sl 1000000000 0 sZ3.2.length),(1,.i aaZ0),(2,.i abZ0),(6,.i sZ1.1),(7,.i sZ3.1),(30,.b v)],[(1000000000,.arr 1 (sZ3.2.map AV.i))]⟩)) (s:=oZ10) ?_ ?_
 · replace h:=hoZ10
   obtain ⟨cZ4,h⟩ | ⟨cZ4,h⟩:=ai h
   · obtain ⟨kZ5,hkZ5,h⟩:=af h
     obtain ⟨hkZ5a,hkZ5b⟩:=aR hkZ5
     obtain ⟨yZ6,hyZ6,h⟩:=af h
     obtain ⟨kZ7,hkZ7,h⟩:=af h
     obtain ⟨hkZ7a,hkZ7b⟩:=aR hkZ7
     obtain ⟨yZ8,hyZ8,h⟩:=af h
     obtain ⟨rZ9,hrZ9,h⟩:=af h
     refine ZF (ZA cZ4 (ZA hkZ5a (ZA hkZ5b (ZA hyZ6 (ZA hkZ7a (ZA hkZ7b hyZ8)))))) ?_
     refine ZS (ZA cZ4 (ZA hkZ5a (ZA hkZ5b (ZA hyZ6 (ZA hkZ7a (ZA hkZ7b hyZ8)))))) (w_dw _ _ hrZ9) ?_
     refine ZG ?_
     cases h
     exact ZL (ZA cZ4 (ZA hkZ5a (ZA hkZ5b (ZA hyZ6 (ZA hkZ7a (ZA hkZ7b hyZ8)))))) trivial
   · cases h
     exact ZL cZ4 trivial
 · simp only [ZC,sP]
   obtain ⟨cZ11,h⟩ | ⟨cZ11,h⟩:=ai h
   · obtain ⟨kZ12,hkZ12,h⟩:=af h
     obtain ⟨hkZ12a,hkZ12b⟩:=aR hkZ12
     obtain ⟨yZ13,hyZ13,h⟩:=af h
     obtain ⟨kZ14,hkZ14,h⟩:=af h
     obtain ⟨hkZ14a,hkZ14b⟩:=aR hkZ14
     obtain ⟨yZ15,hyZ15,h⟩:=af h
     obtain ⟨lZ16,hlZ16,h⟩:=aQ h
     have eZ17:(sZ3.2.map AV.i).set (Int.toNat sZ3.1) (.i yZ13)=lZ16.map AV.i:=by rw [← hlZ16,List.map_set]
     obtain ⟨yZ18,hyZ18,h⟩:=af h
     obtain ⟨lZ19,hlZ19,h⟩:=aQ h
     have eZ20:(lZ16.map AV.i).set (Int.toNat (IntKind.wrap .i64 (sZ3.1 - 1))) (.i yZ15)=lZ19.map AV.i:=by rw [← hlZ19,List.map_set]
     cases h
     exact ZL (ZA cZ11 (ZA hkZ12a (ZA hkZ12b (ZA hyZ13 (ZA hkZ14a (ZA hkZ14b (ZA hyZ15 (ZA eZ17 (ZA hyZ18 eZ20))))))))) (ZA @S_o.eq_1 (ZA @FG.eq_1 (ZA hlZ16.symm hlZ19.symm)))
   · cases h
     exact ZL cZ11 (ZA @S_o.eq_1 @FG.eq_1)
def Bb (aaZ0:Int) (abZ0:Int) (v:Int×List Int):St:=⟨[(0,.sl 1000000000 0 v.2.length),(1,.i aaZ0),(2,.i abZ0),(6,.i v.1)],[(1000000000,.arr 1 (v.2.map AV.i))]⟩
def sJ (v:List Int):St:=⟨[],[(1000000000,.arr 1 (v.map AV.i))]⟩
theorem w_ai (aaZ0:Int) (abZ0:Int) (sZ1:Int×List Int) (o:(Int×List Int) ⊕ (List Int)) (h:zX aaZ0 abZ0 sZ1=some o):AWP (OkS Tryz.prog) mT (qL [0,1,2,6] [1000000000] (Bb aaZ0 abZ0) (qX 0 [] [1000000000] (sJ)) o) (Bb aaZ0 abZ0 sZ1):=by
 unfold zX at h
 simp only [ZC,Bb,mT]
 obtain ⟨cZ2,h⟩ | ⟨cZ2,h⟩:=ai h
 · obtain ⟨oZ23,hoZ23,h⟩:=af h
   try refine ZF cZ2 ?_
   refine aA (sh:=(fun v=>⟨[(0,.sl 1000000000 0 v.length),(1,.i aaZ0),(2,.i abZ0),(6,.i sZ1.1)],[(1000000000,.arr 1 (v.map AV.i))]⟩)) (s:=oZ23) ?_ ?_
   · replace h:=hoZ23
     obtain ⟨oZ21,hoZ21,h⟩:=af h
     try refine ZF cZ2 ?_
     first | refine dG (bf (aF (w_o aaZ0 abZ0 sZ1) hoZ21 ?_)) (fun τ qZ22=>?_) | refine fH (aF (w_o aaZ0 abZ0 sZ1) hoZ21 ?_) (fun τ qZ22=>?_)
     · exact ZK (ZA @S_o.eq_1 @FG.eq_1)
     · cases h
       try refine ZF trivial ?_
       refine ⟨rfl,Shp.sub qZ22 (by decide) (by decide) ?_⟩
       exact ZK @FG.eq_1
   · simp only [ZC,uX]
     cases h
     exact ZL cZ2 (ZA @Bb.eq_1 @sJ.eq_1)
 · cases h
   exact ZL cZ2 (ZA @Bb.eq_1 @sJ.eq_1)
theorem w_dx (aaZ0:Int) (abZ0:Int) (acZ0:List Int) {r:List Int} (h:FH aaZ0 abZ0 acZ0=some r):OkM Tryz.prog 158 [.sl 1000000000 0 acZ0.length,.i aaZ0,.i abZ0] [(1000000000,.arr 1 (acZ0.map AV.i))] ((fun (r:List Int)=>.tup []) r) ((fun (r:List Int)=>[(1000000000,.arr 1 (r.map AV.i))]) r):=by
 refine bl (lr:=[1000000000]) bc PB rfl rfl ?_
 unfold FH at h
 simp only [ZC,Gy,xd]
 obtain ⟨oZ24,hoZ24,h⟩:=af h
 try refine ZF trivial ?_
 first | refine dG (bf (aF (w_ai aaZ0 abZ0) hoZ24 ?_)) (fun τ qZ25=>?_) | refine fH (aF (w_ai aaZ0 abZ0) hoZ24 ?_) (fun τ qZ25=>?_)
 · exact ZK (ZA @Bb.eq_1 @sJ.eq_1)
 · cases h
   refine jg qZ25 (by decide) ?_ rfl
   exact ZK (ZA @xd.eq_1 @sJ.eq_1)
def Ld (aaZ0:Int) (abZ0:Int) (acZ0:Int) (adZ0:List Int) (v:Unit):St:=⟨[(0,.sl 1000000000 0 adZ0.length),(1,.i aaZ0),(2,.i abZ0),(3,.i acZ0),(8,.b true),(9,.b true)],[(1000000000,.arr 1 (adZ0.map AV.i))]⟩
def ND (v:Empty):St:=⟨[],[]⟩
theorem w_bk (aaZ0:Int) (abZ0:Int) (acZ0:Int) (adZ0:List Int) (sZ1:Unit) (o:Unit ⊕ (Empty ⊕ (List Int))) (h:Lt aaZ0 abZ0 acZ0 adZ0 sZ1=some o):AWP (OkS Tryz.prog) nD (qL [0,1,2,3,8,9] [1000000000] (Ld aaZ0 abZ0 acZ0 adZ0) (qS (qX 0 [] [] (ND)) (qM ry [1000000000] (fun (r:List Int)=>.tup []) (fun (r:List Int)=>[(1000000000,.arr 1 (r.map AV.i))]))) o) (Ld aaZ0 abZ0 acZ0 adZ0 sZ1):=by
 unfold Lt at h
 simp only [ZC,Ld,nD]
 obtain ⟨cZ2,h⟩ | ⟨cZ2,h⟩:=ai h
 · obtain ⟨rZ3,hrZ3,h⟩:=af h
   refine ZF cZ2 ?_
   refine ZW cZ2 (w_dx _ _ _ hrZ3) (h2:=by first | exact bA [1000000000] rfl (by decide +kernel) | exact be [1000000000] [] rfl (by decide +kernel) ZQ | exact ZQ) (hk:=?_)
   refine ZG ?_
   cases h
   exact ZL cZ2 @ry.eq_1
 · obtain ⟨cZ4,h⟩ | ⟨cZ4,h⟩:=ai h
   · cases h
   · cases h
theorem w_ek (aaZ0:Int) (abZ0:Int) (acZ0:Int) (adZ0:List Int) {r:List Int} (h:Nd aaZ0 abZ0 acZ0 adZ0=some r):OkM Tryz.prog 138 [.sl 1000000000 0 adZ0.length,.i aaZ0,.i abZ0,.i acZ0] [(1000000000,.arr 1 (adZ0.map AV.i))] ((fun (r:List Int)=>.tup []) r) ((fun (r:List Int)=>[(1000000000,.arr 1 (r.map AV.i))]) r):=by
 refine bl (lr:=[1000000000]) bc Pa rfl rfl ?_
 unfold Nd at h
 simp only [ZC,GK,ry]
 obtain ⟨oZ5,hoZ5,h⟩:=af h
 try refine ZF trivial ?_
 first | refine qg (o:=oZ5) (br Ig (aF (w_bk aaZ0 abZ0 acZ0 adZ0) hoZ5 ?_)) (fun vZ6 hv τ qZ8=>?_) (fun xZ7 hv e τ hne hq=>?_) | refine Hw (o:=oZ5) Ig (aF (w_bk aaZ0 abZ0 acZ0 adZ0) hoZ5 ?_) (fun vZ6 hv τ qZ8=>?_) (fun xZ7 hv e τ hne hq=>?_)
 · exact ZK (ZA @Ld.eq_1 @ND.eq_1)
 · exact vZ6.elim
 · subst hv
   simp only [] at h
   obtain ⟨rfl,qZ9⟩:=hq
   cases h
   exact qZ9
theorem w_dy (aaZ0:List Int) {r:List Int} (h:Ib aaZ0=some r):OkM Tryz.prog 106 [.sl 1000000000 0 aaZ0.length] [(1000000000,.arr 1 (aaZ0.map AV.i))] ((fun (r:List Int)=>.tup []) r) ((fun (r:List Int)=>[(1000000000,.arr 1 (r.map AV.i))]) r):=by
 refine bl (lr:=[1000000000]) bc Qz rfl rfl ?_
 unfold Ib at h
 simp only [ZC,Js,vt]
 obtain ⟨rZ1,hrZ1,h⟩:=af h
 refine ZF trivial ?_
 refine ZS trivial (w_dv _ hrZ1) ?_
 refine ZG ?_
 obtain ⟨rZ2,hrZ2,h⟩:=af h
 refine ZF trivial ?_
 refine ZW trivial (w_ek _ _ _ _ hrZ2) (h2:=by first | exact bA [1000000000] rfl (by decide +kernel) | exact be [1000000000] [] rfl (by decide +kernel) ZQ | exact ZQ) (hk:=?_)
 refine ZG ?_
 cases h
 exact ZL trivial @vt.eq_1
def S_w (nZ0:ae) (ringZ0:List Int) (rZ1:List Int) (rZ2:List Int) (rZ3:List Int×Bool) (v:Int×List Int):St:=⟨[(1,.lst .o 1 (ringZ0.map AV.i)),(6,.sl 6 0 rZ1.length),(7,.sl 7 0 v.2.length),(8,.sl 8 0 rZ3.1.length),(24,.lst .o 4 (nZ0.Fibers.map (ah .o))),(25,.i (nZ0.Fibers.length:Int)),(26,.i v.1)],[(6,.arr 1 (rZ2.map AV.i)),(7,.arr 1 (v.2.map AV.i)),(8,.arr 1 (rZ3.1.map AV.i))]⟩
def BC (rZ1:List Int) (rZ2:List Int) (v:List Int):St:=⟨[(6,.sl 6 0 rZ1.length),(7,.sl 7 0 v.length)],[(6,.arr 1 (rZ2.map AV.i)),(7,.arr 1 (v.map AV.i))]⟩
theorem w_w (nZ0:ae) (ringZ0:List Int) (rZ1:List Int) (rZ2:List Int) (rZ3:List Int×Bool) (sZ4:Int×List Int) (o:(Int×List Int) ⊕ (List Int)) (h:M_w nZ0 ringZ0 rZ3 sZ4=some o):AWP (OkS Tryz.prog) GG (qL [1,6,7,8,24,25,26] [6,7,8] (S_w nZ0 ringZ0 rZ1 rZ2 rZ3) (qX 0 [6,7] [6,7] (BC rZ1 rZ2)) o) (S_w nZ0 ringZ0 rZ1 rZ2 rZ3 sZ4):=by
 unfold M_w at h
 simp only [ZC,S_w,GG]
 obtain ⟨cZ5,h⟩ | ⟨cZ5,h⟩:=ai h
 · obtain ⟨yZ6,hyZ6,h⟩:=af h
   obtain ⟨hyZ6a,hyZ6b⟩:=ba hyZ6
   obtain ⟨oZ12,hoZ12,h⟩:=af h
   try refine ZF (ZA cZ5 (ZA hyZ6a hyZ6b)) ?_
   refine aA (sh:=(fun v=>⟨[(1,.lst .o 1 (ringZ0.map AV.i)),(6,.sl 6 0 rZ1.length),(7,.sl 7 0 sZ4.2.length),(8,.sl 8 0 rZ3.1.length),(10,.i sZ4.1),(24,.lst .o 4 (nZ0.Fibers.map (ah .o))),(25,.i (nZ0.Fibers.length:Int)),(26,.i sZ4.1),(46,.b v)],[(6,.arr 1 (rZ2.map AV.i)),(7,.arr 1 (sZ4.2.map AV.i)),(8,.arr 1 (rZ3.1.map AV.i))]⟩)) (s:=oZ12) ?_ ?_
   · replace h:=hoZ12
     obtain ⟨rZ7,hrZ7,h⟩:=af h
     refine ZF (ZA cZ5 (ZA hyZ6a hyZ6b)) ?_
     refine ZS (ZA cZ5 (ZA hyZ6a hyZ6b)) (w_m _ _ hrZ7) ?_
     refine ZG ?_
     obtain ⟨cZ8,h⟩ | ⟨cZ8,h⟩:=ai h
     · obtain ⟨rZ9,hrZ9,h⟩:=af h
       refine ZF (ZA cZ5 (ZA hyZ6a (ZA hyZ6b cZ8))) ?_
       refine ZS (ZA cZ5 (ZA hyZ6a (ZA hyZ6b cZ8))) (w_m _ _ hrZ9) ?_
       refine ZG ?_
       obtain ⟨cZ10,h⟩ | ⟨cZ10,h⟩:=ai h
       · obtain ⟨rZ11,hrZ11,h⟩:=af h
         refine ZF (ZA cZ5 (ZA hyZ6a (ZA hyZ6b (ZA cZ8 cZ10)))) ?_
         refine ZS (ZA cZ5 (ZA hyZ6a (ZA hyZ6b (ZA cZ8 cZ10)))) (w_m _ _ hrZ11) ?_
         refine ZG ?_
         cases h
         exact ZL (ZA cZ5 (ZA hyZ6a (ZA hyZ6b (ZA cZ8 cZ10)))) trivial
       · cases h
         exact ZL (ZA cZ5 (ZA hyZ6a (ZA hyZ6b (ZA cZ8 cZ10)))) trivial
     · cases h
       exact ZL (ZA cZ5 (ZA hyZ6a (ZA hyZ6b cZ8))) trivial
   · simp only [ZC,OI]
     obtain ⟨cZ13,h⟩ | ⟨cZ13,h⟩:=ai h
     · obtain ⟨lZ14,hlZ14,h⟩:=aQ h
       have eZ15:Row.arr 1 [(.i sZ4.1:AV)]=Row.arr 1 (lZ14.map AV.i):=by rw [← hlZ14]; rfl
       have jjZ16:lZ14.length=1:=by rw [← hlZ14]; rfl
       obtain ⟨uZ17,huZ17,h⟩:=af h
       have huZ17g:=aR huZ17
       obtain ⟨lZ18,hlZ18,h⟩:=aQ h
       have eZ19:sZ4.2.map AV.i++lZ14.map AV.i=lZ18.map AV.i:=by rw [← hlZ18,List.map_append]
       have eZ20:sZ4.2.length+1=lZ18.length:=by simp [← hlZ14,← hlZ18] <;> omega
       rw [eZ20] at huZ17g
       cases h
       exact ZL (ZA cZ5 (ZA hyZ6a (ZA hyZ6b (ZA cZ13 (ZA eZ15 (ZA jjZ16 (ZA huZ17g (ZA eZ19 eZ20)))))))) (ZA @S_w.eq_1 (ZA @BC.eq_1 (ZA hlZ14.symm (ZA hlZ18.symm jjZ16))))
     · cases h
       exact ZL (ZA cZ5 (ZA hyZ6a (ZA hyZ6b cZ13))) (ZA @S_w.eq_1 @BC.eq_1)
 · cases h
   exact ZL cZ5 (ZA @S_w.eq_1 @BC.eq_1)
theorem w_dz (nZ0:ae) (ringZ0:List Int) {r:List Int×List Int} (h:IP nZ0 ringZ0=some r):Ok Tryz.prog 64 [.agg [.lst .o 1 (nZ0.Nodes.map AV.z),.lst .o 4 (nZ0.Fibers.map (ah .o))],.lst .o 1 (ringZ0.map AV.i)] ((fun r=>.tup [.lst .u 1 (r.1.map AV.i),.lst .u 1 (r.2.map AV.i)]) r):=by
 refine ay bc m64 rfl ?_
 unfold IP at h
 simp only [ZC,A64,V64,aJ]
 obtain ⟨rZ1,hrZ1,h⟩:=af h
 refine ZF trivial ?_
 refine ZU trivial (w_cl _ hrZ1) ?_
 refine ZG ?_
 obtain ⟨rZ2,hrZ2,h⟩:=af h
 refine ZF trivial ?_
 refine ZW trivial (w_dy _ hrZ2) (h2:=by first | exact bA [1000000000] rfl (by decide +kernel) | exact be [1000000000] [] rfl (by decide +kernel) ZQ | exact ZQ) (hk:=?_)
 refine ZG ?_
 obtain ⟨rZ3,hrZ3,h⟩:=af h
 refine ZF trivial ?_
 refine ZU trivial (Gl _ _ hrZ3) ?_
 refine ZG ?_
 obtain ⟨oZ21,hoZ21,h⟩:=af h
 try refine ZF trivial ?_
 refine aA (bf (aF (w_w nZ0 ringZ0 rZ1 rZ2 rZ3) hoZ21 ?_)) ?_
 · exact ZK (ZA @S_w.eq_1 @BC.eq_1)
 · simp only [ZC,BC,OM]
   obtain ⟨lZ22,hlZ22,h⟩:=aQ h
   have eZ23:sub (rZ2.map AV.i) 0 rZ1.length=lZ22.map AV.i:=by rw [cA,hlZ22]
   cases h
   exact ZL eZ23 @V64.eq_1
theorem w_ea (nZ0:ae) (ringZ0:List Int) {r:List Int×List Int×Bool} (h:Dp nZ0 ringZ0=some r):Ok Tryz.prog 31 [.agg [.lst .o 1 (nZ0.Nodes.map AV.z),.lst .o 4 (nZ0.Fibers.map (ah .o))],.lst .o 1 (ringZ0.map AV.i)] ((fun r=>.tup [.lst .u 1 (r.1.map AV.i),.lst .u 1 (r.2.1.map AV.i),.b r.2.2]) r):=by
 refine ay bc m31 rfl ?_
 unfold Dp at h
 simp only [ZC,A31,V31,aJ]
 obtain ⟨rZ1,hrZ1,h⟩:=af h
 refine ZF trivial ?_
 refine ZS trivial (LI _ _ hrZ1) ?_
 refine ZG ?_
 obtain ⟨cZ2,h⟩ | ⟨cZ2,h⟩:=ai h
 · cases h
   exact ZL cZ2 @V31.eq_1
 · obtain ⟨rZ3,hrZ3,h⟩:=af h
   refine ZF cZ2 ?_
   refine ZU cZ2 (w_dz _ _ hrZ3) ?_
   refine ZG ?_
   cases h
   exact ZL cZ2 @V31.eq_1
def S_c (aaZ0:Int) (abZ0:Int) (acZ0:Int) (adZ0:List Int) (aeZ0:ae) (v:Int×ae×List (List Int)):St:=⟨[(0,.i aaZ0),(1,.i abZ0),(2,.i acZ0),(3,.lst .m 1 (adZ0.map AV.i)),(4,.pt 1000000001 0 0),(5,.pt 1000000002 0 0),(6,.pt 1000000004 0 0),(18,.lst .o 4 (((aeZ0).Fibers).map (ah .o))),(19,.i (((aeZ0).Fibers).length:Int)),(20,.i v.1)],[(470000128,.arr 1 (v.2.2.map (aV .u))),(1000000001,.var (.agg [.lst .o 1 (((v.2.1).Nodes).map AV.z),.lst .o 4 (((v.2.1).Fibers).map (ah .o))])),(1000000002,.var (.sl 470000128 0 v.2.2.length)),(1000000004,.var (.fn 129 [.pt 1000000001 0 0,.pt 1000000002 0 0,.pt 1000000004 0 0]))]⟩
def rO (v:ae×List (List Int)):St:=⟨[],[(470000128,.arr 1 (v.2.map (aV .u))),(1000000001,.var (.agg [.lst .o 1 (((v.1).Nodes).map AV.z),.lst .o 4 (((v.1).Fibers).map (ah .o))])),(1000000002,.var (.sl 470000128 0 v.2.length)),(1000000004,.var (.fn 129 [.pt 1000000001 0 0,.pt 1000000002 0 0,.pt 1000000004 0 0]))]⟩
theorem w_c (aaZ0:Int) (abZ0:Int) (acZ0:Int) (adZ0:List Int) (aeZ0:ae) (afZ0:List (List Int)) (rcZ0:Int→Int→Int→List Int→ae→List (List Int)→Option (ae×List (List Int))) (ihZ0:∀ (aaZ0:Int) (abZ0:Int) (acZ0:Int) (adZ0:List Int) (aeZ0:ae) (afZ0:List (List Int)) {r:ae×List (List Int)},rcZ0 aaZ0 abZ0 acZ0 adZ0 aeZ0 afZ0=some r→OkM Tryz.prog 129 [.i aaZ0,.i abZ0,.i acZ0,.sl 1000000000 0 adZ0.length,.pt 1000000001 0 0,.pt 1000000002 0 0,.pt 1000000004 0 0] [(1000000000,.arr 1 (adZ0.map AV.i)),(1000000001,.var (.agg [.lst .o 1 (((aeZ0).Nodes).map AV.z),.lst .o 4 (((aeZ0).Fibers).map (ah .o))])),(1000000002,.var (.sl 1000000003 0 afZ0.length)),(1000000003,.arr 1 (afZ0.map (aV .u))),(1000000004,.var (.fn 129 [.pt 1000000001 0 0,.pt 1000000002 0 0,.pt 1000000004 0 0]))] ((fun (r:ae×List (List Int))=>.tup []) r) ((fun (r:ae×List (List Int))=>[(470000128,.arr 1 (r.2.map (aV .u))),(1000000001,.var (.agg [.lst .o 1 (((r.1).Nodes).map AV.z),.lst .o 4 (((r.1).Fibers).map (ah .o))])),(1000000002,.var (.sl 470000128 0 r.2.length)),(1000000004,.var (.fn 129 [.pt 1000000001 0 0,.pt 1000000002 0 0,.pt 1000000004 0 0]))]) r)) (sZ1:Int×ae×List (List Int)) (o:(Int×ae×List (List Int)) ⊕ (ae×List (List Int))) (h:M_c aaZ0 abZ0 acZ0 adZ0 aeZ0 rcZ0 sZ1=some o):AWP (OkS Tryz.prog) ni (qL [0,1,2,3,4,5,6,18,19,20] [470000128,1000000001,1000000002,1000000004] (S_c aaZ0 abZ0 acZ0 adZ0 aeZ0) (qX 0 [] [470000128,1000000001,1000000002,1000000004] (rO)) o) (S_c aaZ0 abZ0 acZ0 adZ0 aeZ0 sZ1):=by
 unfold M_c at h
 simp only [ZC,S_c,ni]
 obtain ⟨cZ2,h⟩ | ⟨cZ2,h⟩:=ai h
 · obtain ⟨yZ3,hyZ3,h⟩:=af h
   obtain ⟨hyZ3a,hyZ3b⟩:=ba hyZ3
   obtain ⟨rZ4,hrZ4,h⟩:=af h
   refine ZF (ZA cZ2 (ZA hyZ3a hyZ3b)) ?_
   refine ZS (ZA cZ2 (ZA hyZ3a hyZ3b)) (Lq _ _ hrZ4) ?_
   refine ZG ?_
   obtain ⟨oZ7,hoZ7,h⟩:=af h
   try refine ZF (ZA cZ2 (ZA hyZ3a hyZ3b)) ?_
   refine aA (sh:=(fun v=>⟨[(0,.i aaZ0),(1,.i abZ0),(2,.i acZ0),(3,.lst .m 1 (adZ0.map AV.i)),(4,.pt 1000000001 0 0),(5,.pt 1000000002 0 0),(6,.pt 1000000004 0 0),(11,.i sZ1.1),(13,.i rZ4),(18,.lst .o 4 (((aeZ0).Fibers).map (ah .o))),(19,.i (((aeZ0).Fibers).length:Int)),(20,.i sZ1.1),(35,.b v)],[(470000128,.arr 1 (sZ1.2.2.map (aV .u))),(1000000001,.var (.agg [.lst .o 1 (((sZ1.2.1).Nodes).map AV.z),.lst .o 4 (((sZ1.2.1).Fibers).map (ah .o))])),(1000000002,.var (.sl 470000128 0 sZ1.2.2.length)),(1000000004,.var (.fn 129 [.pt 1000000001 0 0,.pt 1000000002 0 0,.pt 1000000004 0 0]))]⟩)) (s:=oZ7) ?_ ?_
   · replace h:=hoZ7
     obtain ⟨cZ5,h⟩ | ⟨cZ5,h⟩:=ai h
     · cases h
       exact ZL (ZA cZ2 (ZA hyZ3a (ZA hyZ3b cZ5))) trivial
     · obtain ⟨rZ6,hrZ6,h⟩:=af h
       refine ZF (ZA cZ2 (ZA hyZ3a (ZA hyZ3b cZ5))) ?_
       refine ZS (ZA cZ2 (ZA hyZ3a (ZA hyZ3b cZ5))) (w_m _ _ hrZ6) ?_
       refine ZG ?_
       cases h
       exact ZL (ZA cZ2 (ZA hyZ3a (ZA hyZ3b cZ5))) trivial
   · simp only [ZC,sH]
     obtain ⟨cZ8,h⟩ | ⟨cZ8,h⟩:=ai h
     · cases h
       exact ZL (ZA cZ2 (ZA hyZ3a (ZA hyZ3b cZ8))) (ZA @S_c.eq_1 @rO.eq_1)
     · have jjZ9:(0:Int)≤(adZ0.length:Int):=Int.natCast_nonneg _
       obtain ⟨lZ10,hlZ10,h⟩:=aQ h
       have eZ11:Row.arr 1 [(.i sZ1.1:AV)]=Row.arr 1 (lZ10.map AV.i):=by rw [← hlZ10]; rfl
       have jjZ12:lZ10.length=1:=by rw [← hlZ10]; rfl
       obtain ⟨uZ13,huZ13,h⟩:=af h
       have huZ13g:=aR huZ13
       obtain ⟨lZ14,hlZ14,h⟩:=aQ h
       have eZ15:adZ0.map AV.i++lZ10.map AV.i=lZ14.map AV.i:=by rw [← hlZ14,List.map_append]
       have eZ16:adZ0.length+1=lZ14.length:=by simp [← hlZ10,← hlZ14] <;> omega
       rw [eZ16] at huZ13g
       have jjZ17:(0:Nat) < 1:=by decide
       obtain ⟨cZ18,h⟩ | ⟨cZ18,h⟩:=ai h
       · obtain ⟨rZ19,hrZ19,h⟩:=af h
         refine ZF (ZA cZ2 (ZA hyZ3a (ZA hyZ3b (ZA cZ8 (ZA jjZ9 (ZA eZ11 (ZA jjZ12 (ZA huZ13g (ZA eZ15 (ZA eZ16 (ZA jjZ17 cZ18))))))))))) ?_
         refine ZU (ZA cZ2 (ZA hyZ3a (ZA hyZ3b (ZA cZ8 (ZA jjZ9 (ZA eZ11 (ZA jjZ12 (ZA huZ13g (ZA eZ15 (ZA eZ16 (ZA jjZ17 cZ18))))))))))) (Gl _ _ hrZ19) ?_
         refine ZG ?_
         obtain ⟨cZ20,h⟩ | ⟨cZ20,h⟩:=ai h
         · obtain ⟨lZ21,hlZ21,h⟩:=aQ h
           have eZ22:Row.arr 1 [(.lst .u 1 (lZ14.map AV.i):AV)]=Row.arr 1 (lZ21.map (aV .u)):=by rw [← hlZ21]; rfl
           have jjZ23:lZ21.length=1:=by rw [← hlZ21]; rfl
           obtain ⟨uZ24,huZ24,h⟩:=af h
           have huZ24g:=aR huZ24
           obtain ⟨lZ25,hlZ25,h⟩:=aQ h
           have eZ26:sZ1.2.2.map (aV .u)++lZ21.map (aV .u)=lZ25.map (aV .u):=by rw [← hlZ25,List.map_append]
           have eZ27:sZ1.2.2.length+1=lZ25.length:=by simp [← hlZ10,← hlZ14,← hlZ21,← hlZ25] <;> omega
           rw [eZ27] at huZ24g
           cases h
           exact ZL (ZA cZ2 (ZA hyZ3a (ZA hyZ3b (ZA cZ8 (ZA jjZ9 (ZA eZ11 (ZA jjZ12 (ZA huZ13g (ZA eZ15 (ZA eZ16 (ZA jjZ17 (ZA cZ18 (ZA cZ20 (ZA eZ22 (ZA jjZ23 (ZA huZ24g (ZA eZ26 eZ27))))))))))))))))) (ZA @S_c.eq_1 (ZA @rO.eq_1 (ZA hlZ10.symm (ZA hlZ14.symm (ZA hlZ21.symm (ZA hlZ25.symm (ZA jjZ9 (ZA jjZ12 (ZA jjZ17 jjZ23)))))))))
         · cases h
           exact ZL (ZA cZ2 (ZA hyZ3a (ZA hyZ3b (ZA cZ8 (ZA jjZ9 (ZA eZ11 (ZA jjZ12 (ZA huZ13g (ZA eZ15 (ZA eZ16 (ZA jjZ17 (ZA cZ18 cZ20)))))))))))) (ZA @S_c.eq_1 (ZA @rO.eq_1 (ZA hlZ10.symm (ZA hlZ14.symm (ZA jjZ9 (ZA jjZ12 jjZ17))))))
       · obtain ⟨uZ28,huZ28,h⟩:=af h
         have huZ28g:=aR huZ28
         obtain ⟨cZ29,h⟩ | ⟨cZ29,h⟩:=ai h
         · obtain ⟨uZ30,huZ30,h⟩:=af h
           have huZ30g:=aR huZ30
           obtain ⟨rZ31,hrZ31,h⟩:=af h
           refine ZF (ZA cZ2 (ZA hyZ3a (ZA hyZ3b (ZA cZ8 (ZA jjZ9 (ZA eZ11 (ZA jjZ12 (ZA huZ13g (ZA eZ15 (ZA eZ16 (ZA jjZ17 (ZA cZ18 (ZA huZ28g (ZA cZ29 huZ30g)))))))))))))) ?_
           refine ZW (ZA cZ2 (ZA hyZ3a (ZA hyZ3b (ZA cZ8 (ZA jjZ9 (ZA eZ11 (ZA jjZ12 (ZA huZ13g (ZA eZ15 (ZA eZ16 (ZA jjZ17 (ZA cZ18 (ZA huZ28g (ZA cZ29 huZ30g)))))))))))))) (ihZ0 _ _ _ _ _ _ hrZ31) (h2:=by first | exact bA [470000128,1000000001,1000000002,1000000004] rfl (by decide +kernel) | exact be [470000128,1000000001,1000000002,1000000004] [477300128] rfl (by decide +kernel) ZQ | exact ZQ) (hk:=?_)
           refine ZG ?_
           cases h
           exact ZL (ZA cZ2 (ZA hyZ3a (ZA hyZ3b (ZA cZ8 (ZA jjZ9 (ZA eZ11 (ZA jjZ12 (ZA huZ13g (ZA eZ15 (ZA eZ16 (ZA jjZ17 (ZA cZ18 (ZA huZ28g (ZA cZ29 huZ30g)))))))))))))) (ZA @S_c.eq_1 (ZA @rO.eq_1 (ZA hlZ10.symm (ZA hlZ14.symm (ZA jjZ9 (ZA jjZ12 jjZ17))))))
         · cases h
           exact ZL (ZA cZ2 (ZA hyZ3a (ZA hyZ3b (ZA cZ8 (ZA jjZ9 (ZA eZ11 (ZA jjZ12 (ZA huZ13g (ZA eZ15 (ZA eZ16 (ZA jjZ17 (ZA cZ18 (ZA huZ28g cZ29))))))))))))) (ZA @S_c.eq_1 (ZA @rO.eq_1 (ZA hlZ10.symm (ZA hlZ14.symm (ZA jjZ9 (ZA jjZ12 jjZ17))))))
 · cases h
   exact ZL cZ2 (ZA @S_c.eq_1 @rO.eq_1)
theorem Sr (rcZ0:Int→Int→Int→List Int→ae→List (List Int)→Option (ae×List (List Int))) (ihZ0:∀ (aaZ0:Int) (abZ0:Int) (acZ0:Int) (adZ0:List Int) (aeZ0:ae) (afZ0:List (List Int)) {r:ae×List (List Int)},rcZ0 aaZ0 abZ0 acZ0 adZ0 aeZ0 afZ0=some r→OkM Tryz.prog 129 [.i aaZ0,.i abZ0,.i acZ0,.sl 1000000000 0 adZ0.length,.pt 1000000001 0 0,.pt 1000000002 0 0,.pt 1000000004 0 0] [(1000000000,.arr 1 (adZ0.map AV.i)),(1000000001,.var (.agg [.lst .o 1 (((aeZ0).Nodes).map AV.z),.lst .o 4 (((aeZ0).Fibers).map (ah .o))])),(1000000002,.var (.sl 1000000003 0 afZ0.length)),(1000000003,.arr 1 (afZ0.map (aV .u))),(1000000004,.var (.fn 129 [.pt 1000000001 0 0,.pt 1000000002 0 0,.pt 1000000004 0 0]))] ((fun (r:ae×List (List Int))=>.tup []) r) ((fun (r:ae×List (List Int))=>[(470000128,.arr 1 (r.2.map (aV .u))),(1000000001,.var (.agg [.lst .o 1 (((r.1).Nodes).map AV.z),.lst .o 4 (((r.1).Fibers).map (ah .o))])),(1000000002,.var (.sl 470000128 0 r.2.length)),(1000000004,.var (.fn 129 [.pt 1000000001 0 0,.pt 1000000002 0 0,.pt 1000000004 0 0]))]) r)) (aaZ0:Int) (abZ0:Int) (acZ0:Int) (adZ0:List Int) (aeZ0:ae) (afZ0:List (List Int)) {r:ae×List (List Int)} (h:vJ rcZ0 aaZ0 abZ0 acZ0 adZ0 aeZ0 afZ0=some r):OkM Tryz.prog 129 [.i aaZ0,.i abZ0,.i acZ0,.sl 1000000000 0 adZ0.length,.pt 1000000001 0 0,.pt 1000000002 0 0,.pt 1000000004 0 0] [(1000000000,.arr 1 (adZ0.map AV.i)),(1000000001,.var (.agg [.lst .o 1 (((aeZ0).Nodes).map AV.z),.lst .o 4 (((aeZ0).Fibers).map (ah .o))])),(1000000002,.var (.sl 1000000003 0 afZ0.length)),(1000000003,.arr 1 (afZ0.map (aV .u))),(1000000004,.var (.fn 129 [.pt 1000000001 0 0,.pt 1000000002 0 0,.pt 1000000004 0 0]))] ((fun (r:ae×List (List Int))=>.tup []) r) ((fun (r:ae×List (List Int))=>[(470000128,.arr 1 (r.2.map (aV .u))),(1000000001,.var (.agg [.lst .o 1 (((r.1).Nodes).map AV.z),.lst .o 4 (((r.1).Fibers).map (ah .o))])),(1000000002,.var (.sl 470000128 0 r.2.length)),(1000000004,.var (.fn 129 [.pt 1000000001 0 0,.pt 1000000002 0 0,.pt 1000000004 0 0]))]) r):=by
 refine bl (lr:=[470000128,1000000001,1000000002,1000000004]) bc OW rfl rfl ?_
 unfold vJ at h
 simp only [ZC,Du,wQ]
 obtain ⟨oZ32,hoZ32,h⟩:=af h
 try refine ZF trivial ?_
 first | refine dG (bf (aF (w_c aaZ0 abZ0 acZ0 adZ0 aeZ0 afZ0 rcZ0 ihZ0) hoZ32 ?_)) (fun τ qZ33=>?_) | refine fH (aF (w_c aaZ0 abZ0 acZ0 adZ0 aeZ0 afZ0 rcZ0 ihZ0) hoZ32 ?_) (fun τ qZ33=>?_)
 · exact ZK (ZA @S_c.eq_1 @rO.eq_1)
 · cases h
   refine jg qZ33 (by decide) ?_ rfl
   exact ZK (ZA @wQ.eq_1 @rO.eq_1)
theorem w_cf:∀ (n:Nat) (aaZ0:Int) (abZ0:Int) (acZ0:Int) (adZ0:List Int) (aeZ0:ae) (afZ0:List (List Int)) {r:ae×List (List Int)} (_:GO n aaZ0 abZ0 acZ0 adZ0 aeZ0 afZ0=some r),OkM Tryz.prog 129 [.i aaZ0,.i abZ0,.i acZ0,.sl 1000000000 0 adZ0.length,.pt 1000000001 0 0,.pt 1000000002 0 0,.pt 1000000004 0 0] [(1000000000,.arr 1 (adZ0.map AV.i)),(1000000001,.var (.agg [.lst .o 1 (((aeZ0).Nodes).map AV.z),.lst .o 4 (((aeZ0).Fibers).map (ah .o))])),(1000000002,.var (.sl 1000000003 0 afZ0.length)),(1000000003,.arr 1 (afZ0.map (aV .u))),(1000000004,.var (.fn 129 [.pt 1000000001 0 0,.pt 1000000002 0 0,.pt 1000000004 0 0]))] ((fun (r:ae×List (List Int))=>.tup []) r) ((fun (r:ae×List (List Int))=>[(470000128,.arr 1 (r.2.map (aV .u))),(1000000001,.var (.agg [.lst .o 1 (((r.1).Nodes).map AV.z),.lst .o 4 (((r.1).Fibers).map (ah .o))])),(1000000002,.var (.sl 470000128 0 r.2.length)),(1000000004,.var (.fn 129 [.pt 1000000001 0 0,.pt 1000000002 0 0,.pt 1000000004 0 0]))]) r)
 | 0,aaZ0,abZ0,acZ0,adZ0,aeZ0,afZ0,_,h=>by cases h
 | n+1,aaZ0,abZ0,acZ0,adZ0,aeZ0,afZ0,_,h=>Sr (GO n) (w_cf n) aaZ0 abZ0 acZ0 adZ0 aeZ0 afZ0 h
def S_f (aaZ0:Int) (abZ0:Int) (acZ0:Int) (adZ0:List Int) (aeZ0:ae) (v:Int×ae×List (List Int)):St:=⟨[(0,.i aaZ0),(1,.i abZ0),(2,.i acZ0),(3,.lst .u 1 (adZ0.map AV.i)),(4,.pt 1000000000 0 0),(5,.pt 1000000001 0 0),(6,.pt 1000000003 0 0),(18,.lst .o 4 (((aeZ0).Fibers).map (ah .o))),(19,.i (((aeZ0).Fibers).length:Int)),(20,.i v.1)],[(470000064,.arr 1 (v.2.2.map (aV .u))),(1000000000,.var (.agg [.lst .o 1 (((v.2.1).Nodes).map AV.z),.lst .o 4 (((v.2.1).Fibers).map (ah .o))])),(1000000001,.var (.sl 470000064 0 v.2.2.length)),(1000000003,.var (.fn 129 [.pt 1000000000 0 0,.pt 1000000001 0 0,.pt 1000000003 0 0]))]⟩
def rB (v:ae×List (List Int)):St:=⟨[],[(470000064,.arr 1 (v.2.map (aV .u))),(1000000000,.var (.agg [.lst .o 1 (((v.1).Nodes).map AV.z),.lst .o 4 (((v.1).Fibers).map (ah .o))])),(1000000001,.var (.sl 470000064 0 v.2.length)),(1000000003,.var (.fn 129 [.pt 1000000000 0 0,.pt 1000000001 0 0,.pt 1000000003 0 0]))]⟩
theorem w_f (aaZ0:Int) (abZ0:Int) (acZ0:Int) (adZ0:List Int) (aeZ0:ae) (sZ1:Int×ae×List (List Int)) (o:(Int×ae×List (List Int)) ⊕ (ae×List (List Int))) (h:M_f aaZ0 abZ0 acZ0 adZ0 aeZ0 sZ1=some o):AWP (OkS Tryz.prog) oS (qL [0,1,2,3,4,5,6,18,19,20] [470000064,1000000000,1000000001,1000000003] (S_f aaZ0 abZ0 acZ0 adZ0 aeZ0) (qX 0 [] [470000064,1000000000,1000000001,1000000003] (rB)) o) (S_f aaZ0 abZ0 acZ0 adZ0 aeZ0 sZ1):=by
 unfold M_f at h
 simp only [ZC,S_f,oS]
 obtain ⟨cZ2,h⟩ | ⟨cZ2,h⟩:=ai h
 · obtain ⟨yZ3,hyZ3,h⟩:=af h
   obtain ⟨hyZ3a,hyZ3b⟩:=ba hyZ3
   obtain ⟨rZ4,hrZ4,h⟩:=af h
   refine ZF (ZA cZ2 (ZA hyZ3a hyZ3b)) ?_
   refine ZS (ZA cZ2 (ZA hyZ3a hyZ3b)) (Lq _ _ hrZ4) ?_
   refine ZG ?_
   obtain ⟨oZ7,hoZ7,h⟩:=af h
   try refine ZF (ZA cZ2 (ZA hyZ3a hyZ3b)) ?_
   refine aA (sh:=(fun v=>⟨[(0,.i aaZ0),(1,.i abZ0),(2,.i acZ0),(3,.lst .u 1 (adZ0.map AV.i)),(4,.pt 1000000000 0 0),(5,.pt 1000000001 0 0),(6,.pt 1000000003 0 0),(11,.i sZ1.1),(13,.i rZ4),(18,.lst .o 4 (((aeZ0).Fibers).map (ah .o))),(19,.i (((aeZ0).Fibers).length:Int)),(20,.i sZ1.1),(35,.b v)],[(470000064,.arr 1 (sZ1.2.2.map (aV .u))),(1000000000,.var (.agg [.lst .o 1 (((sZ1.2.1).Nodes).map AV.z),.lst .o 4 (((sZ1.2.1).Fibers).map (ah .o))])),(1000000001,.var (.sl 470000064 0 sZ1.2.2.length)),(1000000003,.var (.fn 129 [.pt 1000000000 0 0,.pt 1000000001 0 0,.pt 1000000003 0 0]))]⟩)) (s:=oZ7) ?_ ?_
   · replace h:=hoZ7
     obtain ⟨cZ5,h⟩ | ⟨cZ5,h⟩:=ai h
     · cases h
       exact ZL (ZA cZ2 (ZA hyZ3a (ZA hyZ3b cZ5))) trivial
     · obtain ⟨rZ6,hrZ6,h⟩:=af h
       refine ZF (ZA cZ2 (ZA hyZ3a (ZA hyZ3b cZ5))) ?_
       refine ZS (ZA cZ2 (ZA hyZ3a (ZA hyZ3b cZ5))) (w_m _ _ hrZ6) ?_
       refine ZG ?_
       cases h
       exact ZL (ZA cZ2 (ZA hyZ3a (ZA hyZ3b cZ5))) trivial
   · simp only [ZC,uL]
     obtain ⟨cZ8,h⟩ | ⟨cZ8,h⟩:=ai h
     · cases h
       exact ZL (ZA cZ2 (ZA hyZ3a (ZA hyZ3b cZ8))) (ZA @S_f.eq_1 @rB.eq_1)
     · have jjZ9:(0:Int)≤(adZ0.length:Int):=Int.natCast_nonneg _
       obtain ⟨lZ10,hlZ10,h⟩:=aQ h
       have eZ11:Row.arr 1 [(.i sZ1.1:AV)]=Row.arr 1 (lZ10.map AV.i):=by rw [← hlZ10]; rfl
       have jjZ12:lZ10.length=1:=by rw [← hlZ10]; rfl
       obtain ⟨uZ13,huZ13,h⟩:=af h
       have huZ13g:=aR huZ13
       obtain ⟨lZ14,hlZ14,h⟩:=aQ h
       have eZ15:adZ0.map AV.i++lZ10.map AV.i=lZ14.map AV.i:=by rw [← hlZ14,List.map_append]
       have eZ16:adZ0.length+1=lZ14.length:=by simp [← hlZ10,← hlZ14] <;> omega
       rw [eZ16] at huZ13g
       have jjZ17:(0:Nat) < 1:=by decide
       obtain ⟨cZ18,h⟩ | ⟨cZ18,h⟩:=ai h
       · obtain ⟨rZ19,hrZ19,h⟩:=af h
         refine ZF (ZA cZ2 (ZA hyZ3a (ZA hyZ3b (ZA cZ8 (ZA jjZ9 (ZA eZ11 (ZA jjZ12 (ZA huZ13g (ZA eZ15 (ZA eZ16 (ZA jjZ17 cZ18))))))))))) ?_
         refine ZU (ZA cZ2 (ZA hyZ3a (ZA hyZ3b (ZA cZ8 (ZA jjZ9 (ZA eZ11 (ZA jjZ12 (ZA huZ13g (ZA eZ15 (ZA eZ16 (ZA jjZ17 cZ18))))))))))) (Gl _ _ hrZ19) ?_
         refine ZG ?_
         obtain ⟨cZ20,h⟩ | ⟨cZ20,h⟩:=ai h
         · obtain ⟨lZ21,hlZ21,h⟩:=aQ h
           have eZ22:Row.arr 1 [(.lst .u 1 (lZ14.map AV.i):AV)]=Row.arr 1 (lZ21.map (aV .u)):=by rw [← hlZ21]; rfl
           have jjZ23:lZ21.length=1:=by rw [← hlZ21]; rfl
           obtain ⟨uZ24,huZ24,h⟩:=af h
           have huZ24g:=aR huZ24
           obtain ⟨lZ25,hlZ25,h⟩:=aQ h
           have eZ26:sZ1.2.2.map (aV .u)++lZ21.map (aV .u)=lZ25.map (aV .u):=by rw [← hlZ25,List.map_append]
           have eZ27:sZ1.2.2.length+1=lZ25.length:=by simp [← hlZ10,← hlZ14,← hlZ21,← hlZ25] <;> omega
           rw [eZ27] at huZ24g
           cases h
           exact ZL (ZA cZ2 (ZA hyZ3a (ZA hyZ3b (ZA cZ8 (ZA jjZ9 (ZA eZ11 (ZA jjZ12 (ZA huZ13g (ZA eZ15 (ZA eZ16 (ZA jjZ17 (ZA cZ18 (ZA cZ20 (ZA eZ22 (ZA jjZ23 (ZA huZ24g (ZA eZ26 eZ27))))))))))))))))) (ZA @S_f.eq_1 (ZA @rB.eq_1 (ZA hlZ10.symm (ZA hlZ14.symm (ZA hlZ21.symm (ZA hlZ25.symm (ZA jjZ9 (ZA jjZ12 (ZA jjZ17 jjZ23)))))))))
         · cases h
           exact ZL (ZA cZ2 (ZA hyZ3a (ZA hyZ3b (ZA cZ8 (ZA jjZ9 (ZA eZ11 (ZA jjZ12 (ZA huZ13g (ZA eZ15 (ZA eZ16 (ZA jjZ17 (ZA cZ18 cZ20)))))))))))) (ZA @S_f.eq_1 (ZA @rB.eq_1 (ZA hlZ10.symm (ZA hlZ14.symm (ZA jjZ9 (ZA jjZ12 jjZ17))))))
       · obtain ⟨uZ28,huZ28,h⟩:=af h
         have huZ28g:=aR huZ28
         obtain ⟨cZ29,h⟩ | ⟨cZ29,h⟩:=ai h
         · obtain ⟨uZ30,huZ30,h⟩:=af h
           have huZ30g:=aR huZ30
           obtain ⟨rZ31,hrZ31,h⟩:=af h
           refine ZF (ZA cZ2 (ZA hyZ3a (ZA hyZ3b (ZA cZ8 (ZA jjZ9 (ZA eZ11 (ZA jjZ12 (ZA huZ13g (ZA eZ15 (ZA eZ16 (ZA jjZ17 (ZA cZ18 (ZA huZ28g (ZA cZ29 huZ30g)))))))))))))) ?_
           refine ZW (ZA cZ2 (ZA hyZ3a (ZA hyZ3b (ZA cZ8 (ZA jjZ9 (ZA eZ11 (ZA jjZ12 (ZA huZ13g (ZA eZ15 (ZA eZ16 (ZA jjZ17 (ZA cZ18 (ZA huZ28g (ZA cZ29 huZ30g)))))))))))))) (w_cf N0 _ _ _ _ _ _ hrZ31) (h2:=by first | exact bA [470000128,1000000001,1000000002,1000000004] rfl (by decide +kernel) | exact be [470000128,1000000001,1000000002,1000000004] [477300128] rfl (by decide +kernel) ZQ | exact ZQ) (hk:=?_)
           refine ZG ?_
           cases h
           exact ZL (ZA cZ2 (ZA hyZ3a (ZA hyZ3b (ZA cZ8 (ZA jjZ9 (ZA eZ11 (ZA jjZ12 (ZA huZ13g (ZA eZ15 (ZA eZ16 (ZA jjZ17 (ZA cZ18 (ZA huZ28g (ZA cZ29 huZ30g)))))))))))))) (ZA @S_f.eq_1 (ZA @rB.eq_1 (ZA hlZ10.symm (ZA hlZ14.symm (ZA jjZ9 (ZA jjZ12 jjZ17))))))
         · cases h
           exact ZL (ZA cZ2 (ZA hyZ3a (ZA hyZ3b (ZA cZ8 (ZA jjZ9 (ZA eZ11 (ZA jjZ12 (ZA huZ13g (ZA eZ15 (ZA eZ16 (ZA jjZ17 (ZA cZ18 (ZA huZ28g cZ29))))))))))))) (ZA @S_f.eq_1 (ZA @rB.eq_1 (ZA hlZ10.symm (ZA hlZ14.symm (ZA jjZ9 (ZA jjZ12 jjZ17))))))
 · cases h
   exact ZL cZ2 (ZA @S_f.eq_1 @rB.eq_1)
theorem w_el (aaZ0:Int) (abZ0:Int) (acZ0:Int) (adZ0:List Int) (aeZ0:ae) (afZ0:List (List Int)) {r:ae×List (List Int)} (h:Ma aaZ0 abZ0 acZ0 adZ0 aeZ0 afZ0=some r):OkM Tryz.prog 129 [.i aaZ0,.i abZ0,.i acZ0,.lst .u 1 (adZ0.map AV.i),.pt 1000000000 0 0,.pt 1000000001 0 0,.pt 1000000003 0 0] [(1000000000,.var (.agg [.lst .o 1 (((aeZ0).Nodes).map AV.z),.lst .o 4 (((aeZ0).Fibers).map (ah .o))])),(1000000001,.var (.sl 1000000002 0 afZ0.length)),(1000000002,.arr 1 (afZ0.map (aV .u))),(1000000003,.var (.fn 129 [.pt 1000000000 0 0,.pt 1000000001 0 0,.pt 1000000003 0 0]))] ((fun (r:ae×List (List Int))=>.tup []) r) ((fun (r:ae×List (List Int))=>[(470000064,.arr 1 (r.2.map (aV .u))),(1000000000,.var (.agg [.lst .o 1 (((r.1).Nodes).map AV.z),.lst .o 4 (((r.1).Fibers).map (ah .o))])),(1000000001,.var (.sl 470000064 0 r.2.length)),(1000000003,.var (.fn 129 [.pt 1000000000 0 0,.pt 1000000001 0 0,.pt 1000000003 0 0]))]) r):=by
 refine bl (lr:=[470000064,1000000000,1000000001,1000000003]) bc Rv rfl rfl ?_
 unfold Ma at h
 simp only [ZC,II,vU]
 obtain ⟨oZ32,hoZ32,h⟩:=af h
 try refine ZF trivial ?_
 first | refine dG (bf (aF (w_f aaZ0 abZ0 acZ0 adZ0 aeZ0) hoZ32 ?_)) (fun τ qZ33=>?_) | refine fH (aF (w_f aaZ0 abZ0 acZ0 adZ0 aeZ0) hoZ32 ?_) (fun τ qZ33=>?_)
 · exact ZK (ZA @S_f.eq_1 @rB.eq_1)
 · cases h
   refine jg qZ33 (by decide) ?_ rfl
   exact ZK (ZA @vU.eq_1 @rB.eq_1)
theorem w_ca (aZ0:List Int) (bZ0:List Int) {r:Int} (h:rD aZ0 bZ0=some r):Ok Tryz.prog 131 [.lst .o 1 (aZ0.map AV.i),.lst .o 1 (bZ0.map AV.i)] ((fun r=>.i r) r):=by
 refine ay bc m131 rfl ?_
 unfold rD at h
 simp only [ZC,A131,Rr,aJ]
 obtain ⟨rZ1,hrZ1,h⟩:=af h
 refine ZF trivial ?_
 refine ZS trivial (w_s _ _ hrZ1) ?_
 refine ZG ?_
 obtain ⟨rZ2,hrZ2,h⟩:=af h
 refine ZF trivial ?_
 refine ZS trivial (Po _ _ hrZ2) ?_
 refine ZG ?_
 obtain ⟨lZ3,hlZ3,h⟩:=aQ h
 have eZ4:Row.arr 1 [(.i rZ1:AV),(.i rZ2:AV)]=Row.arr 1 (lZ3.map AV.i):=by rw [← hlZ3]; rfl
 have jjZ5:lZ3.length=2:=by rw [← hlZ3]; rfl
 have nZ6:sub (lZ3.map AV.i) 0 2=lZ3.map AV.i:=yP _ (by simp [← hlZ3])
 obtain ⟨rZ7,hrZ7,h⟩:=af h
 refine ZF (ZA eZ4 (ZA jjZ5 nZ6)) ?_
 refine ZS (ZA eZ4 (ZA jjZ5 nZ6)) (Pg _ hrZ7) ?_
 refine ZG ?_
 cases h
 exact ZL (ZA eZ4 (ZA jjZ5 nZ6)) (ZA @Rr.eq_1 (ZA hlZ3.symm jjZ5))
def AL (nZ0:ae) (v:Int×ae×List (List Int)):St:=⟨[(3,.pt 3 0 0),(4,.pt 4 0 0),(10,.i (nZ0.Nodes.length:Int)),(11,.i v.1)],[(1,.var (.agg [.lst .o 1 (((v.2.1).Nodes).map AV.z),.lst .o 4 (((v.2.1).Fibers).map (ah .o))])),(3,.var (.sl 500000192 0 v.2.2.length)),(4,.var (.fn 129 [.pt 1 0 0,.pt 3 0 0,.pt 4 0 0])),(500000192,.arr 1 (v.2.2.map (aV .u)))]⟩
def tu (v:List (List Int)):St:=⟨[(3,.pt 3 0 0)],[(3,.var (.sl 500000192 0 v.length)),(500000192,.arr 1 (v.map (aV .u)))]⟩
theorem w_ba (nZ0:ae) (sZ1:Int×ae×List (List Int)) (o:(Int×ae×List (List Int)) ⊕ (List (List Int))) (h:CH nZ0 sZ1=some o):AWP (OkS Tryz.prog) FR (qL [3,4,10,11] [1,3,4,500000192] (AL nZ0) (qX 0 [3] [3,500000192] (tu)) o) (AL nZ0 sZ1):=by
 unfold CH at h
 simp only [ZC,AL,FR]
 obtain ⟨cZ2,h⟩ | ⟨cZ2,h⟩:=ai h
 · obtain ⟨uZ3,huZ3,h⟩:=af h
   have huZ3g:=aR huZ3
   obtain ⟨rZ4,hrZ4,h⟩:=af h
   refine ZF (ZA cZ2 huZ3g) ?_
   refine ZW (ZA cZ2 huZ3g) (w_el _ _ _ _ _ _ hrZ4) (h2:=by first | exact bA [470000064,1000000000,1000000001,1000000003] rfl (by decide +kernel) | exact be [470000064,1000000000,1000000001,1000000003] [472000064] rfl (by decide +kernel) ZQ | exact ZQ) (hk:=?_)
   refine ZG ?_
   cases h
   exact ZL (ZA cZ2 huZ3g) (ZA @AL.eq_1 @tu.eq_1)
 · cases h
   exact ZL cZ2 (ZA @AL.eq_1 @tu.eq_1)
theorem w_ec (nZ0:ae) {r:List (List Int)} (h:EK nZ0=some r):Ok Tryz.prog 89 [.agg [.lst .o 1 (nZ0.Nodes.map AV.z),.lst .o 4 (nZ0.Fibers.map (ah .o))]] ((fun r=>.lst .u 1 (r.map (aV .u))) r):=by
 refine ay bc m89 rfl ?_
 unfold EK at h
 simp only [ZC,A89,V89,aJ]
 obtain ⟨oZ5,hoZ5,h⟩:=af h
 try refine ZF trivial ?_
 refine aA (bf (aF (w_ba nZ0) hoZ5 ?_)) ?_
 · exact ZK (ZA @AL.eq_1 @tu.eq_1)
 · simp only [ZC,tu,NL]
   obtain ⟨lZ6,hlZ6,h⟩:=af h
   have eZ7:lZ6.length=oZ5.length:=gH hlZ6
   refine ZF trivial ?_
   refine wF (by simp only [VS1,VS2,VS3,VS4,VS5,VS6,VT1,VT2,cm,cn,decide_true,decide_false,List.nodup_nil,List.nodup_cons,gM,gw,gO,ne_eq,not_false_eq_true,Int.reduceEq,Int.reduceNe,true_and,false_and,Nat.reduceSub,Nat.reduceMul,↓reduceIte,reduceCtorEq,Nat.reduceEqDiff,Nat.reduceAdd,Nat.reduceLeDiff,Int.reduceLE]; exact (HT KN (aV .u) (wz .u) (xs:=oZ5) (cmp:=(fun x0 x1=>rD x0 x1)) (C:=[]) (by simp [List.length_nil]) (by simp only [VS1,VS2,VS3,VS4,VS5,VS6,VT1,VT2,cm,cn,decide_true,decide_false,List.nodup_nil,List.nodup_cons,gM,gw,gO,ne_eq,not_false_eq_true,Int.reduceEq,Int.reduceNe,true_and,false_and,Nat.reduceSub,Nat.reduceMul,↓reduceIte,reduceCtorEq,Nat.reduceEqDiff,Nat.reduceAdd,Nat.reduceLeDiff,Int.reduceLE,List.map_cons,List.map_nil]) rfl (by simp [Wf,VS1,VS2,VS3,VS4,VS5,VS6,VT1,VT2]) (by simp [VS1,VS2,VS3,VS4,VS5,VS6,VT1,VT2]) ((EG m131)) (fun _ _ _ hq=>by simp only [ky,VS1,VS2,VS3,VS4,VS5,VS6,VT1,VT2,cm,cn,decide_true,decide_false,List.nodup_nil,List.nodup_cons,gM,gw,gO,ne_eq,not_false_eq_true,Int.reduceEq,Int.reduceNe,true_and,false_and,Nat.reduceSub,Nat.reduceMul,↓reduceIte,reduceCtorEq,Nat.reduceEqDiff,Nat.reduceAdd,Nat.reduceLeDiff,Int.reduceLE]; exact w_ca _ _ hq) hlZ6)) (by simp [VS1,VS2,VS3,VS4,VS5,VS6,VT1,VT2]) (by first | exact bA [1000000000] rfl (by decide +kernel) | simp [VS1,VS2,VS3,VS4,VS5,VS6,VT1,VT2]) ?_
   refine ZG ?_
   have nZ8:sub (lZ6.map (aV .u)) 0 oZ5.length=lZ6.map (aV .u):=yP _ (by simp [eZ7])
   cases h
   exact ZL nZ8 (ZA @V89.eq_1 eZ7)
theorem w_ed (nZ0:ae) {r:List (List Int)×Bool} (h:HY nZ0=some r):Ok Tryz.prog 41 [.agg [.lst .o 1 (nZ0.Nodes.map AV.z),.lst .o 4 (nZ0.Fibers.map (ah .o))]] ((fun r=>.tup [.lst .u 1 (r.1.map (aV .u)),.b r.2]) r):=by
 refine ay bc m41 rfl ?_
 unfold HY at h
 simp only [ZC,A41,V41,aJ]
 obtain ⟨rZ1,hrZ1,h⟩:=af h
 refine ZF trivial ?_
 refine ZS trivial (Qp _ hrZ1) ?_
 refine ZG ?_
 obtain ⟨cZ2,h⟩ | ⟨cZ2,h⟩:=ai h
 · cases h
   exact ZL cZ2 @V41.eq_1
 · obtain ⟨rZ3,hrZ3,h⟩:=af h
   refine ZF cZ2 ?_
   refine ZU cZ2 (w_ec _ hrZ3) ?_
   refine ZG ?_
   obtain ⟨cZ4,h⟩ | ⟨cZ4,h⟩:=ai h
   · cases h
     exact ZL (ZA cZ2 cZ4) @V41.eq_1
   · cases h
     exact ZL (ZA cZ2 cZ4) @V41.eq_1
def CB (aZ0:List Int) (bZ0:List Int) (v:Int):St:=⟨[(0,.lst .o 1 (aZ0.map AV.i)),(1,.lst .o 1 (bZ0.map AV.i)),(5,.i v)],[]⟩
def va (v:Unit):St:=⟨[],[]⟩
theorem w_bb (aZ0:List Int) (bZ0:List Int) (sZ2:Int) (o:Int ⊕ (Unit ⊕ Bool)) (h:Cf aZ0 bZ0 sZ2=some o):AWP (OkS Tryz.prog) Ik (qL [0,1,5] [] (CB aZ0 bZ0) (qS (qX 0 [] [] (va)) (qR V26 (fun r=>.b r))) o) (CB aZ0 bZ0 sZ2):=by
 unfold Cf at h
 simp only [ZC,CB,Ik]
 obtain ⟨cZ3,h⟩ | ⟨cZ3,h⟩:=ai h
 · obtain ⟨yZ4,hyZ4,h⟩:=af h
   obtain ⟨hyZ4a,hyZ4b⟩:=ba hyZ4
   obtain ⟨yZ5,hyZ5,h⟩:=af h
   obtain ⟨hyZ5a,hyZ5b⟩:=ba hyZ5
   obtain ⟨cZ6,h⟩ | ⟨cZ6,h⟩:=ai h
   · cases h
     exact ZL (ZA cZ3 (ZA hyZ4a (ZA hyZ4b (ZA hyZ5a (ZA hyZ5b cZ6))))) @V26.eq_1
   · cases h
     exact ZL (ZA cZ3 (ZA hyZ4a (ZA hyZ4b (ZA hyZ5a (ZA hyZ5b cZ6))))) (ZA @CB.eq_1 @va.eq_1)
 · cases h
   exact ZL cZ3 (ZA @CB.eq_1 @va.eq_1)
theorem w_ee (aZ0:List Int) (bZ0:List Int) {r:Bool} (h:Ft aZ0 bZ0=some r):Ok Tryz.prog 26 [.lst .o 1 (aZ0.map AV.i),.lst .o 1 (bZ0.map AV.i)] ((fun r=>.b r) r):=by
 refine ay bc m26 rfl ?_
 unfold Ft at h
 simp only [ZC,A26,V26,aJ]
 obtain ⟨cZ1,h⟩ | ⟨cZ1,h⟩:=ai h
 · cases h
   exact ZL cZ1 @V26.eq_1
 · obtain ⟨oZ7,hoZ7,h⟩:=af h
   try refine ZF cZ1 ?_
   refine bi (o:=oZ7) (br cZ (aF (w_bb aZ0 bZ0) hoZ7 ?_)) (fun vZ8 hv=>?_) (fun xZ9 hv e τ hne hq=>?_)
   · exact ZK (ZA @CB.eq_1 @va.eq_1)
   · subst hv
     simp only [] at h
     simp only [ZC,va,OG]
     cases h
     exact ZL cZ1 @V26.eq_1
   · subst hv
     simp only [] at h
     obtain ⟨rfl,qZ10⟩:=hq
     cases h
     exact qZ10
def zd (rZ3:ae×Int×List Int) (rZ4:List au×Bool) (v:Int):St:=⟨[(3,.pt 3 0 0),(4,.sl 4 0 rZ3.2.2.length),(5,.i rZ3.2.1),(6,.sl 6 0 rZ4.1.length),(7,.b rZ4.2),(10,.i v)],[(3,.var (.agg [.lst .m 1 (((rZ3.1).Nodes).map AV.z),.lst .m 4 (((rZ3.1).Fibers).map (ah .m))])),(4,.arr 1 (rZ3.2.2.map AV.i)),(6,.arr 2 (rZ4.1.map (aw .u)))]⟩
def tv (rZ3:ae×Int×List Int) (rZ4:List au×Bool) (v:Unit):St:=⟨[(3,.pt 3 0 0),(4,.sl 4 0 rZ3.2.2.length),(5,.i rZ3.2.1),(6,.sl 6 0 rZ4.1.length),(7,.b rZ4.2)],[(3,.var (.agg [.lst .m 1 (((rZ3.1).Nodes).map AV.z),.lst .m 4 (((rZ3.1).Fibers).map (ah .m))])),(4,.arr 1 (rZ3.2.2.map AV.i)),(6,.arr 2 (rZ4.1.map (aw .u)))]⟩
theorem w_aj (rZ3:ae×Int×List Int) (rZ4:List au×Bool) (sZ9:Int) (o:Int ⊕ (Unit ⊕ Bool)) (h:vK rZ3 rZ4 sZ9=some o):AWP (OkS Tryz.prog) Qe (qL [3,4,5,6,7,10] [3,4,6] (zd rZ3 rZ4) (qS (qX 0 [3,4,5,6,7] [3,4,6] (tv rZ3 rZ4)) (qR V7 (fun r=>.b r))) o) (zd rZ3 rZ4 sZ9):=by
 unfold vK at h
 simp only [ZC,zd,Qe]
 obtain ⟨cZ10,h⟩ | ⟨cZ10,h⟩:=ai h
 · obtain ⟨kZ11,hkZ11,h⟩:=af h
   obtain ⟨hkZ11a,hkZ11b⟩:=aR hkZ11
   obtain ⟨yZ12,hyZ12,h⟩:=af h
   obtain ⟨rZ13,hrZ13,h⟩:=af h
   refine ZF (ZA cZ10 (ZA hkZ11a (ZA hkZ11b hyZ12))) ?_
   refine ZU (ZA cZ10 (ZA hkZ11a (ZA hkZ11b hyZ12))) (w_cd _ _ hrZ13) ?_
   refine ZG ?_
   obtain ⟨oZ23,hoZ23,h⟩:=af h
   try refine ZF (ZA cZ10 (ZA hkZ11a (ZA hkZ11b hyZ12))) ?_
   refine aA (sh:=(fun v=>⟨[(3,.pt 3 0 0),(4,.sl 4 0 rZ3.2.2.length),(5,.i rZ3.2.1),(6,.sl 6 0 rZ4.1.length),(7,.b rZ4.2),(10,.i sZ9),(105,.b v)],[(3,.var (.agg [.lst .m 1 (((rZ3.1).Nodes).map AV.z),.lst .m 4 (((rZ3.1).Fibers).map (ah .m))])),(4,.arr 1 (rZ3.2.2.map AV.i)),(6,.arr 2 (rZ4.1.map (aw .u)))]⟩)) (s:=oZ23) ?_ ?_
   · replace h:=hoZ23
     obtain ⟨cZ14,h⟩ | ⟨cZ14,h⟩:=ai h
     · cases h
       exact ZL (ZA cZ10 (ZA hkZ11a (ZA hkZ11b (ZA hyZ12 cZ14)))) trivial
     · obtain ⟨rZ15,hrZ15,h⟩:=af h
       refine ZF (ZA cZ10 (ZA hkZ11a (ZA hkZ11b (ZA hyZ12 cZ14)))) ?_
       refine ZS (ZA cZ10 (ZA hkZ11a (ZA hkZ11b (ZA hyZ12 cZ14)))) (w_ce _ _ hrZ15) ?_
       refine ZG ?_
       obtain ⟨cZ16,h⟩ | ⟨cZ16,h⟩:=ai h
       · cases h
         exact ZL (ZA cZ10 (ZA hkZ11a (ZA hkZ11b (ZA hyZ12 (ZA cZ14 cZ16))))) trivial
       · obtain ⟨kZ17,hkZ17,h⟩:=af h
         obtain ⟨hkZ17a,hkZ17b⟩:=aR hkZ17
         obtain ⟨yZ18,hyZ18,h⟩:=af h
         obtain ⟨yZ19,hyZ19,h⟩:=af h
         obtain ⟨hyZ19a,hyZ19b⟩:=ba hyZ19
         obtain ⟨cZ20,h⟩ | ⟨cZ20,h⟩:=ai h
         · cases h
           exact ZL (ZA cZ10 (ZA hkZ11a (ZA hkZ11b (ZA hyZ12 (ZA cZ14 (ZA cZ16 (ZA hkZ17a (ZA hkZ17b (ZA hyZ18 (ZA hyZ19a (ZA hyZ19b cZ20))))))))))) trivial
         · obtain ⟨kZ21,hkZ21,h⟩:=af h
           obtain ⟨hkZ21a,hkZ21b⟩:=aR hkZ21
           obtain ⟨yZ22,hyZ22,h⟩:=af h
           cases h
           exact ZL (ZA cZ10 (ZA hkZ11a (ZA hkZ11b (ZA hyZ12 (ZA cZ14 (ZA cZ16 (ZA hkZ17a (ZA hkZ17b (ZA hyZ18 (ZA hyZ19a (ZA hyZ19b (ZA cZ20 (ZA hkZ21a (ZA hkZ21b hyZ22)))))))))))))) trivial
   · simp only [ZC,A7R2]
     obtain ⟨cZ24,h⟩ | ⟨cZ24,h⟩:=ai h
     · cases h
       exact ZL (ZA cZ10 (ZA hkZ11a (ZA hkZ11b (ZA hyZ12 cZ24)))) @V7.eq_1
     · cases h
       exact ZL (ZA cZ10 (ZA hkZ11a (ZA hkZ11b (ZA hyZ12 cZ24)))) (ZA @zd.eq_1 @tv.eq_1)
 · cases h
   exact ZL cZ10 (ZA @zd.eq_1 @tv.eq_1)
def Bw (rZ3:ae×Int×List Int) (rZ37:List (List Int)×Bool) (rZ38:Bool×List (List Int)) (v:Int):St:=⟨[(3,.pt 3 0 0),(16,.sl 16 0 rZ37.1.length),(18,.sl 18 0 rZ38.2.length),(20,.i v)],[(3,.var (.agg [.lst .m 1 (((rZ3.1).Nodes).map AV.z),.lst .m 4 (((rZ3.1).Fibers).map (ah .m))])),(16,.arr 1 (rZ37.1.map (aV .u))),(18,.arr 1 (rZ38.2.map (aV .m)))]⟩
def tJ (v:Unit):St:=⟨[],[]⟩
theorem w_ak (rZ3:ae×Int×List Int) (rZ37:List (List Int)×Bool) (rZ38:Bool×List (List Int)) (sZ42:Int) (o:Int ⊕ (Unit ⊕ Bool)) (h:vr rZ3 rZ37 rZ38 sZ42=some o):AWP (OkS Tryz.prog) PY (qL [3,16,18,20] [3,16,18] (Bw rZ3 rZ37 rZ38) (qS (qX 2 [] [] (tJ)) (qR V7 (fun r=>.b r))) o) (Bw rZ3 rZ37 rZ38 sZ42):=by
 unfold vr at h
 simp only [ZC,Bw,PY]
 obtain ⟨cZ43,h⟩ | ⟨cZ43,h⟩:=ai h
 · obtain ⟨oZ51,hoZ51,h⟩:=af h
   try refine ZF cZ43 ?_
   refine aA (sh:=(fun v=>⟨[(3,.pt 3 0 0),(16,.sl 16 0 rZ37.1.length),(18,.sl 18 0 rZ38.2.length),(20,.i sZ42),(182,.b v)],[(3,.var (.agg [.lst .m 1 (((rZ3.1).Nodes).map AV.z),.lst .m 4 (((rZ3.1).Fibers).map (ah .m))])),(16,.arr 1 (rZ37.1.map (aV .u))),(18,.arr 1 (rZ38.2.map (aV .m)))]⟩)) (s:=oZ51) ?_ ?_
   · replace h:=hoZ51
     obtain ⟨kZ44,hkZ44,h⟩:=af h
     obtain ⟨hkZ44a,hkZ44b⟩:=aR hkZ44
     obtain ⟨yZ45,hyZ45,h⟩:=af h
     obtain ⟨kZ46,hkZ46,h⟩:=af h
     obtain ⟨hkZ46a,hkZ46b⟩:=aR hkZ46
     obtain ⟨yZ47,hyZ47,h⟩:=af h
     obtain ⟨rZ48,hrZ48,h⟩:=af h
     refine ZF (ZA cZ43 (ZA hkZ44a (ZA hkZ44b (ZA hyZ45 (ZA hkZ46a (ZA hkZ46b hyZ47)))))) ?_
     refine ZS (ZA cZ43 (ZA hkZ44a (ZA hkZ44b (ZA hyZ45 (ZA hkZ46a (ZA hkZ46b hyZ47)))))) (w_ee _ _ hrZ48) ?_
     refine ZG ?_
     obtain ⟨cZ49,h⟩ | ⟨cZ49,h⟩:=ai h
     · cases h
       exact ZL (ZA cZ43 (ZA hkZ44a (ZA hkZ44b (ZA hyZ45 (ZA hkZ46a (ZA hkZ46b (ZA hyZ47 cZ49))))))) trivial
     · obtain ⟨rZ50,hrZ50,h⟩:=af h
       refine ZF (ZA cZ43 (ZA hkZ44a (ZA hkZ44b (ZA hyZ45 (ZA hkZ46a (ZA hkZ46b (ZA hyZ47 cZ49))))))) ?_
       refine ZS (ZA cZ43 (ZA hkZ44a (ZA hkZ44b (ZA hyZ45 (ZA hkZ46a (ZA hkZ46b (ZA hyZ47 cZ49))))))) (LI _ _ hrZ50) ?_
       refine ZG ?_
       cases h
       exact ZL (ZA cZ43 (ZA hkZ44a (ZA hkZ44b (ZA hyZ45 (ZA hkZ46a (ZA hkZ46b (ZA hyZ47 cZ49))))))) trivial
   · simp only [ZC,A7R7]
     obtain ⟨cZ52,h⟩ | ⟨cZ52,h⟩:=ai h
     · cases h
       exact ZL (ZA cZ43 cZ52) @V7.eq_1
     · cases h
       exact ZL (ZA cZ43 cZ52) (ZA @Bw.eq_1 @tJ.eq_1)
 · cases h
   exact ZL cZ43 (ZA @Bw.eq_1 @tJ.eq_1)
theorem w_em (codeZ0:List Int) {r:Bool} (h:JP codeZ0=some r):Ok Tryz.prog 7 [.lst .o 1 (codeZ0.map AV.u8)] ((fun r=>.b r) r):=by
 refine ay bc m7 rfl ?_
 unfold JP at h
 simp only [ZC,A7,V7,aJ]
 obtain ⟨rZ1,hrZ1,h⟩:=af h
 refine ZF trivial ?_
 refine ZS trivial (w_ef _ hrZ1) ?_
 refine ZG ?_
 obtain ⟨cZ2,h⟩ | ⟨cZ2,h⟩:=ai h
 · cases h
   exact ZL cZ2 @V7.eq_1
 · obtain ⟨rZ3,hrZ3,h⟩:=af h
   refine ZF cZ2 ?_
   refine ZW cZ2 (w_de _ hrZ3) (h2:=by first | exact bA [3] rfl (by decide +kernel) | exact be [3] [2600003] rfl (by decide +kernel) ZQ | exact ZQ) (hk:=?_)
   refine ZG ?_
   obtain ⟨rZ4,hrZ4,h⟩:=af h
   refine ZF cZ2 ?_
   refine ZU cZ2 (w_dn _ _ _ hrZ4) ?_
   refine ZG ?_
   obtain ⟨rZ5,hrZ5,h⟩:=af h
   refine ZF cZ2 ?_
   refine ZU cZ2 (w_dt _ _ _ hrZ5) ?_
   refine ZG ?_
   obtain ⟨oZ7,hoZ7,h⟩:=af h
   try refine ZF cZ2 ?_
   refine aA (sh:=(fun v=>⟨[(3,.pt 3 0 0),(4,.sl 4 0 rZ3.2.2.length),(5,.i rZ3.2.1),(6,.sl 6 0 rZ4.1.length),(7,.b rZ4.2),(52,.b v)],[(3,.var (.agg [.lst .m 1 (((rZ3.1).Nodes).map AV.z),.lst .m 4 (((rZ3.1).Fibers).map (ah .m))])),(4,.arr 1 (rZ3.2.2.map AV.i)),(6,.arr 2 (rZ4.1.map (aw .u)))]⟩)) (s:=oZ7) ?_ ?_
   · replace h:=hoZ7
     obtain ⟨cZ6,h⟩ | ⟨cZ6,h⟩:=ai h
     · cases h
       exact ZL (ZA cZ2 cZ6) trivial
     · cases h
       exact ZL (ZA cZ2 cZ6) trivial
   · simp only [ZC,A7R1]
     obtain ⟨cZ8,h⟩ | ⟨cZ8,h⟩:=ai h
     · cases h
       exact ZL (ZA cZ2 cZ8) @V7.eq_1
     · obtain ⟨oZ25,hoZ25,h⟩:=af h
       try refine ZF (ZA cZ2 cZ8) ?_
       refine bi (o:=oZ25) (br cZ (aF (w_aj rZ3 rZ4) hoZ25 ?_)) (fun vZ26 hv=>?_) (fun xZ27 hv e τ hne hq=>?_)
       · exact ZK (ZA @zd.eq_1 @tv.eq_1)
       · subst hv
         simp only [] at h
         simp only [ZC,tv,A7R4]
         obtain ⟨rZ28,hrZ28,h⟩:=af h
         refine ZF (ZA cZ2 cZ8) ?_
         refine ZU (ZA cZ2 cZ8) (w_ea _ _ hrZ28) ?_
         refine ZG ?_
         obtain ⟨rZ29,hrZ29,h⟩:=af h
         refine ZF (ZA cZ2 cZ8) ?_
         refine ZS (ZA cZ2 cZ8) (LI _ _ hrZ29) ?_
         refine ZG ?_
         obtain ⟨cZ30,h⟩ | ⟨cZ30,h⟩:=ai h
         · cases h
           exact ZL (ZA cZ2 (ZA cZ8 cZ30)) @V7.eq_1
         · obtain ⟨oZ35,hoZ35,h⟩:=af h
           try refine ZF (ZA cZ2 (ZA cZ8 cZ30)) ?_
           refine aA (sh:=(fun v=>⟨[(3,.pt 3 0 0),(137,.b v)],[(3,.var (.agg [.lst .m 1 (((rZ3.1).Nodes).map AV.z),.lst .m 4 (((rZ3.1).Fibers).map (ah .m))]))]⟩)) (s:=oZ35) ?_ ?_
           · replace h:=hoZ35
             obtain ⟨cZ31,h⟩ | ⟨cZ31,h⟩:=ai h
             · obtain ⟨cZ32,h⟩ | ⟨cZ32,h⟩:=ai h
               · cases h
                 exact ZL (ZA cZ2 (ZA cZ8 (ZA cZ30 (ZA cZ31 cZ32)))) trivial
               · obtain ⟨cZ33,h⟩ | ⟨cZ33,h⟩:=ai h
                 · obtain ⟨rZ34,hrZ34,h⟩:=af h
                   refine ZF (ZA cZ2 (ZA cZ8 (ZA cZ30 (ZA cZ31 (ZA cZ32 cZ33))))) ?_
                   refine ZS (ZA cZ2 (ZA cZ8 (ZA cZ30 (ZA cZ31 (ZA cZ32 cZ33))))) (w_ce _ _ hrZ34) ?_
                   refine ZG ?_
                   cases h
                   exact ZL (ZA cZ2 (ZA cZ8 (ZA cZ30 (ZA cZ31 (ZA cZ32 cZ33))))) trivial
                 · cases h
                   exact ZL (ZA cZ2 (ZA cZ8 (ZA cZ30 (ZA cZ31 (ZA cZ32 cZ33))))) trivial
             · cases h
               exact ZL (ZA cZ2 (ZA cZ8 (ZA cZ30 cZ31))) trivial
           · simp only [ZC,A7R5]
             obtain ⟨cZ36,h⟩ | ⟨cZ36,h⟩:=ai h
             · cases h
               exact ZL (ZA cZ2 (ZA cZ8 (ZA cZ30 cZ36))) @V7.eq_1
             · obtain ⟨rZ37,hrZ37,h⟩:=af h
               refine ZF (ZA cZ2 (ZA cZ8 (ZA cZ30 cZ36))) ?_
               refine ZU (ZA cZ2 (ZA cZ8 (ZA cZ30 cZ36))) (w_ed _ hrZ37) ?_
               refine ZG ?_
               obtain ⟨rZ38,hrZ38,h⟩:=af h
               refine ZF (ZA cZ2 (ZA cZ8 (ZA cZ30 cZ36))) ?_
               refine ZW (ZA cZ2 (ZA cZ8 (ZA cZ30 cZ36))) (w_ck _ hrZ38) (h2:=by first | exact bA [2] rfl (by decide +kernel) | exact be [2] [14600002] rfl (by decide +kernel) ZQ | exact ZQ) (hk:=?_)
               refine ZG ?_
               obtain ⟨oZ40,hoZ40,h⟩:=af h
               try refine ZF (ZA cZ2 (ZA cZ8 (ZA cZ30 cZ36))) ?_
               refine aA (sh:=(fun v=>⟨[(3,.pt 3 0 0),(16,.sl 16 0 rZ37.1.length),(18,.sl 18 0 rZ38.2.length),(157,.b v)],[(3,.var (.agg [.lst .m 1 (((rZ3.1).Nodes).map AV.z),.lst .m 4 (((rZ3.1).Fibers).map (ah .m))])),(16,.arr 1 (rZ37.1.map (aV .u))),(18,.arr 1 (rZ38.2.map (aV .m)))]⟩)) (s:=oZ40) ?_ ?_
               · replace h:=hoZ40
                 obtain ⟨cZ39,h⟩ | ⟨cZ39,h⟩:=ai h
                 · cases h
                   exact ZL (ZA cZ2 (ZA cZ8 (ZA cZ30 (ZA cZ36 cZ39)))) trivial
                 · cases h
                   exact ZL (ZA cZ2 (ZA cZ8 (ZA cZ30 (ZA cZ36 cZ39)))) trivial
               · simp only [ZC,A7R6]
                 obtain ⟨cZ41,h⟩ | ⟨cZ41,h⟩:=ai h
                 · cases h
                   exact ZL (ZA cZ2 (ZA cZ8 (ZA cZ30 (ZA cZ36 cZ41)))) @V7.eq_1
                 · obtain ⟨oZ53,hoZ53,h⟩:=af h
                   try refine ZF (ZA cZ2 (ZA cZ8 (ZA cZ30 (ZA cZ36 cZ41)))) ?_
                   refine bi (o:=oZ53) (br cZ (aF (w_ak rZ3 rZ37 rZ38) hoZ53 ?_)) (fun vZ54 hv=>?_) (fun xZ55 hv e τ hne hq=>?_)
                   · exact ZK (ZA @Bw.eq_1 @tJ.eq_1)
                   · subst hv
                     simp only [] at h
                     simp only [ZC,tJ,A7R9]
                     cases h
                     exact ZL (ZA cZ2 (ZA cZ8 (ZA cZ30 (ZA cZ36 cZ41)))) @V7.eq_1
                   · subst hv
                     simp only [] at h
                     obtain ⟨rfl,qZ56⟩:=hq
                     cases h
                     exact qZ56
       · subst hv
         simp only [] at h
         obtain ⟨rfl,qZ57⟩:=hq
         cases h
         exact qZ57
end Vs

