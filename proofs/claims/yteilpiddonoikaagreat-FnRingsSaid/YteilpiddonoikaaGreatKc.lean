/-
  Part of the proof that the law FnRings returns true at every input; no condition beside the row's own.
-/
import Derived.Test.YteilpiddonoikaaGreatXe
import Derived.Test.YteilpiddonoikaaGreatKa
set_option linter.defProp false
set_option linter.unusedSimpArgs false
set_option linter.unusedVariables false
namespace Vs
open Go
def lL (xs:(List ByteArray)):Nat:=xs.length+(xs.map fun x=>x.size).sum
def oD (xs:(List ar)):Nat:=xs.length
def bz (x:ae):Nat:=lL x.Nodes+oD x.Fibers
end Vs

namespace Vs
open Go
def wi (x a b:Int):Bool:=decide (a≤x)&&decide (x≤b)
theorem dd {x a b:Int}:wi x a b=true↔a≤x∧x≤b:=by simp [wi]
theorem tl {x a b:Int}:wi x a b=false↔¬ (a≤x∧x≤b):=by rw [← dd]; simp
theorem eW (x a b:Int):M_q x a b=some (wi x a b):=by
 unfold M_q wi; by_cases h:a≤x <;> simp [h]
theorem jW (x a b:Int):M_h x a b=some (wi x a b):=by
 unfold M_h wi; by_cases h:a≤x <;> simp [h]
def oY (c:UInt8):Bool:=decide (97≤c.toNat)&&decide (c.toNat≤122)
def sj (c:UInt8):Bool:=decide (48≤c.toNat)&&decide (c.toNat≤57)
def fw (i:Nat) (c:UInt8):Bool:=!oY c&&(!sj c||i==0)
def oc (s:ByteArray):Bool:=!fC fw s.data.toList&&wi s.size 1 8
theorem ox (s:ByteArray) (i:Nat):ru s (i:Int)=s.data.toList[i]?:=by
 unfold ru
 rw [if_pos (by omega),Int.toNat_natCast]
 by_cases h:i < s.size
 · have h2:i < s.data.toList.length:=by simpa using h
   rw [getElem?_pos s i h,List.getElem?_eq_getElem h2]
   rfl
 · have h2:¬ i < s.data.toList.length:=by simpa using h
   rw [getElem?_neg s i h,List.getElem?_eq_none (Nat.le_of_not_lt h2)]
theorem eu (s:ByteArray):s.size=s.data.toList.length:=by show s.data.size=s.data.toList.length; rw [Array.length_toList]
theorem xn (c:UInt8):oY c=(decide (97≤(c.toNat:Int))&&decide ((c.toNat:Int)≤122)):=by
 unfold oY
 congr 1 <;> exact decide_eq_decide.2 (by omega)
theorem Fp (c:UInt8):sj c=(decide (48≤(c.toNat:Int))&&decide ((c.toNat:Int)≤57)):=by
 unfold sj
 congr 1 <;> exact decide_eq_decide.2 (by omega)
theorem Fq (s:ByteArray) (hl:s.size≤1048576):Hl s=some (oc s):=by
 unfold Hl oc
 rw [eu] at *
 rw [eM (f:=M_r s) s.data.toList fw (.inr false) (.inl ()) (fun i c hc _=>by
  have hlt:=(List.getElem?_eq_some_iff.1 hc).1
  have h1:decide ((i:Int) < s.size)=true:=decide_eq_true (by rw [eu]; omega)
  simp only [M_r,h1,cond_true,ox,hc,Option.bind_some,fw,xn,Fp]
  rw [aG (by omega) (by omega)]
  have hi:((i:Int)==0)=(i==0):=by rw [Bool.eq_iff_iff]; simp
  rw [hi]
  cases decide (97≤(c.toNat:Int)) <;> cases decide ((c.toNat:Int)≤122) <;> cases decide (48≤(c.toNat:Int)) <;> cases decide ((c.toNat:Int)≤57) <;> cases (i==0) <;> rfl) (by simp [M_r]) (by omega)]
 rw [← eu]
 cases fC fw s.data.toList <;> simp [eW]
theorem GQ (c:UInt8):Gs (c.toNat:Int)=some (oY c||sj c):=by
 unfold Gs
 simp only [xn,Fp]
 cases decide (97≤(c.toNat:Int)) <;> cases decide ((c.toNat:Int)≤122) <;> cases decide (48≤(c.toNat:Int)) <;> rfl
theorem fstc (c:UInt8):(cond (decide ((c.toNat:Int) < 97)) (some true) (some (decide (122 < (c.toNat:Int)))):Option Bool)=some (!oY c):=by
 rw [xn]
 by_cases h1:(c.toNat:Int) < 97
 · have h2:¬ 97≤(c.toNat:Int):=by omega
   simp [h1,h2]
 · have h2:97≤(c.toNat:Int):=by omega
   simp only [h1,decide_false,cond_false,h2,decide_true,Bool.true_and]
   by_cases h3:122 < (c.toNat:Int)
   · have h4:¬ (c.toNat:Int)≤122:=by omega
     simp [h3,h4]
   · have h4:(c.toNat:Int)≤122:=by omega
     simp [h3,h4]
theorem Jx (s:ByteArray) (hl:s.size≤1048576):IL s=some (oc s):=by
 unfold IL oc
 simp only [jW,Option.bind_some]
 rcases bt (wi s.size 1 8) with hw | hw
 · simp only [hw,Bool.not_true,cond_false,Bool.and_true]
   have hs:0 < s.data.toList.length:=by rw [← eu]; have:=(dd.1 hw).1; omega
   have h0:s.data.toList[0]?=some s.data.toList[0]:=List.getElem?_eq_getElem hs
   have g0:ru s 0=some s.data.toList[0]:=by rw [← h0]; exact ox s 0
   simp only [g0,Option.bind_some]
   have key:=eM (f:=Ce s) s.data.toList (fun _ c=>!(oY c||sj c)) (.inr false) (.inl ()) (fun i c hc _=>by
    have hlt:=(List.getElem?_eq_some_iff.1 hc).1
    have h1:decide ((i:Int) < s.size)=true:=decide_eq_true (by rw [eu]; omega)
    rw [eu] at hl
    simp only [Ce,h1,cond_true,ox,hc,Option.bind_some,GQ]
    rw [aG (by omega) (by omega)]
    cases oY c <;> cases sj c <;> rfl) (by simp [Ce]) (by rw [eu] at hl; omega)
   rw [fstc]
   simp only [Option.bind_some,key]
   rcases bt (oY s.data.toList[0]) with hL | hL
   · simp only [hL,Bool.not_true,cond_false]
     have e:fC (fun _ c=>!(oY c||sj c)) s.data.toList=fC fw s.data.toList:=by
      refine wo fun i c hc _=>?_
      unfold fw
      by_cases hi:i=0
      · subst hi; rw [h0] at hc; cases hc; rw [hL]; rfl
      · have:(i==0)=false:=by simpa using hi
        rw [this]
        cases oY c <;> cases sj c <;> rfl
     rw [e]
     cases fC fw s.data.toList <;> rfl
   · have:fC fw s.data.toList=true:=iP.2 ⟨0,_,h0,by unfold fw; rw [hL]; simp⟩
     simp only [hL,this,Bool.not_false,cond_true,Bool.not_true]
 · simp [hw]
def Pe (v:ByteArray) (xs:List ByteArray):Option (Nat×ByteArray):=bv (fun _ x=>x.toList==v.toList) xs
def LG (v:ByteArray) (xs:List ByteArray):Int:=match Pe v xs with | some q=>(q.1:Int) | none=>-1
theorem Eu (xs:List ByteArray) (v:ByteArray) (hl:xs.length≤1048576):Hu xs v=some (LG v xs):=by
 unfold Hu LG
 rw [cg (f:=CX xs v) xs (fun _ x=>x.toList==v.toList) (fun i _=>(i:Int)) () (fun i x hx _=>by
  have hlt:=(List.getElem?_eq_some_iff.1 hx).1
  have h1:decide ((i:Int) < xs.length)=true:=by simp [hlt]
  simp only [CX,h1,cond_true,aU,hx,Option.bind_some]
  rw [aG (by omega) (by omega)]
  cases x.toList==v.toList <;> rfl) (by simp [CX]) (by omega)]
 unfold Pe
 cases bv (fun _ x=>x.toList==v.toList) xs <;> rfl
theorem rC (xs:List ByteArray) (v:ByteArray) (hl:xs.length≤1048576):HN xs v=some (xs.any fun x=>x.toList==v.toList):=by
 unfold HN LK
 rw [cg (f:=zy xs v) xs (fun _ x=>x.toList==v.toList) (fun i _=>(i:Int)) () (fun i x hx _=>by
  have hlt:=(List.getElem?_eq_some_iff.1 hx).1
  have h1:decide ((i:Int) < xs.length)=true:=by simp [hlt]
  simp only [zy,h1,cond_true,aU,hx,Option.bind_some]
  rw [aG (by omega) (by omega),show (v.toList==x.toList)=(x.toList==v.toList) from Bool.beq_comm ..]
  cases x.toList==v.toList <;> rfl) (by simp [zy]) (by omega)]
 cases e:bv (fun _ x=>x.toList==v.toList) xs with
 | none =>
   have:=cT.1 e
   have h:(xs.any fun x=>x.toList==v.toList)=false:=by
    rw [← HQ (fun x:ByteArray=>x.toList==v.toList),dD]; exact this
   rw [h]; rfl
 | some q =>
   obtain ⟨i,x⟩:=q
   obtain ⟨h1,h2,_⟩:=ca.1 e
   have h:(xs.any fun x=>x.toList==v.toList)=true:=List.any_eq_true.2 ⟨x,List.mem_of_getElem? h1,h2⟩
   rw [h]; simp
def cq (x y:Int):Int:=if x < y then -1 else if y < x then 1 else 0
theorem pX (x y:Int):M_s x y=some (cq x y):=by
 unfold M_s sM cq
 by_cases h:x < y
 · simp [h]
 · by_cases h2:y < x <;> simp [h,h2]
def wL (f g:ar):Int:=if f.A ≠ g.A then cq f.A g.A else if f.B ≠ g.B then cq f.B g.B else if f.Length ≠ g.Length then cq f.Length g.Length else cq f.Risk g.Risk
theorem bM {x y:Int}:cq x y=0↔x=y:=by
 unfold cq
 split
 · simp; omega
 · split
   · simp; omega
   · simp; omega
theorem mt (f g:ar):Gf f g=some (wL f g):=by
 unfold Gf
 simp only [pX,Option.bind_some,bnd]
 unfold pn
 have key:=cg (f:=M_e [cq f.A g.A,cq f.B g.B,cq f.Length g.Length,cq f.Risk g.Risk]) [cq f.A g.A,cq f.B g.B,cq f.Length g.Length,cq f.Risk g.Risk] (fun _ x=>x != 0) (fun _ x=>x) () (fun i x hx _=>by
  have hlt:=(List.getElem?_eq_some_iff.1 hx).1
  have h1:decide ((i:Int) < ([cq f.A g.A,cq f.B g.B,cq f.Length g.Length,cq f.Risk g.Risk].length:Nat))=true:=decide_eq_true (by omega)
  simp only [List.length_cons,List.length_nil] at hlt
  simp only [M_e,h1,cond_true,aU,hx,Option.bind_some]
  rw [aG (by omega) (by omega)]
  cases x != 0 <;> rfl) (by simp [M_e]) (by simp)
 rw [key]
 unfold wL bv
 simp only [List.zipIdx_cons,List.zipIdx_nil,List.find?_cons,List.find?_nil]
 by_cases h1:f.A=g.A
 · rw [bM.2 h1]
   by_cases h2:f.B=g.B
   · rw [bM.2 h2]
     by_cases h3:f.Length=g.Length
     · rw [bM.2 h3]
       by_cases h4:f.Risk=g.Risk
       · simp [h1,h2,h3,h4,bM.2]
       · have:(cq f.Risk g.Risk != 0)=true:=bne_iff_ne.2 fun e=>h4 (bM.1 e)
         simp [h1,h2,h3,this]
     · have:(cq f.Length g.Length != 0)=true:=bne_iff_ne.2 fun e=>h3 (bM.1 e)
       simp [h1,h2,h3,this]
   · have:(cq f.B g.B != 0)=true:=bne_iff_ne.2 fun e=>h2 (bM.1 e)
     simp [h1,h2,this]
 · have:(cq f.A g.A != 0)=true:=bne_iff_ne.2 fun e=>h1 (bM.1 e)
   simp [h1,this]
end Vs

namespace Vs
open Go
theorem rV {α:Type} (xs:List α) (i:Nat) (h:i≤xs.length):slT xs (i:Int)=some (xs.take i):=by
 unfold slT
 rw [if_pos ⟨by omega,by simpa using h⟩]; simp
theorem tx {n:ae} (h:bz n≤1048576):n.Nodes.length≤1048576∧n.Fibers.length≤1048576∧∀ x∈n.Nodes,x.size≤1048576:=by
 unfold bz lL oD at h
 refine ⟨by omega,by omega,fun x hx=>?_⟩
 obtain ⟨i,hi,rfl⟩:=List.getElem_of_mem hx
 have:n.Nodes[i].size≤(n.Nodes.map fun x:ByteArray=>x.size).sum:=Jv (fun x:ByteArray=>x.size) (xs:=n.Nodes) (i:=i) (x:=n.Nodes[i]) (by simp [hi])
 omega
def hM (n:ae) (i:Nat) (x:ByteArray):Bool:=!oc x||(n.Nodes.take i).any fun y=>y.toList==x.toList
def vp (m:Nat) (f:ar):Bool:=decide (f.A < 0)||decide (f.B≤f.A)||decide ((m:Int)≤f.B)||!wi f.Length 1 5000||!wi f.Risk 0 9
def hP (n:ae) (i:Nat) (f:ar):Bool:=vp n.Nodes.length f||(decide (0 < i)&&match n.Fibers[i - 1]? with | some g=>decide (0 < wL g f) | none=>false)
def bu (n:ae):Bool:=!fC (hM n) n.Nodes&&!fC (hP n) n.Fibers&&wi n.Nodes.length 2 8&&decide (n.Fibers.length≤14)
theorem dm (n:ae) (hz:bz n≤1048576):vD n=some (bu n):=by
 obtain ⟨h1,h2,h3⟩:=tx hz
 unfold vD bu
 rw [eM (f:=CW n) n.Nodes (hM n) (.inr false) (.inl ()) (fun i x hx _=>by
  have hlt:=(List.getElem?_eq_some_iff.1 hx).1
  have e1:decide ((i:Int) < n.Nodes.length)=true:=by simp [hlt]
  simp only [CW,e1,cond_true,aU,hx,Option.bind_some,Fq x (h3 x (List.mem_of_getElem? hx)),rV n.Nodes i (Nat.le_of_lt hlt),rC (n.Nodes.take i) x (by simp; omega),hM]
  rw [aG (by omega) (by omega)]
  rcases bt (oc x) with e | e <;> rcases bt ((n.Nodes.take i).any (fun y=>y.toList==x.toList)) with e' | e' <;> simp only [e,e'] <;> rfl) (by simp [CW]) (by omega)]
 rcases bt (fC (hM n) n.Nodes) with hN | hN
 · simp [hN]
 · simp only [hN,Bool.false_eq_true,if_false,Option.bind_some,Bool.not_false,Bool.true_and]
   rw [eM (f:=M_t n) n.Fibers (hP n) (.inr false) (.inl ()) (fun i x hx _=>by
    have hlt:=(List.getElem?_eq_some_iff.1 hx).1
    have e1:decide ((i:Int) < n.Fibers.length)=true:=by simp [hlt]
    simp only [M_t,e1,cond_true,aU,hx,Option.bind_some,eW]
    rw [aG (n:=(i:Int)+1) (by omega) (by omega)]
    unfold hP vp
    cases decide (x.A < 0)
    · cases decide (x.B≤x.A)
      · cases decide ((n.Nodes.length:Int)≤x.B)
        · cases wi x.Length 1 5000
          · rfl
          · cases wi x.Risk 0 9
            · rfl
            · by_cases hi:0 < i
              · have hi':decide ((0:Int) < (i:Int))=true:=by simp [hi]
                have hp:n.Fibers[i - 1]?=some n.Fibers[i - 1]:=List.getElem?_eq_getElem (by omega)
                have hw:IntKind.wrap .i64 ((i:Int) - 1)=((i - 1:Nat):Int):=by rw [aG (by omega) (by omega)]; omega
                simp only [hi',cond_true,cond_false,Bool.not_true,hw,aU,hp,Option.bind_some,mt,hi,decide_true,Bool.true_and,Bool.false_or]
                cases decide (0 < wL n.Fibers[i - 1] x) <;> rfl
              · have hi':decide ((0:Int) < (i:Int))=false:=by simp; omega
                simp [hi',hi]
        · rfl
      · rfl
    · rfl) (by simp [M_t]) (by omega)]
   rcases bt (fC (hP n) n.Fibers) with hF | hF
   · simp [hF]
   · simp only [hF,Bool.false_eq_true,if_false,Option.bind_some,Bool.not_false,Bool.true_and,eW]
     have e:decide ((n.Fibers.length:Int)≤14)=decide (n.Fibers.length≤14):=decide_eq_decide.2 (by omega)
     rw [e]
     cases wi n.Nodes.length 2 8 <;> rfl
theorem He (n:ae) (i:Nat) (x:ByteArray) (hx:n.Nodes[i]?=some x) :
 (LG x n.Nodes != (i:Int))=(n.Nodes.take i).any fun y=>y.toList==x.toList:=by
 unfold LG
 cases e:Pe x n.Nodes with
 | none =>
   have:=cT.1 e i x hx
   simp at this
 | some q =>
   obtain ⟨j,y⟩:=q
   obtain ⟨h1,h2,h3⟩:=ca.1 e
   simp only
   by_cases hj:j=i
   · subst hj
     have:((n.Nodes.take j).any fun y=>y.toList==x.toList)=false:=by
      rw [List.any_eq_false]
      intro z hz
      obtain ⟨k,hk,rfl⟩:=List.getElem_of_mem hz
      simp only [List.length_take] at hk
      have:=h3 k (n.Nodes.take j)[k] (by omega) (by rw [List.getElem_take]; exact List.getElem?_eq_getElem (by omega))
      rw [this]; simp
     rw [this]; simp
   · have hji:j < i:=by
      rcases Nat.lt_trichotomy j i with h | h | h
      · exact h
      · exact (hj h).elim
      · have:=h3 i x h hx
        simp at this
     have:((n.Nodes.take i).any fun y=>y.toList==x.toList)=true:=List.any_eq_true.2 ⟨y,by
      have:(n.Nodes.take i)[j]?=some y:=by rw [List.getElem?_take,if_pos hji]; exact h1
      exact List.mem_of_getElem? this,h2⟩
     rw [this]
     simp; omega
theorem Bg (f:ar) (m:Nat) (hm:m≤8) (hm2:2≤m):Eh f (m:Int)=some (!vp m f):=by
 unfold Eh vp
 simp only [jW,Option.bind_some]
 rw [aG (n:=(m:Int) - 1) (by omega) (by omega)]
 rcases bt (wi f.A 0 ((m:Int) - 1)) with h1 | h1
 · have h2:=dd.1 h1
   rw [aG (n:=f.A+1) (by omega) (by omega)]
   rcases bt (wi f.B (f.A+1) ((m:Int) - 1)) with h3 | h3
   · have h4:=dd.1 h3
     have a1:decide (f.A < 0)=false:=by simp; omega
     have a2:decide (f.B≤f.A)=false:=by simp; omega
     have a3:decide ((m:Int)≤f.B)=false:=by simp; omega
     simp only [h1,h3,a1,a2,a3,cond_true,Bool.false_or]
     cases wi f.Length 1 5000 <;> cases wi f.Risk 0 9 <;> rfl
   · have h4:=tl.1 h3
     simp only [h1,h3,cond_true,cond_false]
     by_cases a2:f.B≤f.A
     · simp [a2]
     · have a3:(m:Int)≤f.B:=by omega
       simp [a3]
 · have h2:=tl.1 h1
   simp only [h1,cond_false]
   by_cases a1:f.A < 0
   · simp [a1]
   · by_cases a2:f.B≤f.A
     · simp [a2]
     · have a3:(m:Int)≤f.B:=by omega
       simp [a3]
structure uM (m:Int) (f:ar):Prop where
 a0:0≤f.A
 ab:f.A < f.B
 bm:f.B < m
 l1:1≤f.Length
 l2:f.Length≤5000
 r0:0≤f.Risk
 r9:f.Risk≤9
theorem rJ {m:Nat} {f:ar} (h:vp m f=false):uM m f:=by
 unfold vp at h
 simp only [Bool.or_eq_false_iff,decide_eq_false_iff_not,Bool.not_eq_false',dd] at h
 obtain ⟨⟨⟨⟨h1,h2⟩,h3⟩,h4,h5⟩,h6,h7⟩:=h
 exact ⟨by omega,by omega,by omega,h4,h5,h6,h7⟩
theorem FI (f g:ar) (m:Nat) (hm:m≤8) (hf:uM m f) (hg:uM m g):∃ r,uf f g=some r∧decide (0 < r)=decide (0 < wL f g):=by
 obtain ⟨a1,a2,a3,a4,a5,a6,a7⟩:=hf
 obtain ⟨b1,b2,b3,b4,b5,b6,b7⟩:=hg
 have sgn:∀ x y:Int,decide (0 < x - y)=decide (0 < cq x y):=by
  intro x y
  unfold cq
  by_cases h:x < y
  · rw [if_pos h]; exact decide_eq_decide.2 (by omega)
  · rw [if_neg h]
    by_cases h2:y < x
    · rw [if_pos h2]; exact decide_eq_decide.2 (by omega)
    · rw [if_neg h2]; exact decide_eq_decide.2 (by omega)
 unfold uf wL
 rw [aG (n:=f.A - g.A) (by omega) (by omega),aG (n:=f.B - g.B) (by omega) (by omega),aG (n:=f.Length - g.Length) (by omega) (by omega),aG (n:=f.Risk - g.Risk) (by omega) (by omega)]
 by_cases h1:f.A=g.A
 · have e1:(f.A != g.A)=false:=by rw [h1]; simp
   by_cases h2:f.B=g.B
   · have e2:(f.B != g.B)=false:=by rw [h2]; simp
     by_cases h3:f.Length=g.Length
     · have e3:(f.Length != g.Length)=false:=by rw [h3]; simp
       exact ⟨f.Risk - g.Risk,by simp only [e1,e2,e3,cond_false],by simp only [h1,h2,h3,ne_eq,not_true,if_false]; exact sgn _ _⟩
     · have e3:(f.Length != g.Length)=true:=bne_iff_ne.2 h3
       exact ⟨f.Length - g.Length,by simp only [e1,e2,e3,cond_false,cond_true],by simp only [h1,h2,h3,ne_eq,not_true,not_false_eq_true,if_false,if_true]; exact sgn _ _⟩
   · have e2:(f.B != g.B)=true:=bne_iff_ne.2 h2
     exact ⟨f.B - g.B,by simp only [e1,e2,cond_false,cond_true],by simp only [h1,h2,ne_eq,not_true,not_false_eq_true,if_false,if_true]; exact sgn _ _⟩
 · have e1:(f.A != g.A)=true:=bne_iff_ne.2 h1
   exact ⟨f.A - g.A,by simp only [e1,cond_true],by simp only [h1,ne_eq,not_false_eq_true,if_true]; exact sgn _ _⟩
theorem nP (n:ae) (hz:bz n≤1048576):vF n=some (bu n):=by
 obtain ⟨z1,z2,z3⟩:=tx hz
 unfold vF bu
 simp only [jW,Option.bind_some]
 rcases bt (wi n.Nodes.length 2 8) with hw | hw
 · have hw2:=dd.1 hw
   have e:decide (14 < (n.Fibers.length:Int))=!decide (n.Fibers.length≤14):=by
    rw [← decide_not]; exact decide_eq_decide.2 (by omega)
   simp only [hw,e,Bool.not_true,cond_false,Option.bind_some,Bool.and_true]
   rcases bt (decide (n.Fibers.length≤14)) with h14 | h14
   · simp only [h14,Bool.not_true,cond_false,Bool.and_true]
     rw [eM (f:=Ar n) n.Nodes (hM n) (.inr false) (.inl ()) (fun i x hx _=>by
      have hlt:=(List.getElem?_eq_some_iff.1 hx).1
      have e1:decide ((i:Int) < n.Nodes.length)=true:=by simp [hlt]
      simp only [Ar,e1,cond_true,aU,hx,Option.bind_some,Jx x (z3 x (List.mem_of_getElem? hx)),Eu n.Nodes x z1,He n i x hx,hM]
      rw [aG (by omega) (by omega)]
      rcases bt (oc x) with e | e <;> rcases bt ((n.Nodes.take i).any (fun y=>y.toList==x.toList)) with e' | e' <;> simp only [e,e'] <;> rfl) (by simp [Ar]) (by omega)]
     rcases bt (fC (hM n) n.Nodes) with hN | hN
     · simp [hN]
     · simp only [hN,Bool.false_eq_true,if_false,Option.bind_some,Bool.not_false,Bool.true_and]
       rw [eM (f:=Ae n) n.Fibers (hP n) (.inr false) (.inl ()) (fun i x hx hprev=>by
        have hlt:=(List.getElem?_eq_some_iff.1 hx).1
        have e1:decide ((i:Int) < n.Fibers.length)=true:=by simp [hlt]
        simp only [Ae,e1,cond_true,aU,hx,Option.bind_some,Bg x n.Nodes.length (by omega) (by omega),Bool.not_not]
        rw [aG (n:=(i:Int)+1) (by omega) (by omega)]
        unfold hP
        rcases bt (vp n.Nodes.length x) with h1 | h1
        · simp [h1]
        · simp only [h1,cond_false,Bool.false_or]
          by_cases hi:0 < i
          · have hi':decide ((0:Int) < (i:Int))=true:=by simp [hi]
            have hp:n.Fibers[i - 1]?=some n.Fibers[i - 1]:=List.getElem?_eq_getElem (by omega)
            have hw:IntKind.wrap .i64 ((i:Int) - 1)=((i - 1:Nat):Int):=by rw [aG (by omega) (by omega)]; omega
            have hb:=hprev (i - 1) n.Fibers[i - 1] (by omega) hp
            unfold hP at hb
            simp only [Bool.or_eq_false_iff] at hb
            obtain ⟨r,r1,r2⟩:=FI n.Fibers[i - 1] x n.Nodes.length (by omega) (rJ hb.1) (rJ h1)
            simp only [hi',cond_true,hw,aU,hp,Option.bind_some,r1,r2,hi,decide_true,Bool.true_and]
            cases decide (0 < wL n.Fibers[i - 1] x) <;> rfl
          · have hi':decide ((0:Int) < (i:Int))=false:=by simp; omega
            simp [hi',hi]) (by simp [Ae]) (by omega)]
       cases fC (hP n) n.Fibers <;> rfl
   · simp [h14]
 · simp [hw]
end Vs

namespace Vs
open Go
def dp (f:ar) (v:Int):Int:=if v=f.A then f.B else if v=f.B then f.A else -1
def bx (n:ae) (e v:Int):Int:=match n.Fibers[e.toNat]? with | some f=>dp f v | none=>-1
def iI (n:ae) (ring:List Int) (i:Nat) (e:Int):Bool:=!wi e 0 ((n.Fibers.length:Int) - 1)||(ring.take i).any fun x=>x==e
def stS (n:ae) (ring:List Int) (i:Nat) (e:Int) (p:Int×List Int):(Int×List Int) ⊕ ((Int×List Int) ⊕ (List Int×Bool)) :=
 if iI n ring i e||p.2.any (·==p.1) then .inr (.inr (p.2,false)) else if bx n e p.1 < 0 then .inr (.inr (p.2++[p.1],false)) else .inl (bx n e p.1,p.2++[p.1])
def stI (n:ae) (ring:List Int) (i:Nat) (e:Int) (p:Int×List Int):(Int×List Int) ⊕ ((Int×List Int) ⊕ (List Int×Int×Bool)) :=
 if iI n ring i e then .inr (.inr ([],0,false)) else if bx n e p.1 < 0 then .inr (.inr ([],0,false)) else .inl (bx n e p.1,p.2++[p.1])
def wkS (n:ae) (ring:List Int) (i:Nat) (ys:List Int) (p:Int×List Int):=bG (stS n ring) (fun a=>.inl a) i ys p
def wkI (n:ae) (ring:List Int) (i:Nat) (ys:List Int) (p:Int×List Int):=bG (stI n ring) (fun a=>.inl a) i ys p
theorem qT (n:ae) (ring:List Int):∀ (ys:List Int) (i:Nat) (p q:Int×List Int),wkI n ring i ys p=.inl q→∃ t,q.2=p.2++t
 | [], _, p, q, h => by
   unfold wkI bG at h
   cases h; exact ⟨[],by simp⟩
 | e :: ys, i, p, q, h => by
   unfold wkI at h
   rw [bG] at h
   unfold stI at h
   split at h
   · rename_i a he
     split at he
     · cases he
     · split at he
       · cases he
       · cases he
         obtain ⟨t,ht⟩:=qT n ring ys (i+1) _ q h
         exact ⟨[p.1]++t,by rw [ht]; simp⟩
   · rename_i b he
     split at he
     · cases he; cases h
     · split at he
       · cases he; cases h
       · cases he
theorem rU (n:ae) (ring:List Int):∀ (ys:List Int) (i:Nat) (p q:Int×List Int),p.2.Nodup→(wkS n ring i ys p=.inl q↔wkI n ring i ys p=.inl q∧q.2.Nodup)
 | [], i, p, q, hp => by
   unfold wkS wkI bG
   constructor
   · intro h; cases h; exact ⟨rfl,hp⟩
   · rintro ⟨h,_⟩; cases h; rfl
 | e :: ys, i, p, q, hp => by
   have eS:wkS n ring i (e::ys) p=match stS n ring i e p with | .inl a=>wkS n ring (i+1) ys a | .inr b=>b:=by
    unfold wkS; rw [bG]; cases stS n ring i e p <;> rfl
   have eI:wkI n ring i (e::ys) p=match stI n ring i e p with | .inl a=>wkI n ring (i+1) ys a | .inr b=>b:=by
    unfold wkI; rw [bG]; cases stI n ring i e p <;> rfl
   rw [eS,eI]
   unfold stS stI
   by_cases hb:iI n ring i e=true
   · simp [hb]
   · by_cases ho:bx n e p.1 < 0
     · by_cases hv:p.2.any (·==p.1)=true <;> simp [hb,ho,hv]
     · by_cases hv:p.2.any (·==p.1)=true
       · have hm:p.1∈p.2:=by
          obtain ⟨x,hx,hxe⟩:=List.any_eq_true.1 hv
          rw [← eq_of_beq hxe]; exact hx
         simp only [hb,ho,hv,Bool.or_true,if_true,if_false,Bool.false_eq_true]
         constructor
         · intro h; cases h
         · rintro ⟨h,hq⟩
           obtain ⟨t,ht⟩:=qT n ring ys (i+1) _ q h
           rw [ht] at hq
           have h1:=(List.nodup_append.1 hq).1
           have h2:=(List.nodup_append.1 h1).2.2
           exact (h2 p.1 hm p.1 (by simp) rfl).elim
       · have hm:p.1 ∉ p.2:=fun h=>hv (List.any_eq_true.2 ⟨p.1,h,by simp⟩)
         simp only [hb,ho,hv,Bool.or_self,if_false,Bool.false_eq_true]
         exact rU n ring ys (i+1) _ q (List.nodup_append.2 ⟨hp,by simp,fun a ha b hb'=>by
          simp only [List.mem_singleton] at hb'
          subst hb'
          intro e; subst e; exact hm ha⟩)
end Vs

namespace Vs
open Go
theorem eO (l:List Int) (x:Int) (hl:l.length≤1048576):M_b l x=some (l.any fun y=>y==x):=by
 unfold M_b
 rw [ja (f:=Cw l x) l (fun y=>y==x) (.inr true) (.inl ()) (fun i y hy=>by
  have hlt:=(List.getElem?_eq_some_iff.1 hy).1
  have h1:decide ((i:Int) < l.length)=true:=by simp [hlt]
  simp only [Cw,h1,cond_true,aU,hy,Option.bind_some]
  rw [aG (by omega) (by omega)]
  cases y==x <;> rfl) (by simp [Cw]) (by omega)]
 cases l.any fun y=>y==x <;> rfl
theorem dW {n:ae} {e:Int} (h:wi e 0 ((n.Fibers.length:Int) - 1)=true):∃ f,bJ n.Fibers e=some f∧n.Fibers[e.toNat]?=some f:=by
 rw [dd] at h
 have hlt:e.toNat < n.Fibers.length:=by omega
 refine ⟨n.Fibers[e.toNat],?_,List.getElem?_eq_getElem hlt⟩
 have h3:=aU n.Fibers e.toNat
 rw [Int.toNat_of_nonneg h.1] at h3
 rw [h3]
 exact List.getElem?_eq_getElem hlt
theorem jl (n:ae) (e v:Int) (h:wi e 0 ((n.Fibers.length:Int) - 1)=true):qO n e v=some (bx n e v):=by
 obtain ⟨f,h1,h2⟩:=dW h
 unfold qO bx dp
 rw [h1,h2]
 simp only [Option.bind_some]
 by_cases a:v=f.A
 · rw [show (v==f.A)=true from by simpa using a,cond_true,if_pos a]
 · rw [show (v==f.A)=false from by simpa using a,cond_false,if_neg a]
   by_cases b:v=f.B
   · rw [show (v==f.B)=true from by simpa using b,cond_true,if_pos b]
   · rw [show (v==f.B)=false from by simpa using b,cond_false,if_neg b]
theorem KU (n:ae) (ring:List Int) (fr:Int) (hF:n.Fibers.length≤1048576) (hr:ring.length≤1048576):aZ (M_v n ring) N0 (fr,0,[])=some (wkS n ring 0 ring (fr,[])):=by
 refine cw (f:=M_v n ring) ring (fun i (p:Int×List Int)=>(p.1,(i:Int),p.2)) (stS n ring) (fun a=>.inl a) (fun i p=>p.2.length=i) (fun i p e he hI=>?_) (fun p hI=>by simp [M_v]) (fr,[]) rfl (by omega)
 have hlt:=(List.getElem?_eq_some_iff.1 he).1
 have h1:decide ((i:Int) < ring.length)=true:=by simp [hlt]
 have hf:M_v n ring (p.1,(i:Int),p.2)=some (match stS n ring i e p with | .inl a=>.inl (a.1,((i+1:Nat):Int),a.2) | .inr b=>.inr b):=by
  simp only [M_v,h1,cond_true,aU,he,Option.bind_some,jW,rV ring i (by omega),eO (ring.take i) e (by simp; omega),eO p.2 p.1 (by omega),aG (n:=(n.Fibers.length:Int) - 1) (by omega) (by omega),aG (n:=(i:Int)+1) (by omega) (by omega),bnd]
  unfold stS iI
  rcases bt (wi e 0 ((n.Fibers.length:Int) - 1)) with e1 | e1
  · rcases bt ((ring.take i).any fun x=>x==e) with e2 | e2
    · simp [e1,e2]
    · rcases bt (p.2.any fun y=>y==p.1) with e3 | e3
      · simp [e1,e2,e3]
      · simp only [e1,e2,e3,Bool.not_true,cond_false,Option.bind_some,Bool.or_self,Bool.false_eq_true,if_false,jl n e p.1 e1]
        rw [aY (by omega)]
        by_cases h3:bx n e p.1 < 0
        · simp [h3]
        · simp [h3]
  · simp [e1]
 cases hs:stS n ring i e p with
 | inl a =>
   left
   rw [hs] at hf
   refine ⟨a,rfl,?_,hf⟩
   unfold stS at hs
   split at hs
   · cases hs
   · split at hs
     · cases hs
     · cases hs; simp [hI]
 | inr b =>
   right
   rw [hs] at hf
   exact ⟨b,rfl,hf⟩
end Vs

namespace Vs
open Go
theorem ie (xs:List Int) (v:Int) (hl:xs.length≤1048576):M_m xs v=some (decide (v∈xs)):=by
 unfold M_m tD
 rw [cg (f:=M_l xs v) xs (fun _ x=>v==x) (fun i _=>(i:Int)) () (fun i x hx _=>by
  have hlt:=(List.getElem?_eq_some_iff.1 hx).1
  have h1:decide ((i:Int) < xs.length)=true:=by simp [hlt]
  simp only [M_l,h1,cond_true,aU,hx,Option.bind_some]
  rw [aG (by omega) (by omega)]
  cases v==x <;> rfl) (by simp [M_l]) (by omega)]
 cases e:bv (fun _ x=>v==x) xs with
 | none =>
   have:=cT.1 e
   have h:¬ v∈xs:=fun hm=>by
    obtain ⟨i,hi⟩:=List.getElem?_of_mem hm
    have:=this i v hi
    simp at this
   rw [decide_eq_false h]; rfl
 | some q =>
   obtain ⟨i,x⟩:=q
   obtain ⟨h1,h2,_⟩:=ca.1 e
   have h:v∈xs:=by
    have:=eq_of_beq h2
    rw [this]; exact List.mem_of_getElem? h1
   rw [decide_eq_true h]; simp
theorem kg (f:ar) (v:Int):pg f v=some (dp f v):=by
 unfold pg dp
 by_cases a:v=f.A
 · rw [show (v==f.A)=true from by simpa using a,cond_true,if_pos a]
 · rw [show (v==f.A)=false from by simpa using a,cond_false,if_neg a]
   by_cases b:v=f.B
   · rw [show (v==f.B)=true from by simpa using b,cond_true,if_pos b]
   · rw [show (v==f.B)=false from by simpa using b,cond_false,if_neg b]
theorem fA (l:List Int) (e:Int):decide (e∈l)=l.any fun x=>x==e:=by
 rw [Bool.eq_iff_iff,decide_eq_true_iff,List.any_eq_true]
 constructor
 · intro h; exact ⟨e,h,by simp⟩
 · rintro ⟨x,hx,he⟩; rw [← eq_of_beq he]; exact hx
theorem An (n:ae) (ring:List Int) (fr:Int) (hF:n.Fibers.length≤1048576) (hr:ring.length≤1048576):aZ (M_u n ring) N0 (fr,0,[])=some (wkI n ring 0 ring (fr,[])):=by
 refine cw (f:=M_u n ring) ring (fun i (p:Int×List Int)=>(p.1,(i:Int),p.2)) (stI n ring) (fun a=>.inl a) (fun i p=>p.2.length=i) (fun i p e he hI=>?_) (fun p hI=>by simp [M_u]) (fr,[]) rfl (by omega)
 have hlt:=(List.getElem?_eq_some_iff.1 he).1
 have h1:decide ((i:Int) < ring.length)=true:=by simp [hlt]
 have hf:M_u n ring (p.1,(i:Int),p.2)=some (match stI n ring i e p with | .inl a=>.inl (a.1,((i+1:Nat):Int),a.2) | .inr b=>.inr b):=by
  simp only [M_u,h1,cond_true,aU,he,Option.bind_some,eW,rV ring i (by omega),ie (ring.take i) e (by simp; omega),aG (n:=(n.Fibers.length:Int) - 1) (by omega) (by omega),aG (n:=(i:Int)+1) (by omega) (by omega),bnd,fA]
  unfold stI iI
  rcases bt (wi e 0 ((n.Fibers.length:Int) - 1)) with e1 | e1
  · rcases bt ((ring.take i).any fun x=>x==e) with e2 | e2
    · simp [e1,e2]
    · obtain ⟨f,g1,g2⟩:=dW e1
      have ho:bx n e p.1=dp f p.1:=by unfold bx; rw [g2]
      simp only [e1,e2,Bool.not_true,cond_false,Option.bind_some,Bool.or_self,Bool.false_eq_true,if_false,g1,kg,ho]
      rw [aY (by omega)]
      by_cases h3:dp f p.1 < 0
      · simp [h3]
      · simp [h3]
  · simp [e1]
 cases hs:stI n ring i e p with
 | inl a =>
   left
   rw [hs] at hf
   refine ⟨a,rfl,?_,hf⟩
   unfold stI at hs
   split at hs
   · cases hs
   · split at hs
     · cases hs
     · cases hs; simp [hI]
 | inr b =>
   right
   rw [hs] at hf
   exact ⟨b,rfl,hf⟩
end Vs

namespace Vs
open Go
theorem bT {n:ae} (h:bu n=true):2≤n.Nodes.length∧n.Nodes.length≤8∧n.Fibers.length≤14:=by
 unfold bu at h
 simp only [Bool.and_eq_true,decide_eq_true_eq,dd] at h
 omega
theorem df {n:ae} (h:bu n=true) {i:Nat} {f:ar} (hf:n.Fibers[i]?=some f):uM n.Nodes.length f:=by
 unfold bu at h
 simp only [Bool.and_eq_true,Bool.not_eq_true'] at h
 have:=dD.1 h.1.1.2 i f hf
 unfold hP at this
 simp only [Bool.or_eq_false_iff] at this
 exact rJ this.1
theorem EF (n:ae) (ring:List Int) (i:Nat) (e:Int) (ys:List Int) (p:Int×List Int):wkS n ring i (e::ys) p=match stS n ring i e p with | .inl a=>wkS n ring (i+1) ys a | .inr b=>b:=by
 unfold wkS; rw [bG]; cases stS n ring i e p <;> rfl
theorem dh (n:ae) (ring:List Int) (i:Nat) (e:Int) (ys:List Int) (p:Int×List Int):wkI n ring i (e::ys) p=match stI n ring i e p with | .inl a=>wkI n ring (i+1) ys a | .inr b=>b:=by
 unfold wkI; rw [bG]; cases stI n ring i e p <;> rfl
theorem xK (n:ae) (ring:List Int):∀ (ys:List Int) (i:Nat) (p:Int×List Int) (x:List Int×Bool),wkS n ring i ys p=.inr x→x.2=false
 | [],i,p,x,h=>by unfold wkS bG at h; cases h
 | e :: ys, i, p, x, h => by
   rw [EF] at h
   unfold stS at h
   by_cases h1:(iI n ring i e||p.2.any (·==p.1))=true
   · rw [if_pos h1] at h; cases h; rfl
   · rw [if_neg h1] at h
     by_cases h2:bx n e p.1 < 0
     · rw [if_pos h2] at h; cases h; rfl
     · rw [if_neg h2] at h; exact xK n ring ys (i+1) _ x h
theorem yC (n:ae) (ring:List Int):∀ (ys:List Int) (i:Nat) (p:Int×List Int) (x:List Int×Int×Bool),wkI n ring i ys p=.inr x→x=([],0,false)
 | [],i,p,x,h=>by unfold wkI bG at h; cases h
 | e :: ys, i, p, x, h => by
   rw [dh] at h
   unfold stI at h
   by_cases h1:iI n ring i e=true
   · rw [if_pos h1] at h; cases h; rfl
   · rw [if_neg h1] at h
     by_cases h2:bx n e p.1 < 0
     · rw [if_pos h2] at h; cases h; rfl
     · rw [if_neg h2] at h; exact yC n ring ys (i+1) _ x h
theorem rf (n:ae) (ring:List Int):∀ (ys:List Int) (i:Nat) (p q:Int×List Int),wkI n ring i ys p=.inl q→∀ j e,ys[j]?=some e→iI n ring (i+j) e=false
 | [],i,p,q,_,j,e,h=>by simp at h
 | y :: ys, i, p, q, h, j, e, hj => by
   rw [dh] at h
   unfold stI at h
   by_cases h1:iI n ring i y=true
   · rw [if_pos h1] at h; cases h
   · rw [if_neg h1] at h
     by_cases h2:bx n y p.1 < 0
     · rw [if_pos h2] at h; cases h
     · rw [if_neg h2] at h
       cases j with
       | zero=>simp at hj; subst hj; simpa using h1
       | succ j =>
         have:=rf n ring ys (i+1) _ q h j e (by simpa using hj)
         rw [show i+(j+1)=i+1+j by omega]; exact this
theorem mM {n:ae} {ring:List Int} {i:Nat} {e:Int} (h:iI n ring i e=false):wi e 0 ((n.Fibers.length:Int) - 1)=true∧e ∉ ring.take i:=by
 unfold iI at h
 simp only [Bool.or_eq_false_iff,Bool.not_eq_false'] at h
 refine ⟨h.1,fun hm=>?_⟩
 have:=h.2
 rw [← fA] at this
 simp [hm] at this
theorem sN {xs:List Int} (h:∀ j e,xs[j]?=some e→e ∉ xs.take j):xs.Nodup:=by
 rw [List.nodup_iff_pairwise_ne,List.pairwise_iff_getElem]
 intro i j hi hj hij e
 refine h j xs[j] (List.getElem?_eq_getElem hj) ?_
 rw [← e]
 have h2:(xs.take j)[i]?=some xs[i]:=by rw [List.getElem?_take,if_pos hij]; exact List.getElem?_eq_getElem hi
 exact List.mem_of_getElem? h2
theorem xC {xs:List Int} (h:xs.Nodup) {j:Nat} {e:Int} (hj:xs[j]?=some e):e ∉ xs.take j:=by
 intro hm
 obtain ⟨i,hi⟩:=List.getElem?_of_mem hm
 rw [List.getElem?_take] at hi
 split at hi
 · rename_i hij
   obtain ⟨h1,h2⟩:=List.getElem?_eq_some_iff.1 hi
   obtain ⟨h3,h4⟩:=List.getElem?_eq_some_iff.1 hj
   have:=(List.pairwise_iff_getElem.1 (List.nodup_iff_pairwise_ne.1 h)) i j h1 h3 hij
   exact this (h2.trans h4.symm)
 · cases hi
theorem lz {n:ae} {ring:List Int} {p q:Int×List Int} (h:wkI n ring 0 ring p=.inl q):ring.Nodup :=
 sN fun j e hj=>by
  have:=rf n ring ring 0 p q h j e hj
  rw [Nat.zero_add] at this
  exact (mM this).2
theorem rq {n:ae} {ring:List Int} {e0 e1:Int} {t:List Int} (hr:ring=e0::e1::t) {v:Int} {q:Int×List Int} (h:wkI n ring 0 ring (v,[])=.inl q) :
 wi e0 0 ((n.Fibers.length:Int) - 1)=true∧0≤bx n e0 v∧∃ s,q.2=v::bx n e0 v::s:=by
 have hb:=rf n ring ring 0 _ q h 0 e0 (by rw [hr]; rfl)
 have h1:=h
 conv at h1=>lhs; arg 4; rw [hr]
 rw [dh] at h1
 unfold stI at h1
 rw [if_neg (by rw [hb]; simp)] at h1
 by_cases h2:bx n e0 v < 0
 · rw [if_pos h2] at h1; cases h1
 · rw [if_neg h2] at h1
   simp only at h1
   rw [dh] at h1
   unfold stI at h1
   by_cases h3:iI n ring (0+1) e1=true
   · rw [if_pos h3] at h1; cases h1
   · rw [if_neg h3] at h1
     simp only at h1
     by_cases h4:bx n e1 (bx n e0 v) < 0
     · rw [if_pos h4] at h1; cases h1
     · rw [if_neg h4] at h1
       obtain ⟨s,hs⟩:=qT n ring t _ _ q h1
       exact ⟨(mM hb).1,by omega,s,by rw [hs]; simp⟩
def bE (n:ae) (ring:List Int):Int:=match ring[0]? with
 | some e => match n.Fibers[e.toNat]? with
   | some f=>f.A
   | none=>-1
 | none=>-1
def mj (a b:List Int):Option (Nat×Int×Int):=bv (fun _ q=>q.1 != q.2) (a.zip b)
def dT (a b:List Int):Bool:=match mj a b with
 | some q=>decide (q.2.1 < q.2.2)
 | none=>false
def bI (n:ae) (ring:List Int):Option (List Int):=if 2≤ring.length then (match wkI n ring 0 ring (bE n ring,[]) with
 | .inl q=>if q.1=bE n ring∧q.2.Nodup∧(∀ x∈q.2,bE n ring≤x)∧dT ring ring.reverse=true then some q.2 else none
 | .inr _=>none) else none
def okS (n:ae) (ring:List Int) (v:Int):Bool:=match wkS n ring 0 ring (v,[]) with
 | .inl q=>decide (q.1=v)&&decide (1 < ring.length)
 | .inr _=>false
def ndS (n:ae) (ring:List Int) (v:Int):List Int:=match wkS n ring 0 ring (v,[]) with
 | .inl q=>q.2
 | .inr x=>x.1
theorem fu {n:ae} {ring:List Int} {v:Int}:okS n ring v=true↔wkI n ring 0 ring (v,[])=.inl (v,ndS n ring v)∧(ndS n ring v).Nodup∧2≤ring.length:=by
 unfold okS ndS
 cases h:wkS n ring 0 ring (v,[]) with
 | inl q =>
   obtain ⟨h1,h2⟩:=(rU n ring ring 0 (v,[]) q List.nodup_nil).1 h
   simp only [Bool.and_eq_true,decide_eq_true_eq]
   constructor
   · rintro ⟨rfl,h4⟩; exact ⟨h1,h2,h4⟩
   · rintro ⟨h3,_,h4⟩
     rw [h1] at h3
     have h5:=congrArg Prod.fst (Sum.inl.inj h3)
     exact ⟨h5,by omega⟩
 | inr x =>
   simp only [Bool.false_eq_true,false_iff]
   rintro ⟨h3,h4,_⟩
   have:=(rU n ring ring 0 (v,[]) (v,x.1) List.nodup_nil).2 ⟨h3,h4⟩
   rw [h] at this; cases this
theorem pW (a b:List Int):mj b a=(mj a b).map fun q=>(q.1,q.2.2,q.2.1):=by
 unfold mj
 have z:∀ (i:Nat) (x:Int×Int),(b.zip a)[i]?=some x↔(a.zip b)[i]?=some (x.2,x.1):=by
  intro i x
  rw [List.getElem?_zip_eq_some,List.getElem?_zip_eq_some]; exact And.comm
 cases h:bv (fun _ q=>q.1 != q.2) (a.zip b) with
 | none =>
   have:=cT.1 h
   simp only [Option.map_none]
   rw [cT]
   intro i x hx
   have:=this i _ ((z i x).1 hx)
   simp only [bne_eq_false_iff_eq] at this ⊢
   exact this.symm
 | some q =>
   obtain ⟨i,u,v⟩:=q
   obtain ⟨h1,h2,h3⟩:=ca.1 h
   simp only [Option.map_some]
   rw [ca]
   refine ⟨(z i (v,u)).2 h1,?_,fun j y hj hy=>?_⟩
   · simp only [bne_iff_ne,ne_eq] at h2 ⊢; exact fun e=>h2 e.symm
   · have:=h3 j _ hj ((z j y).1 hy)
     simp only [bne_eq_false_iff_eq] at this ⊢
     exact this.symm
theorem pF {a b:List Int} (h:(mj a b).isSome=true):dT a b=!dT b a:=by
 unfold dT
 rw [pW a b]
 cases hd:mj a b with
 | none=>rw [hd] at h; cases h
 | some q =>
   obtain ⟨h1,h2,h3⟩:=ca.1 (show bv (fun _ q=>q.1 != q.2) (a.zip b)=some (q.1,q.2) from hd)
   simp only [bne_iff_ne,ne_eq] at h2
   simp only [Option.map_some]
   rw [← decide_not]
   exact decide_eq_decide.2 (by omega)
theorem yM {ring:List Int} (h:ring.Nodup) (hl:2≤ring.length):(mj ring ring.reverse).isSome=true:=by
 cases hd:mj ring ring.reverse with
 | some q=>rfl
 | none =>
   exfalso
   have h0:0 < ring.length:=by omega
   have hz:(ring.zip ring.reverse)[0]?=some (ring[0],ring[ring.length - 1]):=by
    rw [List.getElem?_zip_eq_some]
    refine ⟨List.getElem?_eq_getElem h0,?_⟩
    rw [List.getElem?_reverse h0,Nat.sub_zero]
    exact List.getElem?_eq_getElem (by omega)
   have:=cT.1 (show bv (fun _ q=>q.1 != q.2) (ring.zip ring.reverse)=none from hd) 0 _ hz
   simp only [bne_eq_false_iff_eq] at this
   exact (List.pairwise_iff_getElem.1 (List.nodup_iff_pairwise_ne.1 h)) 0 (ring.length - 1) h0 (by omega) (by omega) this
theorem jF {n:ae} (hn:bu n=true) {ring:List Int} {v:Int} (h:okS n ring v=true):∃ e0 f,ring[0]?=some e0∧n.Fibers[e0.toNat]?=some f∧bE n ring=f.A∧uM n.Nodes.length f∧(v=f.A∨v=f.B) ∧
 ∃ s,ndS n ring v=v::dp f v::s:=by
 obtain ⟨h1,h2,h3⟩:=fu.1 h
 match hr:ring,h3 with
 | e0 :: e1 :: t, _ =>
   rw [← hr] at h1
   obtain ⟨g1,g2,s,g3⟩:=rq hr h1
   obtain ⟨f,_,g4⟩:=dW g1
   have g5:=df hn g4
   refine ⟨e0,f,rfl,g4,?_,g5,?_,s,?_⟩
   · unfold bE
     simp only [List.getElem?_cons_zero,g4]
   · unfold bx dp at g2
     rw [g4] at g2
     simp only at g2
     by_cases a:v=f.A
     · exact .inl a
     · rw [if_neg a] at g2
       by_cases b:v=f.B
       · exact .inr b
       · rw [if_neg b] at g2; omega
   · rw [← hr]
     have e:bx n e0 v=dp f v:=by unfold bx; rw [g4]
     rw [← e]; exact g3
theorem cE {n:ae} {ring l:List Int}:bI n ring=some l↔okS n ring (bE n ring)=true∧ndS n ring (bE n ring)=l∧(∀ x∈l,bE n ring≤x)∧dT ring ring.reverse=true:=by
 unfold bI
 constructor
 · intro h
   split at h
   · rename_i h2
     split at h
     · rename_i q hq
       split at h
       · rename_i hc
         cases h
         obtain ⟨c1,c2,c3,c4⟩:=hc
         have hS:=(rU n ring ring 0 (bE n ring,[]) q List.nodup_nil).2 ⟨hq,c2⟩
         refine ⟨?_,?_,c3,c4⟩
         · unfold okS; rw [hS]; simp only [Bool.and_eq_true,decide_eq_true_eq]; exact ⟨c1,by omega⟩
         · unfold ndS; rw [hS]
       · cases h
     · cases h
   · cases h
 · rintro ⟨h1,rfl,h3,h4⟩
   obtain ⟨g1,g2,g3⟩:=fu.1 h1
   rw [if_pos g3,g1]
   simp only
   rw [if_pos (by exact ⟨by simp,g2,h3,h4⟩)]
end Vs

namespace Vs
open Go
theorem qj (n:ae) (ring:List Int) (v:Int) (hF:n.Fibers.length≤1048576) (hr:ring.length≤1048576):yW n ring v=some (ndS n ring v,okS n ring v):=by
 unfold yW
 rw [KU n ring v hF hr]
 unfold ndS okS
 cases h:wkS n ring 0 ring (v,[]) with
 | inl q =>
   simp only [Option.bind_some]
   by_cases e:q.1=v
   · have e1:(q.1==v)=true:=by simpa using e
     have e2:decide (1 < (ring.length:Int))=decide (1 < ring.length):=decide_eq_decide.2 (by omega)
     simp [e,e2]
   · have e1:(q.1==v)=false:=by simpa using e
     simp [e,e1]
 | inr x =>
   have:=xK n ring ring 0 _ x h
   simp only [Option.bind_some]
   obtain ⟨x1,x2⟩:=x
   simp only at this; subst this; rfl
theorem pU {α:Type} (p:α→Bool):∀ (xs:List α) (i:Nat) (a:Bool),bG (fun _ x (a:Bool)=>(.inl (a&&p x):Bool ⊕ Bool)) (fun a=>a) i xs a=(a&&xs.all p)
 | [],i,a=>by simp [bG]
 | x::xs,i,a=>by simp only [bG]; rw [pU p xs (i+1)]; simp [Bool.and_assoc]
theorem DC (v:Int) (r:List Int×Bool) (hl:r.1.length≤1048576):aZ (M_n v r) N0 (true,0)=some (r.1.all fun y=>decide (v≤y)):=by
 have:=cw (f:=M_n v r) r.1 (fun i (a:Bool)=>(a,(i:Int))) (fun _ x a=>.inl (a&&decide (v≤x))) (fun a=>a) (fun _ _=>True) (fun i a x hx _=>by
  have hlt:=(List.getElem?_eq_some_iff.1 hx).1
  have h1:decide ((i:Int) < r.1.length)=true:=by simp [hlt]
  refine .inl ⟨_,rfl,trivial,?_⟩
  simp only [M_n,h1,cond_true]
  rw [aG (by omega) (by omega)]
  cases a with
  | false=>rfl
  | true =>
    rw [cond_true,aY (by omega)]
    simp only [Option.bind_some,Int.toNat_natCast,hx,Bool.true_and]
    rfl) (fun a _=>by simp [M_n]) true trivial (by omega)
 rw [pU] at this
 simpa using this
theorem nf:∀ (xs:List Int) (i:Nat) (a:List Int),bG (fun _ x (a:List Int)=>(.inl (a++[x]):List Int ⊕ List Int)) (fun a=>a) i xs a=a++xs
 | [],i,a=>by simp [bG]
 | x::xs,i,a=>by simp only [bG]; rw [nf xs (i+1)]; simp
theorem ju (ring:List Int) (hr:ring.length≤1048576):sG ring=some ring.reverse:=by
 unfold sG
 rw [aG (by omega) (by omega)]
 have:=cw (f:=M_x ring) ring.reverse (fun i (a:List Int)=>((ring.length:Int) - 1 - (i:Int),a)) (fun _ x a=>.inl (a++[x])) (fun a=>a) (fun i a=>a.length=i) (fun i a x hx hI=>by
  have hlt:=(List.getElem?_eq_some_iff.1 hx).1
  rw [List.length_reverse] at hlt
  rw [List.getElem?_reverse hlt] at hx
  have h1:decide (0≤(ring.length:Int) - 1 - (i:Int))=true:=decide_eq_true (by omega)
  refine .inl ⟨_,rfl,by simp [hI],?_⟩
  have e:(ring.length:Int) - 1 - (i:Int)=((ring.length - 1 - i:Nat):Int):=by omega
  rw [e] at h1
  simp only [M_x,h1,cond_true,e,aU,hx,Option.bind_some,bnd]
  rw [aY (by omega),aG (by omega) (by omega)]
  simp only [Option.bind_some]
  rw [show ((ring.length - 1 - i:Nat):Int) - 1=(ring.length:Int) - 1 - ((i+1:Nat):Int) by omega]) (fun a _=>by
  have h1:decide (0≤(ring.length:Int) - 1 - (ring.reverse.length:Int))=false:=decide_eq_false (by rw [List.length_reverse]; omega)
  simp only [M_x,h1,cond_false]) [] rfl (by rw [List.length_reverse]; omega)
 rw [nf] at this
 have e:(ring.length:Int) - 1 - ((0:Nat):Int)=(ring.length:Int) - 1:=by omega
 rw [e] at this
 rw [this]; rfl
theorem mC {a b:List Int} (h:a.length=b.length):(a.zip b).length=a.length:=by simp [h]
theorem lC (a b:List Int) (h:a.length=b.length) (hl:a.length≤1048576):pu a b=some (dT a b):=by
 unfold pu
 have e:((a.length:Int) != (b.length:Int))=false:=by rw [h]; simp
 rw [e,cond_false]
 rw [cg (f:=Bz a b) (a.zip b) (fun _ q=>q.1 != q.2) (fun _ q=>decide (q.1 < q.2)) () (fun i q hq _=>by
  obtain ⟨h1,h2⟩:=List.getElem?_zip_eq_some.1 hq
  have hlt:=(List.getElem?_eq_some_iff.1 h1).1
  have h3:decide ((i:Int) < a.length)=true:=by simp [hlt]
  simp only [Bz,h3,cond_true,aU,h1,h2,Option.bind_some]
  rw [aG (by omega) (by omega)]
  cases q.1 != q.2 <;> rfl) (by rw [mC h]; simp [Bz]) (by rw [mC h]; omega)]
 unfold dT mj
 cases bv (fun _ q=>q.1 != q.2) (a.zip b) <;> rfl
theorem nC (a b:List Int) (h:a.length=b.length) (hl:a.length≤1048576):∃ r,oy a b=some r∧decide (r < 0)=dT a b:=by
 unfold oy
 rw [cg (f:=M_g a b) (a.zip b) (fun _ q=>q.1 != q.2) (fun _ q=>cq q.1 q.2) () (fun i q hq _=>by
  obtain ⟨h1,h2⟩:=List.getElem?_zip_eq_some.1 hq
  have hlt:=(List.getElem?_eq_some_iff.1 h1).1
  have h3:decide ((i:Int) < a.length)=true:=by simp [hlt]
  have h4:decide ((b.length:Int)≤(i:Int))=false:=by simp; omega
  simp only [M_g,h3,h4,cond_true,cond_false,aU,h1,h2,Option.bind_some,pX]
  rw [aG (by omega) (by omega)]
  by_cases e:q.1=q.2
  · have e1:(cq q.1 q.2 != 0)=false:=by rw [bM.2 e]; rfl
    have e2:(q.1 != q.2)=false:=by rw [e]; simp
    rw [e1,e2]; rfl
  · have e1:(cq q.1 q.2 != 0)=true:=bne_iff_ne.2 fun e'=>e (bM.1 e')
    have e2:(q.1 != q.2)=true:=bne_iff_ne.2 e
    rw [e1,e2]; rfl) (by rw [mC h]; simp [M_g]) (by rw [mC h]; omega)]
 unfold dT mj
 cases hf:bv (fun _ q=>q.1 != q.2) (a.zip b) with
 | none =>
   have e:decide ((a.length:Int) < (b.length:Int))=false:=by rw [h]; simp
   exact ⟨0,by simp only [Option.bind_some,e,cond_false],rfl⟩
 | some q =>
   refine ⟨cq q.2.1 q.2.2,rfl,?_⟩
   unfold cq
   by_cases h1:q.2.1 < q.2.2
   · simp [h1]
   · by_cases h2:q.2.2 < q.2.1 <;> simp [h1,h2]
theorem vY {n:ae} {ring:List Int} {v:Int} (hF:n.Fibers.length≤1048576) (hr:ring.length≤1048576) (h:okS n ring v=true):(ndS n ring v).length=ring.length:=by
 obtain ⟨h1,_,_⟩:=fu.1 h
 have key:∀ (ys:List Int) (i:Nat) (p q:Int×List Int),wkI n ring i ys p=.inl q→q.2.length=p.2.length+ys.length:=by
  intro ys
  induction ys with
  | nil=>intro i p q h; unfold wkI bG at h; cases h; simp
  | cons e ys ih =>
    intro i p q h
    rw [dh] at h
    unfold stI at h
    by_cases h1:iI n ring i e=true
    · rw [if_pos h1] at h; cases h
    · rw [if_neg h1] at h
      by_cases h2:bx n e p.1 < 0
      · rw [if_pos h2] at h; cases h
      · rw [if_neg h2] at h
        have:=ih (i+1) _ q h
        simp only [List.length_append,List.length_cons,List.length_nil] at this ⊢
        omega
 have:=key ring 0 _ _ h1
 simpa using this
theorem lV {n:ae} (hn:bu n=true) {ring:List Int} {i:Nat} {x:ByteArray} (h:bv (fun i (_:ByteArray)=>okS n ring (i:Int)) n.Nodes=some (i,x)) :
 ((i:Int)=bE n ring∧okS n ring (bE n ring)=true)∨(okS n ring (bE n ring)=false∧¬ ∀ y∈ndS n ring (i:Int),(i:Int)≤y):=by
 obtain ⟨h1,h2,h3⟩:=ca.1 h
 obtain ⟨e0,f,g1,g2,g3,g4,g5,s,g6⟩:=jF hn h2
 obtain ⟨a0,ab,bm,_⟩:=g4
 rcases g5 with g5 | g5
 · left; rw [g3,← g5]; exact ⟨rfl,h2⟩
 · right
   have hlt:f.A.toNat < i:=by omega
   have hil:=(List.getElem?_eq_some_iff.1 h1).1
   have:=h3 f.A.toNat n.Nodes[f.A.toNat] hlt (List.getElem?_eq_getElem (by omega))
   rw [Int.toNat_of_nonneg a0] at this
   refine ⟨by rw [g3]; exact this,fun hall=>?_⟩
   have hm:dp f (i:Int)∈ndS n ring (i:Int):=by rw [g6]; simp
   have:=hall _ hm
   have e:dp f (i:Int)=f.A:=by
    unfold dp
    rw [if_neg (by omega),if_pos g5]
   omega
theorem uo {n:ae} (hn:bu n=true) {ring:List Int} (h:okS n ring (bE n ring)=true):∃ q,bv (fun i (_:ByteArray)=>okS n ring (i:Int)) n.Nodes=some q:=by
 cases e:bv (fun i (_:ByteArray)=>okS n ring (i:Int)) n.Nodes with
 | some q=>exact ⟨q,rfl⟩
 | none =>
   obtain ⟨e0,f,g1,g2,g3,g4,_⟩:=jF hn h
   obtain ⟨a0,ab,bm,_⟩:=g4
   have hl:f.A.toNat < n.Nodes.length:=by omega
   have:=cT.1 e f.A.toNat _ (List.getElem?_eq_getElem hl)
   rw [Int.toNat_of_nonneg a0,← g3,h] at this; cases this
theorem BA (n:ae) (ring:List Int) (hn:bu n=true) (hr:ring.length≤1048576):Iu n ring=some (bI n ring).isSome:=by
 obtain ⟨b1,b2,b3⟩:=bT hn
 unfold Iu
 rw [cg (f:=Ci n ring) n.Nodes (fun i _=>okS n ring (i:Int)) (fun i _=>(ndS n ring (i:Int)).all (fun y=>decide ((i:Int)≤y))&&!dT ring.reverse ring) () (fun i x hx _=>by
  have hlt:=(List.getElem?_eq_some_iff.1 hx).1
  have h1:decide ((i:Int) < n.Nodes.length)=true:=by simp [hlt]
  simp only [Ci,h1,cond_true,qj n ring i (by omega) hr,Option.bind_some]
  rw [aG (by omega) (by omega)]
  rcases bt (okS n ring (i:Int)) with e | e
  · simp only [e,Bool.not_true,cond_false,if_true]
    rw [DC _ _ (by simp only; rw [vY (by omega) hr e]; exact hr)]
    simp only [Option.bind_some]
    rcases bt ((ndS n ring (i:Int)).all fun y=>decide ((i:Int)≤y)) with e2 | e2
    · rw [e2,cond_true,ju ring hr]
      simp only [Option.bind_some]
      rw [lC ring.reverse ring (by simp) (by simpa using hr)]
      rfl
    · rw [e2]; rfl
  · simp [e]) (by simp [Ci]) (by omega)]
 cases hf:bv (fun i (_:ByteArray)=>okS n ring (i:Int)) n.Nodes with
 | none =>
   have:bI n ring=none:=by
    cases hp:bI n ring with
    | none=>rfl
    | some l =>
      obtain ⟨q,hq⟩:=uo hn (cE.1 hp).1
      rw [hf] at hq; cases hq
   rw [this]; rfl
 | some q =>
   obtain ⟨i,x⟩:=q
   simp only [Option.bind_some]
   rcases lV hn hf with ⟨e1,e2⟩ | ⟨e1,e2⟩
   · have hne:=yM (lz (fu.1 e2).1) (fu.1 e2).2.2
     rw [e1,← pF hne]
     rcases bt ((ndS n ring (bE n ring)).all fun y=>decide (bE n ring≤y)) with e3 | e3
     · rcases bt (dT ring ring.reverse) with e4 | e4
       · have:bI n ring=some (ndS n ring (bE n ring)):=cE.2 ⟨e2,rfl,by simpa using e3,e4⟩
         rw [this,e3,e4]; rfl
       · have:bI n ring=none:=by
          cases hp:bI n ring with
          | none=>rfl
          | some l=>have:=(cE.1 hp).2.2.2; rw [e4] at this; cases this
         rw [this,e3,e4]; rfl
     · have:bI n ring=none:=by
        cases hp:bI n ring with
        | none=>rfl
        | some l =>
          obtain ⟨_,h2,h3,_⟩:=cE.1 hp
          subst h2
          have:((ndS n ring (bE n ring)).all fun y=>decide (bE n ring≤y))=true:=by simpa using h3
          rw [e3] at this; cases this
       rw [this,e3]; rfl
   · have:bI n ring=none:=by
      cases hp:bI n ring with
      | none=>rfl
      | some l=>have:=(cE.1 hp).1; rw [e1] at this; cases this
     rw [this]
     have:((ndS n ring (i:Int)).all fun y=>decide ((i:Int)≤y))=false:=by
      rw [Bool.eq_false_iff]
      intro h
      exact e2 (by simpa using h)
     rw [this]; rfl
end Vs

namespace Vs
open Go
theorem xA (n:ae) (v:Int) (ring:List Int) (hF:n.Fibers.length≤1048576) (hr:ring.length≤1048576):Ja n v ring=some (match wkI n ring 0 ring (v,[]) with | .inl q=>(q.2,q.1,true) | .inr _=>([],0,false)):=by
 unfold Ja
 rw [An n ring v hF hr]
 cases h:wkI n ring 0 ring (v,[]) with
 | inl q=>rfl
 | inr x=>rw [yC n ring ring 0 _ x h]; rfl
theorem pM:∀ (xs:List Int) (i:Nat) (m:Int),∃ r,bG (fun _ y (m:Int)=>(.inl (if y < m then y else m):Int ⊕ Int)) (fun m=>m) i xs m=r∧(r=m∨r∈xs)∧r≤m∧∀ x∈xs,r≤x
 | [],i,m=>⟨m,by simp [bG],.inl rfl,Int.le_refl _,by simp⟩
 | y :: xs, i, m => by
   obtain ⟨r,h1,h2,h3,h4⟩:=pM xs (i+1) (if y < m then y else m)
   refine ⟨r,by simp only [bG]; exact h1,?_,?_,?_⟩
   · rcases h2 with h2 | h2
     · by_cases e:y < m
       · rw [if_pos e] at h2; right; rw [h2]; simp
       · rw [if_neg e] at h2; exact .inl h2
     · exact .inr (List.mem_cons_of_mem _ h2)
   · split at h3 <;> omega
   · intro x hx
     rcases List.mem_cons.1 hx with rfl | hx
     · split at h3 <;> omega
     · exact h4 x hx
theorem OV (xs:List Int) (h0:0 < xs.length) (hl:xs.length≤1048576):∃ m,JE xs=some m∧m∈xs∧∀ x∈xs,m≤x:=by
 cases xs with
 | nil=>simp at h0
 | cons x t =>
   simp only [List.length_cons] at hl
   have:=cw (f:=AH (x::t)) t (fun i (m:Int)=>(m,((i+1:Nat):Int))) (fun _ y (m:Int)=>.inl (if y < m then y else m)) (fun m=>m) (fun _ _=>True) (fun i m y hy _=>by
    have hlt:=(List.getElem?_eq_some_iff.1 hy).1
    have h1:decide (((i+1:Nat):Int) < ((x::t).length:Int))=true:=by simp; omega
    refine .inl ⟨_,rfl,trivial,?_⟩
    have hy':(x::t)[i+1]?=some y:=by simpa using hy
    simp only [AH,h1,cond_true,aU,hy',Option.bind_some]
    rw [aG (by omega) (by omega)]
    rfl) (fun m _=>by simp [AH]) x trivial (by omega)
   obtain ⟨r,h1,h2,h3,h4⟩:=pM t 0 x
   refine ⟨r,?_,?_,?_⟩
   · unfold JE
     have e2:decide (((x::t).length:Int) < 1)=false:=by simp; omega
     rw [e2,cond_false]
     have e3:bJ (x::t) 0=some x:=aU (x::t) 0
     rw [e3]
     simp only [Option.bind_some]
     have e:((0+1:Nat):Int)=1:=rfl
     simp only [e] at this
     rw [this,h1]; rfl
   · rcases h2 with rfl | h2
     · simp
     · exact List.mem_cons_of_mem _ h2
   · intro y hy
     rcases List.mem_cons.1 hy with rfl | hy
     · exact h3
     · exact h4 y hy
theorem uV (xs:List Int) (hl:xs.length≤1048576):Az xs=some xs:=by
 unfold Az
 rw [aY (by omega)]
 cases xs with
 | nil=>rfl
 | cons x t=>rfl
theorem Ah {α:Type} {f:Int×Int×List α→Option ((Int×Int×List α) ⊕ (List α))} (xs:List α)
 (h1:∀ (i j:Nat) (l:List α) x y,i < j→l.length=xs.length→l[i]?=some x→l[j]?=some y→f ((i:Int),(j:Int),l)=some (.inl (((i+1:Nat):Int),(j:Int) - 1,(l.set i y).set j x)))
 (h2:∀ (i j:Int) (l:List α),j≤i→f (i,j,l)=some (.inr l)) (hl:xs.length < 18446744073709551615):aZ f N0 (0,(xs.length:Int) - 1,xs)=some xs.reverse:=by
 obtain ⟨b,hb,h3⟩:=cz (f:=f) (fun s=>∃ i:Nat,s.1=i∧s.2.1=(xs.length:Int) - 1 - i∧2 * i≤xs.length+1∧s.2.2.length=xs.length∧∀ k:Nat,k < xs.length→s.2.2[k]?=if k < i∨xs.length - 1 - k < i then xs[xs.length - 1 - k]? else xs[k]?)
  (fun s=>xs.length - s.1.toNat) (fun b=>b=xs.reverse) (fun s hI=>by
  obtain ⟨i',j',l⟩:=s
  obtain ⟨i,e1,e2,e3,e4,e5⟩:=hI
  simp only at e1 e2 e4 e5
  subst e1; subst e2
  by_cases h:(i:Int) < (xs.length:Int) - 1 - i
  · left
    have hi:i < xs.length:=by omega
    have hj:xs.length - 1 - i < xs.length:=by omega
    have g1:=e5 i hi
    rw [if_neg (by omega),List.getElem?_eq_getElem hi] at g1
    have g2:=e5 (xs.length - 1 - i) hj
    rw [if_neg (by omega),List.getElem?_eq_getElem hj] at g2
    have hf:=h1 i (xs.length - 1 - i) l _ _ (by omega) e4 g1 g2
    rw [show ((xs.length - 1 - i:Nat):Int)=(xs.length:Int) - 1 - i by omega] at hf
    refine ⟨_,hf,⟨i+1,rfl,by simp only; omega,by omega,by simp [e4],fun k hk=>?_⟩,by simp only [Int.toNat_natCast]; omega⟩
    simp only
    rw [List.getElem?_set]
    by_cases c1:xs.length - 1 - i=k
    · rw [if_pos c1,if_pos (by simp; omega),if_pos (by omega),show xs.length - 1 - k=i by omega,List.getElem?_eq_getElem hi]
    · rw [if_neg c1,List.getElem?_set]
      by_cases c2:i=k
      · rw [if_pos c2,if_pos (by omega),if_pos (by omega),← c2,List.getElem?_eq_getElem hj]
      · rw [if_neg c2,e5 k hk]
        by_cases c3:k < i∨xs.length - 1 - k < i
        · rw [if_pos c3,if_pos (by omega)]
        · rw [if_neg c3,if_neg (by omega)]
  · right
    refine ⟨_,h2 _ _ l (by omega),?_⟩
    apply List.ext_getElem?
    intro k
    by_cases hk:k < xs.length
    · rw [e5 k hk,List.getElem?_reverse hk]
      split
      · rfl
      · congr 1; omega
    · rw [List.getElem?_eq_none (by omega),List.getElem?_eq_none (by simp; omega)]) N0 (0,(xs.length:Int) - 1,xs) ⟨0,rfl,by simp,by omega,rfl,fun k hk=>by rw [if_neg (by omega)]⟩ (eo (by simp; omega))
 rw [hb,h3]
theorem vf (xs:List Int) (hl:xs.length≤1048576):Hh xs=some xs.reverse:=by
 unfold Hh
 rw [aG (by omega) (by omega),Ah (f:=M_z) xs (fun i j l x y hij hll hx hy=>by
  have hi:=(List.getElem?_eq_some_iff.1 hx).1
  have hj:=(List.getElem?_eq_some_iff.1 hy).1
  have e1:decide ((i:Int) < (j:Int))=true:=decide_eq_true (by omega)
  have e3:(l.set i y)[j]?=some y:=by rw [List.getElem?_set,if_neg (by omega)]; exact hy
  simp only [M_z,e1,cond_true,Int.toNat_natCast,hx,hy,Option.bind_some,bnd,e3]
  rw [aY (by omega),aY (by omega),aG (by omega) (by omega),aG (by omega) (by omega)]
  rfl) (fun i j l h=>by
  have e1:decide (i < j)=false:=decide_eq_false (by omega)
  simp only [M_z,e1,cond_false]) (by omega)]
 rfl
theorem wK (r:List Int×Int×Bool) (hl:r.1.length≤1048576):aZ (vN r) N0 0=some (if r.1.Nodup then .inl () else .inr ([],false)):=by
 rw [eM (f:=vN r) r.1 (fun i v=>decide (v∈r.1.take i)) (.inr ([],false)) (.inl ()) (fun i v hv _=>by
  have hlt:=(List.getElem?_eq_some_iff.1 hv).1
  have h1:decide ((i:Int) < r.1.length)=true:=by simp [hlt]
  simp only [vN,h1,cond_true,Int.toNat_natCast,hv]
  rw [aY (by omega),aY ⟨trivial,by omega,trivial,by omega⟩]
  simp only [Option.bind_some,bnd,eF,List.drop_zero,ie (r.1.take i) v (by simp; omega)]
  rw [aG (by omega) (by omega)]
  cases decide (v∈r.1.take i) <;> rfl) (by simp [vN]) (by omega)]
 by_cases h:r.1.Nodup
 · rw [if_pos h]
   have:fC (fun i v=>decide (v∈r.1.take i)) r.1=false:=dD.2 fun i v hv=>by simpa using xC h hv
   rw [this]; rfl
 · rw [if_neg h]
   have:fC (fun i v=>decide (v∈r.1.take i)) r.1=true:=by
    cases e:fC (fun i v=>decide (v∈r.1.take i)) r.1 with
    | true=>rfl
    | false =>
      exfalso
      exact h (sN fun i v hv=>by simpa using dD.1 e i v hv)
   rw [this]; rfl
theorem ey {n:ae} {ring:List Int} (h:∀ q,wkI n ring 0 ring (bE n ring,[])=.inl q→q.1=bE n ring→q.2.Nodup→(∀ x∈q.2,bE n ring≤x)→dT ring ring.reverse=true→2≤ring.length→False):bI n ring=none:=by
 cases hp:bI n ring with
 | none=>rfl
 | some l =>
   obtain ⟨h1,h2,h3,h4⟩:=cE.1 hp
   obtain ⟨g1,g2,g3⟩:=fu.1 h1
   rw [h2] at g1 g2
   exact (h _ g1 rfl g2 h3 h4 g3).elim
theorem lj (n:ae) (ring:List Int) (hF:n.Fibers.length≤1048576) (hr:ring.length≤1048576):∃ l,qF n ring=some (l,(bI n ring).isSome)∧∀ r,bI n ring=some r→l=r:=by
 unfold qF
 match ring,hr with
 | [],_=>exact ⟨[],rfl,fun r h=>by simp [bI] at h⟩
 | [e0],_=>exact ⟨[],rfl,fun r h=>by simp [bI] at h⟩
 | e0 :: e1 :: t, hr =>
   have hlen:2≤(e0::e1::t).length:=by simp
   generalize hR:e0::e1::t=ring at *
   have hg:bJ ring 0=some e0:=by rw [← hR]; exact aU (e0::e1::t) 0
   have h2:decide ((ring.length:Int) < 2)=false:=decide_eq_false (by omega)
   simp only [h2,cond_false,hg,Option.bind_some,eW]
   rw [aG (by omega) (by omega)]
   rcases bt (wi e0 0 ((n.Fibers.length:Int) - 1)) with hw | hw
   · obtain ⟨f,g1,g2⟩:=dW hw
     have hs:bE n ring=f.A:=by
      unfold bE
      rw [← hR]
      simp only [List.getElem?_cons_zero,g2]
     simp only [hw,Bool.not_true,cond_false,g1,Option.bind_some,xA n f.A ring hF hr]
     rw [← hs]
     cases hwk:wkI n ring 0 ring (bE n ring,[]) with
     | inr x =>
       have:bI n ring=none:=ey fun q hq=>by rw [hwk] at hq; cases hq
       rw [this]
       exact ⟨[],rfl,fun r h=>by cases h⟩
     | inl q =>
       simp only [Bool.not_true,cond_false]
       have hql:q.2.length=ring.length∧bE n ring∈q.2:=by
        obtain ⟨_,_,s,hs2⟩:=rq hR.symm hwk
        refine ⟨?_,by rw [hs2]; simp⟩
        have key:∀ (ys:List Int) (i:Nat) (p q:Int×List Int),wkI n ring i ys p=.inl q→q.2.length=p.2.length+ys.length:=by
         intro ys
         induction ys with
         | nil=>intro i p q h; unfold wkI bG at h; cases h; simp
         | cons e ys ih =>
           intro i p q h
           rw [dh] at h
           unfold stI at h
           by_cases h1:iI n ring i e=true
           · rw [if_pos h1] at h; cases h
           · rw [if_neg h1] at h
             by_cases h2:bx n e p.1 < 0
             · rw [if_pos h2] at h; cases h
             · rw [if_neg h2] at h
               have:=ih (i+1) _ q h
               simp only [List.length_append,List.length_cons,List.length_nil] at this ⊢
               omega
        simpa using key ring 0 _ q hwk
       by_cases hq1:q.1=bE n ring
       · have e1:(q.1 != bE n ring)=false:=by rw [hq1]; simp
         obtain ⟨m,m1,m2,m3⟩:=OV q.2 (by omega) (by omega)
         simp only [e1,cond_false,m1,Option.bind_some]
         by_cases hm:m=bE n ring
         · have e2:(m != bE n ring)=false:=by rw [hm]; simp
           simp only [e2,cond_false,wK (q.2,q.1,true) (by simp only; omega),Option.bind_some]
           by_cases hnd:q.2.Nodup
           · rw [if_pos hnd]
             simp only [uV ring hr,vf ring hr,Option.bind_some,bnd]
             have e3:dP ring.reverse 0 ring.length=ring.reverse:=by
              have:=kL ring.reverse
              rwa [List.length_reverse] at this
             obtain ⟨c,c1,c2⟩:=nC ring ring.reverse (by simp) hr
             simp only [e3,c1,c2,Option.bind_some]
             refine ⟨q.2,?_,?_⟩
             · congr 2
               cases hx:dT ring ring.reverse with
               | true =>
                 have:bI n ring=some q.2:=by
                  unfold bI
                  rw [if_pos hlen,hwk]
                  simp only
                  rw [if_pos ⟨hq1,hnd,fun x hx=>by rw [← hm]; exact m3 x hx,hx⟩]
                 rw [this]; rfl
               | false =>
                 have:bI n ring=none:=ey fun _ _ _ _ _ hx'=>by rw [hx] at hx'; cases hx'
                 rw [this]; rfl
             · intro r hrp
               obtain ⟨h1,h2,_⟩:=cE.1 hrp
               obtain ⟨g1,_⟩:=fu.1 h1
               rw [hwk] at g1
               have:=congrArg Prod.snd (Sum.inl.inj g1)
               rw [← h2]; exact this
           · rw [if_neg hnd]
             have:bI n ring=none:=ey fun q' hq' _ hnd'=>by rw [hwk] at hq'; cases hq'; exact (hnd hnd').elim
             rw [this]
             exact ⟨[],rfl,fun r h=>by cases h⟩
         · have e2:(m != bE n ring)=true:=bne_iff_ne.2 hm
           have:bI n ring=none:=ey fun q' hq' _ _ hall=>by
            rw [hwk] at hq'; cases hq'
            have h5:=hall m m2
            have h6:=m3 _ hql.2
            omega
           rw [this]
           simp only [e2,cond_true]
           exact ⟨[],rfl,fun r h=>by cases h⟩
       · have e1:(q.1 != bE n ring)=true:=bne_iff_ne.2 hq1
         have:bI n ring=none:=ey fun q' hq' hq1'=>by rw [hwk] at hq'; cases hq'; exact (hq1 hq1').elim
         rw [this]
         simp only [e1,cond_true,Option.bind_some]
         exact ⟨[],rfl,fun r h=>by cases h⟩
   · have:bI n ring=none:=ey fun q hq _ _ _ _ _=>by
      have:=(rq hR.symm hq).1
      rw [hw] at this; cases this
     rw [this]
     simp only [hw,Bool.not_false,cond_true,Option.bind_some]
     exact ⟨[],rfl,fun r h=>by cases h⟩
theorem kN (n:ae) (ring:List Int) (hz:bz n≤1048576) (hr:ring.length≤1048576):Df n ring=some (if bu n then (match bI n ring with | some l=>(l,true) | none=>([],false)) else ([],false)):=by
 obtain ⟨h1,h2,h3⟩:=tx hz
 unfold Df
 simp only [dm n hz,Option.bind_some]
 rcases bt (bu n) with hn | hn
 · obtain ⟨l,g1,g2⟩:=lj n ring h2 hr
   rw [hn,g1]
   cases hp:bI n ring with
   | none=>rfl
   | some r=>rw [g2 r hp]; rfl
 · rw [hn]; rfl
def co (n:ae) (ring:List Int):Bool:=bu n&&(bI n ring).isSome
theorem eP (n:ae) (ring:List Int) (hz:bz n≤1048576) (hr:ring.length≤1048576):uG n ring=some (co n ring):=by
 unfold uG co
 rw [kN n ring hz hr]
 cases bu n with
 | false=>rfl
 | true=>cases bI n ring <;> rfl
theorem pd (n:ae) (ring:List Int) (hz:bz n≤1048576) (hr:ring.length≤1048576):Dy n ring=some (co n ring):=by
 unfold Dy co
 simp only [nP n hz,Option.bind_some]
 rcases bt (bu n) with hn | hn
 · rw [hn,cond_true,BA n ring hn hr]; rfl
 · rw [hn]; rfl
end Vs

namespace Vs
open Go
theorem mZ (n:ae) (ring l:List Int) (hn:bu n=true) (hr:ring.length≤1048576) (hp:bI n ring=some l):Ax n ring=some l:=by
 obtain ⟨b1,b2,b3⟩:=bT hn
 obtain ⟨h1,h2,_⟩:=cE.1 hp
 unfold Ax
 rw [cg (f:=ze n ring) n.Nodes (fun i _=>okS n ring (i:Int)) (fun i _=>ndS n ring (i:Int)) () (fun i x hx _=>by
  have hlt:=(List.getElem?_eq_some_iff.1 hx).1
  have h1:decide ((i:Int) < n.Nodes.length)=true:=by simp [hlt]
  simp only [ze,h1,cond_true,qj n ring i (by omega) hr,Option.bind_some]
  rw [aG (by omega) (by omega)]
  cases okS n ring (i:Int) <;> rfl) (by simp [ze]) (by omega)]
 cases hf:bv (fun i (_:ByteArray)=>okS n ring (i:Int)) n.Nodes with
 | none=>obtain ⟨q,hq⟩:=uo hn h1; rw [hf] at hq; cases hq
 | some q =>
   obtain ⟨i,x⟩:=q
   rcases lV hn hf with ⟨e1,e2⟩ | ⟨e1,e2⟩
   · simp only [Option.bind_some,e1,h2]
   · rw [h1] at e1; cases e1
end Vs

namespace Vs
open Go
def gz (l:List Int) (p:Nat):Int:=(l[p]?).getD 0
theorem Nw {l:List Int} {p:Nat} (h:p < l.length):l[p]?=some (gz l p):=by
 unfold gz; rw [List.getElem?_eq_getElem h]; rfl
theorem kq {l:List Int} {p q:Nat} {x:Int} (h:p < l.length):gz (l.set p x) q=if q=p then x else gz l q:=by
 unfold gz
 rw [List.getElem?_set]
 by_cases e:p=q
 · rw [if_pos e,if_pos h,if_pos e.symm]; rfl
 · rw [if_neg e,if_neg (Ne.symm e)]
theorem IZ (x y:Int):Gc x y=some (decide (x < y)):=by
 unfold Gc sM; simp
theorem AQ {l:List Int} {i j:Nat} (hi:i < l.length) (hj:j < l.length):((l.set i (gz l j)).set j (gz l i)).Perm l:=by
 by_cases e:i=j
 · subst e
   have:(l.set i (gz l i)).set i (gz l i)=l:=by
    apply List.ext_getElem?
    intro k
    rw [List.getElem?_set,List.getElem?_set]
    by_cases h:i=k
    · subst h; simp [hi]; unfold gz; rw [List.getElem?_eq_getElem hi]; rfl
    · simp [h]
   rw [this]
 · have g1:gz l j=l[j]:=by unfold gz; rw [List.getElem?_eq_getElem hj]; rfl
   have g2:gz l i=l[i]:=by unfold gz; rw [List.getElem?_eq_getElem hi]; rfl
   rw [g1,g2]
   exact List.set_set_perm hi hj
def SrtI (i j:Nat) (l:List Int):Prop:=(∀ p q,p < q→q≤i→p ≠ j→q ≠ j→gz l p≤gz l q)∧∀ q,j < q→q≤i→gz l j≤gz l q
def AW (n:Nat) (l:List Int):Prop:=∀ p q,p < q→q < n→gz l p≤gz l q
theorem DE (n i:Nat) (l0:List Int) (hl:l0.length=n) (hn:n≤1048576) (hi:i < n) (hs:AW i l0) :
 ∃ l,aZ (M_o 0) N0 ((i:Int),l0)=some l∧l.Perm l0∧AW (i+1) l:=by
 refine cz (f:=M_o 0) (fun s=>∃ j:Nat,s.1=j∧j≤i∧s.2.length=n∧s.2.Perm l0∧SrtI i j s.2) (fun s=>s.1.toNat) (fun l=>l.Perm l0∧AW (i+1) l) (fun s hI=>?_) N0 ((i:Int),l0)
  ⟨i,rfl,Nat.le_refl _,hl,List.Perm.refl _,fun p q h1 h2 h3 h4=>hs p q h1 (by omega),fun q h1 h2=>by omega⟩ (eo (by simp; omega))
 obtain ⟨j',l⟩:=s
 obtain ⟨j,rfl,hj,hll,hp,hA,hB⟩:=hI
 simp only at hll hp hA hB
 by_cases h0:0 < j
 · have e1:decide ((0:Int) < (j:Int))=true:=decide_eq_true (by omega)
   have ew:IntKind.wrap .i64 ((j:Int) - 1)=((j - 1:Nat):Int):=by rw [aG (by omega) (by omega)]; omega
   have g1:l[j]?=some (gz l j):=Nw (by omega)
   have g2:l[j - 1]?=some (gz l (j - 1)):=Nw (by omega)
   have d1:grd (0≤(j:Int)∧(j:Int) < (l.length:Int))=some ():=aY (by omega)
   have d2:grd (0≤((j - 1:Nat):Int)∧((j - 1:Nat):Int) < (l.length:Int))=some ():=aY (by omega)
   by_cases hlt:gz l j < gz l (j - 1)
   · left
     have e2:decide (gz l j < gz l (j - 1))=true:=decide_eq_true hlt
     have g3:(l.set j (gz l (j - 1)))[j - 1]?=some (gz l (j - 1)):=by
      rw [List.getElem?_set,if_neg (by omega)]; exact g2
     refine ⟨(((j - 1:Nat):Int),(l.set j (gz l (j - 1))).set (j - 1) (gz l j)),?_,⟨j - 1,rfl,by omega,by simp [hll],?_,?_,?_⟩,?_⟩
     · simp only [M_o,e1,cond_true,Int.toNat_natCast,ew,d1,d2,g1,g2,IZ,e2,Option.bind_some,bnd,g3]
     · exact (AQ (by omega) (by omega)).trans hp
     · intro p q h1 h2 h3 h4
       simp only at *
       rw [kq (by simp; omega),kq (by omega),kq (by simp; omega),kq (by omega),if_neg h3,if_neg h4]
       by_cases c1:p=j
       · rw [if_pos c1,if_neg (by omega)]; exact hA (j - 1) q (by omega) h2 (by omega) (by omega)
       · rw [if_neg c1]
         by_cases c2:q=j
         · rw [if_pos c2]; exact hA p (j - 1) (by omega) (by omega) c1 (by omega)
         · rw [if_neg c2]; exact hA p q h1 h2 c1 c2
     · intro q h1 h2
       simp only at *
       rw [kq (by simp; omega),if_pos rfl,kq (by simp; omega),if_neg (by omega),kq (by omega)]
       by_cases c2:q=j
       · rw [if_pos c2]; omega
       · rw [if_neg c2]; exact hB q (by omega) h2
     · simp only [Int.toNat_natCast]; omega
   · right
     have e2:decide (gz l j < gz l (j - 1))=false:=decide_eq_false hlt
     refine ⟨l,?_,hp,?_⟩
     · simp only [M_o,e1,cond_true,Int.toNat_natCast,ew,d1,d2,g1,g2,Option.bind_some,IZ,e2,cond_false]
     · intro p q h1 h2
       by_cases c1:p=j
       · rw [c1]; exact hB q (by omega) (by omega)
       · by_cases c2:q=j
         · rw [c2]
           by_cases c3:p=j - 1
           · rw [c3]; omega
           · have:=hA p (j - 1) (by omega) (by omega) c1 (by omega); omega
         · exact hA p q h1 (by omega) c1 c2
 · right
   have e1:decide ((0:Int) < (j:Int))=false:=decide_eq_false (by omega)
   refine ⟨l,by simp only [M_o,e1,cond_false,Option.bind_some],hp,fun p q h1 h2=>?_⟩
   by_cases c1:p=j
   · rw [c1]; exact hB q (by omega) (by omega)
   · exact hA p q h1 (by omega) c1 (by omega)
theorem Ms (n:Nat) (xs:List Int) (hl:xs.length=n) (hn:n≤1048576):∃ l,FH 0 (n:Int) xs=some l∧l.Perm xs∧AW n l:=by
 unfold FH
 obtain ⟨l,h1,h2,h3⟩:=cz (f:=zX 0 (n:Int)) (fun s=>∃ i:Nat,s.1=i∧1≤i∧i≤n+1∧s.2.length=n∧s.2.Perm xs∧AW i s.2) (fun s=>n+1 - s.1.toNat) (fun l=>l.Perm xs∧AW n l) (fun s hI=>by
  obtain ⟨i',l⟩:=s
  obtain ⟨i,rfl,h0,hi,hll,hp,hs⟩:=hI
  simp only at hll hp hs
  by_cases h:i < n
  · left
    have e1:decide ((i:Int) < (n:Int))=true:=decide_eq_true (by omega)
    obtain ⟨l',g1,g2,g3⟩:=DE n i l hll hn h hs
    refine ⟨(((i+1:Nat):Int),l'),?_,⟨i+1,rfl,by omega,by omega,by rw [g2.length_eq]; exact hll,g2.trans hp,g3⟩,by simp only [Int.toNat_natCast]; omega⟩
    simp only [zX,e1,cond_true,g1,Option.bind_some]
    rw [aG (by omega) (by omega)]; rfl
  · right
    have e1:decide ((i:Int) < (n:Int))=false:=decide_eq_false (by omega)
    exact ⟨l,by simp only [zX,e1,cond_false],hp,fun p q h1 h2=>hs p q h1 (by omega)⟩) N0 (((1:Nat):Int),xs) ⟨1,rfl,by omega,by omega,hl,List.Perm.refl _,fun p q h1 h2=>by omega⟩ (eo (by simp; omega))
 refine ⟨l,?_,h2,h3⟩
 have e:IntKind.wrap .i64 ((0:Int)+1)=((1:Nat):Int):=by rw [aG (by omega) (by omega)]; rfl
 rw [e,h1]; rfl
theorem AF:∀ n:Fin 13,(Fi (IntKind.wrap .u64 (n.val:Int))).isSome=true:=by decide +kernel
theorem yt (xs:List Int) (h:xs.length≤12):∃ l,Ib xs=some l∧l.Perm xs∧l.Pairwise (·≤·):=by
 obtain ⟨l,h1,h2,h3⟩:=Ms xs.length xs rfl (by omega)
 refine ⟨l,?_,h2,?_⟩
 · have hb:=AF ⟨xs.length,by omega⟩
   simp only at hb
   unfold Ib
   cases hx:Fi (IntKind.wrap .u64 (xs.length:Int)) with
   | none=>rw [hx] at hb; cases hb
   | some r =>
     simp only [Option.bind_some]
     unfold Nd
     have hN:N0=(N0 - 1)+1:=by unfold N0; omega
     rw [hN,aZ]
     have e1:decide (IntKind.wrap .i64 ((xs.length:Int) - 0)≤12)=true:=by rw [aG (by omega) (by omega)]; exact decide_eq_true (by omega)
     simp only [Lt,e1,cond_true,h1,Option.bind_some]
 · rw [List.pairwise_iff_getElem]
   intro i j hi hj hij
   have:=h3 i j hij (by rw [← h2.length_eq]; exact hj)
   unfold gz at this
   rw [List.getElem?_eq_getElem hi,List.getElem?_eq_getElem hj] at this
   exact this
theorem rR:∀ (xs ys:List Int),xs.Pairwise (· < ·)→ys.Pairwise (· < ·)→(∀ x,x∈xs↔x∈ys)→xs=ys
 | [],[],_,_,_=>rfl
 | [],y::ys,_,_,h=>by have:=(h y).2 (by simp); cases this
 | x::xs,[],_,_,h=>by have:=(h x).1 (by simp); cases this
 | x :: xs, y :: ys, hx, hy, h => by
   rw [List.pairwise_cons] at hx hy
   have e:x=y:=by
    have h1:=(h x).1 (by simp)
    have h2:=(h y).2 (by simp)
    rcases List.mem_cons.1 h1 with h1 | h1
    · exact h1
    · rcases List.mem_cons.1 h2 with h2 | h2
      · exact h2.symm
      · have:=hx.1 y h2; have:=hy.1 x h1; omega
   subst e
   congr 1
   refine rR xs ys hx.2 hy.2 fun z=>?_
   have:=h z
   constructor
   · intro hz
     rcases List.mem_cons.1 (this.1 (List.mem_cons_of_mem _ hz)) with e | e
     · subst e; have:=hx.1 z hz; omega
     · exact e
   · intro hz
     rcases List.mem_cons.1 (this.2 (List.mem_cons_of_mem _ hz)) with e | e
     · subst e; have:=hy.1 z hz; omega
     · exact e
theorem pD {l:List Int} (h:l.Pairwise (·≤·)) (hn:l.Nodup):l.Pairwise (· < ·):=by
 rw [List.pairwise_iff_getElem] at h ⊢
 rw [List.nodup_iff_pairwise_ne,List.pairwise_iff_getElem] at hn
 intro i j hi hj hij
 have a:=h i j hi hj hij
 have b:=hn i j hi hj hij
 omega
end Vs

namespace Vs
open Go
def gE {α:Type} (p:Nat→α→Bool):Nat→List α→List Int
 | _,[]=>[]
 | i,x::xs=>if p i x then (i:Int)::gE p (i+1) xs else gE p (i+1) xs
theorem fI {α:Type} (p:Nat→α→Bool) (i:Nat) (x:α) (xs:List α):gE p i (x::xs)=if p i x then (i:Int)::gE p (i+1) xs else gE p (i+1) xs:=rfl
theorem kr {α:Type} (p:Nat→α→Bool):∀ (xs:List α) (i:Nat),(gE p i xs).length≤xs.length
 | [],i=>by simp [gE]
 | x :: xs, i => by
   have:=kr p xs (i+1)
   rw [fI]; split <;> simp <;> omega
theorem gv {α:Type} (p:Nat→α→Bool):∀ (xs:List α) (i:Nat) (y:Int),y∈gE p i xs↔∃ j x,xs[j]?=some x∧p (i+j) x=true∧y=((i+j:Nat):Int)
 | [],i,y=>by simp [gE]
 | x :: xs, i, y => by
   have ih:=gv p xs (i+1) y
   rw [fI]
   constructor
   · intro h
     by_cases e:p i x=true
     · rw [if_pos e] at h
       rcases List.mem_cons.1 h with h | h
       · exact ⟨0,x,rfl,by simpa using e,by simpa using h⟩
       · obtain ⟨j,z,h1,h2,h3⟩:=ih.1 h
         exact ⟨j+1,z,by simpa using h1,by rw [show i+(j+1)=i+1+j by omega]; exact h2,by rw [h3]; congr 1; omega⟩
     · rw [if_neg e] at h
       obtain ⟨j,z,h1,h2,h3⟩:=ih.1 h
       exact ⟨j+1,z,by simpa using h1,by rw [show i+(j+1)=i+1+j by omega]; exact h2,by rw [h3]; congr 1; omega⟩
   · rintro ⟨j,z,h1,h2,h3⟩
     cases j with
     | zero =>
       simp at h1; subst h1
       rw [if_pos (by simpa using h2)]
       rw [h3]; simp
     | succ j =>
       have:y∈gE p (i+1) xs:=ih.2 ⟨j,z,by simpa using h1,by rw [show i+1+j=i+(j+1) by omega]; exact h2,by rw [h3]; congr 1; omega⟩
       split
       · exact List.mem_cons_of_mem _ this
       · exact this
theorem mF {α:Type} (p:Nat→α→Bool):∀ (xs:List α) (i:Nat),(gE p i xs).Pairwise (· < ·)
 | [],i=>by simp [gE]
 | x :: xs, i => by
   rw [fI]
   split
   · rw [List.pairwise_cons]
     refine ⟨fun y hy=>?_,mF p xs (i+1)⟩
     obtain ⟨j,_,_,_,rfl⟩:=(gv p xs (i+1) y).1 hy
     omega
   · exact mF p xs (i+1)
theorem ql {α:Type} (p:Nat→α→Bool):∀ (xs:List α) (i:Nat) (a:List Int),bG (fun i x (a:List Int)=>(.inl (if p i x then a++[(i:Int)] else a):List Int ⊕ List Int)) (fun a=>a) i xs a=a++gE p i xs
 | [],i,a=>by simp [bG,gE]
 | x :: xs, i, a => by
   simp only [bG]
   rw [ql p xs (i+1),fI]
   split <;> simp
theorem oA {α:Type} (p q:Nat→α→Bool):∀ (xs:List α) (i:Nat) (a:List Int×List Int),bG (fun i x (a:List Int×List Int)=>(.inl (if p i x then (a.1++[(i:Int)],a.2) else if q i x then (a.1,a.2++[(i:Int)]) else a):(List Int×List Int) ⊕ (List Int×List Int))) (fun a=>a) i xs a =
 (a.1++gE p i xs,a.2++gE (fun i x=>!p i x&&q i x) i xs)
 | [],i,a=>by simp [bG,gE]
 | x :: xs, i, a => by
   simp only [bG]
   rw [oA p q xs (i+1),fI,fI]
   by_cases h1:p i x=true
   · simp [h1]
   · by_cases h2:q i x=true <;> simp [h1,h2]
def jI (ring:List Int) (i:Nat) (_:ar):Bool:=decide ((i:Int)∈ring)
def rn (nd:List Int) (_:Nat) (f:ar):Bool:=decide (f.A∈nd)&&decide (f.B∈nd)
def ki (n:ae) (ring:List Int):List Int:=gE (jI ring) 0 n.Fibers
def jX (n:ae) (ring nd:List Int):List Int:=gE (fun i f=>!jI ring i f&&rn nd i f) 0 n.Fibers
theorem nN (n:ae) (ring l:List Int) (hn:bu n=true) (hr:ring.length≤1048576) (hl:l.length≤1048576) (hp:bI n ring=some l):Iv n ring=some (ki n ring,jX n ring l):=by
 obtain ⟨b1,b2,b3⟩:=bT hn
 unfold Iv
 rw [mZ n ring l hn hr hp]
 simp only [Option.bind_some]
 have:=cw (f:=M_i n ring l) n.Fibers (fun i (a:List Int×List Int)=>((i:Int),a.1,a.2)) (fun i f a=>.inl (if jI ring i f then (a.1++[(i:Int)],a.2) else if rn l i f then (a.1,a.2++[(i:Int)]) else a)) (fun a=>a) (fun i a=>a.1.length≤i∧a.2.length≤i) (fun i a f hf hI=>by
  have hlt:=(List.getElem?_eq_some_iff.1 hf).1
  have h1:decide ((i:Int) < n.Fibers.length)=true:=by simp [hlt]
  refine .inl ⟨_,rfl,?_,?_⟩
  · split
    · simp only [List.length_append,List.length_cons,List.length_nil]; omega
    · split
      · simp only [List.length_append,List.length_cons,List.length_nil]; omega
      · omega
  · simp only [M_i,h1,cond_true,eO ring (i:Int) hr,← fA,Option.bind_some,aU,hf,eO l _ hl,bnd]
    rw [aG (by omega) (by omega),aY (by omega),aY (by omega)]
    unfold jI rn
    by_cases e1:(i:Int)∈ring
    · simp [e1]
    · by_cases e2:f.A∈l
      · by_cases e3:f.B∈l <;> simp [e1,e2,e3]
      · simp [e1,e2]) (fun a _=>by simp [M_i]) ([],[]) ⟨Nat.le_refl _,Nat.le_refl _⟩ (by omega)
 rw [oA] at this
 have e:((0:Nat):Int)=0:=rfl
 simp only [e,List.nil_append] at this
 rw [this]; rfl
theorem ld:∀ (m:Nat) (l:List Int),l.Nodup→(∀ x∈l,0≤x∧x < (m:Int))→l.length≤m
 | 0, l, _, h => by
   cases l with
   | nil=>simp
   | cons x l=>have:=h x (by simp); omega
 | m + 1, l, hn, h => by
   by_cases hm:(m:Int)∈l
   · have:=ld m (l.erase (m:Int)) (hn.erase _) (fun x hx=>by
      have h1:=(hn.mem_erase_iff).1 hx
      have:=h x h1.2
      have h3:=h1.1
      omega)
     rw [List.length_erase_of_mem hm] at this
     omega
   · have:=ld m l hn (fun x hx=>by
      have:=h x hx
      have:x ≠ (m:Int):=fun e=>hm (e ▸ hx)
      omega)
     omega
theorem qY {n:ae} (hn:bu n=true) (ring:List Int):∀ (ys:List Int) (i:Nat) (p q:Int×List Int),(0≤p.1∧p.1 < n.Nodes.length)→(∀ x∈p.2,0≤x∧x < (n.Nodes.length:Int))→wkI n ring i ys p=.inl q→∀ x∈q.2,0≤x∧x < (n.Nodes.length:Int)
 | [],i,p,q,_,hp2,h=>by unfold wkI bG at h; cases h; exact hp2
 | e :: ys, i, p, q, hp1, hp2, h => by
   rw [dh] at h
   unfold stI at h
   by_cases h1:iI n ring i e=true
   · rw [if_pos h1] at h; cases h
   · rw [if_neg h1] at h
     by_cases h2:bx n e p.1 < 0
     · rw [if_pos h2] at h; cases h
     · rw [if_neg h2] at h
       refine qY hn ring ys (i+1) _ q ?_ ?_ h
       · have hw:=(mM (by simpa using h1)).1
         obtain ⟨f,_,g2⟩:=dW hw
         obtain ⟨a0,ab,bm,_⟩:=df hn g2
         simp only
         unfold bx at h2 ⊢
         rw [g2] at h2 ⊢
         simp only at h2 ⊢
         unfold dp at h2 ⊢
         split
         · omega
         · rename_i c1
           split
           · omega
           · rename_i c2
             rw [if_neg c1,if_neg c2] at h2; omega
       · intro x hx
         simp only [List.mem_append,List.mem_singleton] at hx
         rcases hx with hx | rfl
         · exact hp2 x hx
         · exact hp1
theorem ko {n:ae} (hn:bu n=true) {ring l:List Int} (hr:ring.length≤1048576) (hp:bI n ring=some l):ring.Nodup∧ring.length≤8∧2≤ring.length∧l.length≤8∧∀ e∈ring,0≤e∧e < (n.Fibers.length:Int):=by
 obtain ⟨b1,b2,b3⟩:=bT hn
 obtain ⟨h1,h2,_⟩:=cE.1 hp
 obtain ⟨g1,g2,g3⟩:=fu.1 h1
 obtain ⟨e0,f,k1,k2,k3,k4,_⟩:=jF hn h1
 obtain ⟨a0,ab,bm,_⟩:=k4
 have hrng:=qY hn ring ring 0 _ _ (by simp only; rw [k3]; omega) (by simp) g1
 have hle:=ld n.Nodes.length _ g2 hrng
 have hlen:=vY (by omega) hr h1
 refine ⟨lz g1,by omega,g3,by rw [← h2]; omega,fun e he=>?_⟩
 obtain ⟨j,hj⟩:=List.getElem?_of_mem he
 have:=rf n ring ring 0 _ _ g1 j e hj
 have:=dd.1 (mM this).1
 omega
theorem uH (n:ae) (ring l:List Int) (hn:bu n=true) (hr:ring.length≤1048576) (hp:bI n ring=some l):IP n ring=some (ki n ring,jX n ring l):=by
 obtain ⟨b1,b2,b3⟩:=bT hn
 obtain ⟨r1,r2,r3,r4,r5⟩:=ko hn hr hp
 unfold IP
 obtain ⟨ys,s1,s2,s3⟩:=yt ring (by omega)
 obtain ⟨l',a1,a2⟩:=lj n ring (by omega) hr
 have:=a2 l hp
 subst this
 simp only [uV ring hr,s1,a1,Option.bind_some,bnd]
 have:=cw (f:=M_w n ring (l',(bI n ring).isSome)) n.Fibers (fun i (a:List Int)=>((i:Int),a)) (fun i f a=>.inl (if !jI ring i f&&rn l' i f then a++[(i:Int)] else a)) (fun a=>a) (fun i a=>a.length≤i) (fun i a f hf hI=>by
  have hlt:=(List.getElem?_eq_some_iff.1 hf).1
  have h1:decide ((i:Int) < n.Fibers.length)=true:=by simp [hlt]
  refine .inl ⟨_,rfl,?_,?_⟩
  · split
    · simp only [List.length_append,List.length_cons,List.length_nil]; omega
    · omega
  · simp only [M_w,h1,cond_true,aU,hf,Option.bind_some,ie ring (i:Int) hr,ie l' _ (show l'.length≤1048576 by omega),bnd]
    rw [aG (by omega) (by omega),aY (by omega)]
    unfold jI rn
    by_cases e1:(i:Int)∈ring
    · simp [e1]
    · by_cases e2:f.A∈l'
      · by_cases e3:f.B∈l' <;> simp [e1,e2,e3]
      · simp [e1,e2]) (fun a _=>by simp [M_w]) [] (Nat.le_refl _) (by omega)
 rw [ql (fun i f=>!jI ring i f&&rn l' i f)] at this
 have e:((0:Nat):Int)=0:=rfl
 simp only [e,List.nil_append] at this
 rw [this]
 simp only [Option.bind_some]
 have e1:dP ys 0 ring.length=ys:=by rw [← s2.length_eq]; exact kL ys
 have e2:ys=ki n ring:=by
  refine rR _ _ (pD s3 (s2.nodup_iff.2 r1)) (mF _ _ _) fun x=>?_
  rw [s2.mem_iff]
  unfold ki
  rw [gv]
  constructor
  · intro hx
    have:=r5 x hx
    have hlt:x.toNat < n.Fibers.length:=by omega
    refine ⟨x.toNat,n.Fibers[x.toNat],List.getElem?_eq_getElem hlt,?_,by omega⟩
    unfold jI
    rw [Nat.zero_add,Int.toNat_of_nonneg (by omega)]; simpa using hx
  · rintro ⟨j,f,h1,h2,rfl⟩
    unfold jI at h2
    simpa using h2
 rw [e1,e2]; rfl
def pfP (n:ae) (ring:List Int):List Int×List Int×Bool:=if bu n then (match bI n ring with | some l=>(ki n ring,jX n ring l,true) | none=>([],[],false)) else ([],[],false)
end Vs

namespace Vs
open Go
theorem ia (n:ae) (ring:List Int) (hz:bz n≤1048576) (hr:ring.length≤1048576):Dp n ring=some (pfP n ring):=by
 unfold Dp pfP
 rw [eP n ring hz hr]
 unfold co
 rcases bt (bu n) with hn | hn
 · rw [hn]
   cases hp:bI n ring with
   | none=>rfl
   | some l=>simp only [Option.bind_some,Option.isSome_some,Bool.and_self,Bool.not_true,cond_false,uH n ring l hn hr hp]; rfl
 · rw [hn]; rfl
def mxZ (a b:Int):Int:=if a < b then b else a
theorem Iq (a b:Int):rQ a b=some (mxZ a b):=by
 unfold rQ mxZ
 by_cases h:b < a
 · rw [decide_eq_true h,cond_true,if_neg (by omega)]
 · rw [decide_eq_false h,cond_false]
   by_cases h2:a < b
   · rw [if_pos h2]
   · rw [if_neg h2]; congr 1; omega
end Vs

namespace Vs
open Go
def bF (n:ae) (s:Int) (D:Int→List Int→List Int→List (List Int)) (a:Int) (p q:List Int) (i:Nat):List (List Int) :=
 if bx n (i:Int) a < s∨(i:Int)∈p then []
 else if bx n (i:Int) a=s then (if 2≤(p++[(i:Int)]).length∧dT (p++[(i:Int)]) (p++[(i:Int)]).reverse=true then [p++[(i:Int)]] else [])
 else if bx n (i:Int) a∈q then [] else D (bx n (i:Int) a) (p++[(i:Int)]) (q++[bx n (i:Int) a])
def gu (n:ae) (s:Int) (D:Int→List Int→List Int→List (List Int)) (a:Int) (p q:List Int):List (List Int):=(List.range n.Fibers.length).flatMap (bF n s D a p q)
def gc (n:ae) (s:Int):Nat→Int→List Int→List Int→List (List Int)
 | 0=>gu n s (fun _ _ _=>[])
 | k+1=>gu n s (gc n s k)
theorem yg (n:ae) (ring:List Int) (ys:List Int):∀ (xs:List Int) (i:Nat) (p q:Int×List Int),wkI n ring i xs p=.inl q→wkI n ring i (xs++ys) p=wkI n ring (i+xs.length) ys q
 | [], i, p, q, h => by
   unfold wkI bG at h
   cases h; rfl
 | e :: xs, i, p, q, h => by
   rw [List.cons_append,dh]
   rw [dh] at h
   split at h
   · rename_i a he
     rw [yg n ring ys xs (i+1) a q h,List.length_cons,show i+1+xs.length=i+(xs.length+1) by omega]
   · rename_i b he
     subst h
     unfold stI at he
     split at he
     · cases he
     · split at he <;> cases he
structure eK (n:ae) (s a:Int) (p q:List Int):Prop where
 wk:∃ q0,q=q0++[a]∧∀ suf,wkI n (p++suf) 0 p (s,[])=.inl (a,q0)
 nd:q.Nodup
 ge:∀ x∈q,s≤x
 st:p ≠ []→bE n p=s
 len:p.length+1=q.length
 s0:0≤s
 rg:∀ x∈q,0≤x∧x < n.Nodes.length
theorem IV {n:ae} {i:Nat} (hi:i < n.Fibers.length):wi (i:Int) 0 ((n.Fibers.length:Int) - 1)=true:=by
 unfold wi; simp; omega
theorem Pm {n:ae} {p suf:List Int} {i:Nat} {a:Int} {q0:List Int} (hi:i < n.Fibers.length) (hp:(i:Int) ∉ p) (h0:0≤bx n (i:Int) a) :
 stI n (p++suf) p.length (i:Int) (a,q0)=.inl (bx n (i:Int) a,q0++[a]):=by
 have hb:iI n (p++suf) p.length (i:Int)=false:=by
  unfold iI
  rw [IV hi,List.take_left,← fA]
  simp [hp]
 unfold stI
 simp only [hb,Bool.false_eq_true,if_false]
 rw [if_neg (by omega)]
theorem eK.walk {n:ae} {s a:Int} {p q:List Int} (h:eK n s a p q) {i:Nat} (hi:i < n.Fibers.length) (hp:(i:Int) ∉ p) (h0:0≤bx n (i:Int) a) (suf:List Int) :
 wkI n (p++[(i:Int)]++suf) 0 (p++[(i:Int)]) (s,[])=.inl (bx n (i:Int) a,q):=by
 obtain ⟨q0,hq,hw⟩:=h.wk
 rw [List.append_assoc,yg n _ _ p 0 _ _ (hw _),Nat.zero_add,dh,Pm hi hp h0]
 unfold wkI bG
 rw [hq]
theorem yx {n:ae} (hn:bu n=true) {i:Nat} (hi:i < n.Fibers.length) {a:Int} (h0:0≤bx n (i:Int) a) :
 bx n (i:Int) a < n.Nodes.length∧∃ f,n.Fibers[i]?=some f∧f.A < f.B∧(a=f.A∧bx n (i:Int) a=f.B∨a=f.B∧bx n (i:Int) a=f.A):=by
 have hf:n.Fibers[i]?=some n.Fibers[i]:=List.getElem?_eq_getElem hi
 have hk:=df hn hf
 have:=hk.a0; have:=hk.ab; have:=hk.bm
 unfold bx at h0 ⊢
 rw [Int.toNat_natCast,hf] at h0 ⊢
 simp only at h0 ⊢
 unfold dp at h0 ⊢
 refine ⟨?_,n.Fibers[i],rfl,this |> fun _=>hk.ab,?_⟩
 · split
   · omega
   · split <;> omega
 · by_cases h1:a=n.Fibers[i].A
   · left; rw [if_pos h1]; exact ⟨h1,rfl⟩
   · rw [if_neg h1] at h0 ⊢
     by_cases h2:a=n.Fibers[i].B
     · right; rw [if_pos h2]; exact ⟨h2,rfl⟩
     · rw [if_neg h2] at h0; omega
theorem oX {n:ae} {p:List Int} (hp:p ≠ []) (x:List Int):bE n (p++x)=bE n p:=by
 cases p with
 | nil=>exact absurd rfl hp
 | cons y p=>rfl
theorem eK.ext {n:ae} (hn:bu n=true) {s a:Int} {p q:List Int} (h:eK n s a p q) {i:Nat} (hi:i < n.Fibers.length) (hp:(i:Int) ∉ p) (h0:¬ bx n (i:Int) a < s) (h1:bx n (i:Int) a ≠ s)
 (h2:bx n (i:Int) a ∉ q):eK n s (bx n (i:Int) a) (p++[(i:Int)]) (q++[bx n (i:Int) a]):=by
 have hs:=h.s0
 obtain ⟨r1,f,r2,r3,r4⟩:=yx hn hi (a:=a) (by omega)
 refine ⟨⟨q,rfl,h.walk hi hp (by omega)⟩,?_,?_,fun _=>?_,by simp [h.len],hs,?_⟩
 · rw [List.nodup_append]
   exact ⟨h.nd,by simp,fun x hx y hy e=>by rw [List.mem_singleton] at hy; subst hy; subst e; exact h2 hx⟩
 · intro x hx
   rw [List.mem_append] at hx
   rcases hx with hx | hx
   · exact h.ge x hx
   · rw [List.mem_singleton] at hx; omega
 · cases p with
   | cons y p=>rw [oX (by simp)]; exact h.st (by simp)
   | nil =>
     obtain ⟨q0,hq,hw⟩:=h.wk
     have:=hw []
     unfold wkI bG at this
     have ha:s=a:=by injection this with e; injection e
     unfold bE
     simp only [List.nil_append,List.getElem?_cons_zero,Int.toNat_natCast,r2]
     omega
 · intro x hx
   rw [List.mem_append] at hx
   rcases hx with hx | hx
   · exact h.rg x hx
   · rw [List.mem_singleton] at hx; omega
theorem eK.close {n:ae} {s a:Int} {p q:List Int} (h:eK n s a p q) {i:Nat} (hi:i < n.Fibers.length) (hp:(i:Int) ∉ p) (h1:bx n (i:Int) a=s) :
 bI n (p++[(i:Int)])=if 2≤(p++[(i:Int)]).length∧dT (p++[(i:Int)]) (p++[(i:Int)]).reverse=true then some q else none:=by
 have hs:=h.s0
 unfold bI
 by_cases hl:2≤(p++[(i:Int)]).length
 · have hne:p ≠ []:=by
    intro e; rw [e] at hl; simp at hl
   have hw:=h.walk hi hp (by omega) []
   rw [List.append_nil,h1] at hw
   rw [if_pos hl,oX hne,h.st hne,hw]
   simp only [true_and,hl]
   by_cases hx:dT (p++[(i:Int)]) (p++[(i:Int)]).reverse=true
   · rw [if_pos ⟨h.nd,h.ge,hx⟩,if_pos hx]
   · rw [if_neg (fun e=>hx e.2.2),if_neg hx]
 · rw [if_neg hl,if_neg (fun e=>hl e.1)]
theorem eK.init {n:ae} {v:Nat} (hv:v < n.Nodes.length):eK n (v:Int) (v:Int) [] [(v:Int)] :=
 ⟨⟨[],rfl,fun _=>rfl⟩,by simp,by simp,fun h=>absurd rfl h,rfl,by omega,by simp; omega⟩
theorem eK.le {n:ae} {s a:Int} {p q:List Int} (h:eK n s a p q):q.length≤n.Nodes.length:=ld _ q h.nd h.rg
theorem eK.nodup {n:ae} {s a:Int} {p q:List Int} (h:eK n s a p q):p.Nodup:=by
 obtain ⟨q0,hq,hw⟩:=h.wk
 have:=hw []
 rw [List.append_nil] at this
 exact lz this
theorem km {α:Type} (f:Nat→List α) {i F:Nat} (h:i≤F):∃ R,(List.range F).flatMap f=(List.range i).flatMap f++R:=by
 obtain ⟨d,rfl⟩:=Nat.exists_eq_add_of_le h
 rw [List.range_add,List.flatMap_append]
 exact ⟨_,rfl⟩
theorem gB {α:Type} (f:Nat→List α) (i:Nat):(List.range (i+1)).flatMap f=(List.range i).flatMap f++f i:=by
 rw [List.range_succ,List.flatMap_append]; simp
theorem gL {α:Type} (f:Nat→List α) (c:Nat):∀ (i:Nat),(∀ j,j < i→(f j).length≤c)→((List.range i).flatMap f).length≤i * c
 | 0,_=>by simp
 | i + 1, h => by
   rw [gB,List.length_append,Nat.succ_mul]
   have:=gL f c i fun j hj=>h j (by omega)
   have:=h i (by omega)
   omega
theorem lA {n:ae} {s:Int} {D:Int→List Int→List Int→List (List Int)} {c:Nat} (hc:1≤c) (hD:∀ a p q,(D a p q).length≤c) (a:Int) (p q:List Int) (i:Nat):(bF n s D a p q i).length≤c:=by
 unfold bF
 split
 · simp
 · split
   · split <;> simp; omega
   · split
     · simp
     · exact hD _ _ _
theorem kZ {n:ae} {s:Int} (hF:n.Fibers.length≤14):∀ (k:Nat) (a:Int) (p q:List Int),(gc n s k a p q).length≤14 ^ (k+1)
 | 0, a, p, q => by
   unfold gc gu
   have:=gL (bF n s (fun _ _ _=>[]) a p q) 1 n.Fibers.length fun j _=>lA (by omega) (fun _ _ _=>by simp) a p q j
   omega
 | k + 1, a, p, q => by
   unfold gc gu
   have h1:1≤14 ^ (k+1):=Nat.pow_pos (by omega)
   have:=gL (bF n s (gc n s k) a p q) (14 ^ (k+1)) n.Fibers.length fun j _=>lA h1 (kZ hF k) a p q j
   have h2:n.Fibers.length * 14 ^ (k+1)≤14 * 14 ^ (k+1):=Nat.mul_le_mul_right _ hF
   rw [Nat.pow_succ 14 (k+1)]
   omega
end Vs

namespace Vs
open Go
def bS (a b:List Int):Bool:=if a.length=b.length then dT a b else decide (a.length < b.length)
theorem vG (a b:List Int) (hl:a.length≤1048576):pu a b=some (bS a b):=by
 unfold bS
 by_cases h:a.length=b.length
 · rw [if_pos h]; exact lC a b h hl
 · rw [if_neg h]
   unfold pu
   have e:((a.length:Int) != (b.length:Int))=true:=bne_iff_ne.2 (by omega)
   rw [e,cond_true]
   congr 1
   by_cases h2:a.length < b.length <;> simp [h2] <;> omega
theorem nH {α:Type} (p:Nat→α→Bool) (hp:∀ i j y,p i y=p j y):∀ (xs:List α) (k:Nat),((xs.zipIdx (k+1)).find? fun q=>p q.2 q.1)=((xs.zipIdx k).find? fun q=>p q.2 q.1).map fun q=>(q.1,q.2+1)
 | [],k=>rfl
 | x :: xs, k => by
   rw [List.zipIdx_cons,List.zipIdx_cons,List.find?_cons,List.find?_cons]
   simp only [hp (k+1) k x]
   cases p k x with
   | true=>rfl
   | false=>exact nH p hp xs (k+1)
theorem vI {α:Type} (p:Nat→α→Bool) (x:α) (xs:List α) (hp:∀ i j y,p i y=p j y) :
 bv p (x::xs)=if p 0 x then some (0,x) else (bv p xs).map fun q=>(q.1+1,q.2):=by
 unfold bv
 rw [List.zipIdx_cons,List.find?_cons]
 by_cases h:p 0 x=true
 · simp [h]
 · simp only [Bool.not_eq_true] at h
   simp only [h,Bool.false_eq_true,if_false]
   rw [nH p hp xs 0,Option.map_map,Option.map_map]
   rfl
theorem lq (x y:Int) (a b:List Int):dT (x::a) (y::b)=if x=y then dT a b else decide (x < y):=by
 unfold dT mj
 rw [List.zip_cons_cons,vI _ _ _ (fun _ _ _=>rfl)]
 by_cases h:x=y
 · simp only [h,bne_self_eq_false,Bool.false_eq_true,if_false,if_true]
   cases bv (fun _ (q:Int×Int)=>q.1 != q.2) (a.zip b) <;> rfl
 · have:(x != y)=true:=bne_iff_ne.2 h
   simp only [this,if_true,if_neg h]
theorem uc:∀ a:List Int,dT a a=false
 | []=>rfl
 | x::a=>by rw [lq,if_pos rfl]; exact uc a
theorem oG:∀ a b c:List Int,a.length=b.length→b.length=c.length→dT a b=true→dT b c=true→dT a c=true
 | [],[],[],_,_,h,_=>h
 | x :: a, y :: b, z :: c, h1, h2, h3, h4 => by
   rw [lq] at h3 h4 ⊢
   by_cases e1:x=y
   · rw [if_pos e1] at h3
     by_cases e2:y=z
     · rw [if_pos e2] at h4
       rw [if_pos (e1.trans e2)]
       exact oG a b c (by simpa using h1) (by simpa using h2) h3 h4
     · rw [if_neg e2] at h4
       rw [if_neg (by omega)]
       simp only [decide_eq_true_eq] at h4 ⊢; omega
   · rw [if_neg e1] at h3
     simp only [decide_eq_true_eq] at h3
     by_cases e2:y=z
     · rw [if_neg (by omega)]; simp only [decide_eq_true_eq]; omega
     · rw [if_neg e2] at h4
       simp only [decide_eq_true_eq] at h4
       rw [if_neg (by omega)]; simp only [decide_eq_true_eq]; omega
theorem tm:∀ a b:List Int,a.length=b.length→dT a b=false→dT b a=false→a=b
 | [],[],_,_,_=>rfl
 | x :: a, y :: b, h, h1, h2 => by
   rw [lq] at h1 h2
   by_cases e:x=y
   · rw [if_pos e] at h1
     rw [if_pos e.symm] at h2
     rw [e,tm a b (by simpa using h) h1 h2]
   · rw [if_neg e] at h1
     rw [if_neg (Ne.symm e)] at h2
     simp only [decide_eq_false_iff_not] at h1 h2; omega
theorem qh (a:List Int):bS a a=false:=by
 unfold bS; rw [if_pos rfl]; exact uc a
theorem iL {a b c:List Int} (h1:bS a b=true) (h2:bS b c=true):bS a c=true:=by
 unfold bS at *
 by_cases e1:a.length=b.length
 · rw [if_pos e1] at h1
   by_cases e2:b.length=c.length
   · rw [if_pos e2] at h2
     rw [if_pos (e1.trans e2)]
     exact oG a b c e1 e2 h1 h2
   · rw [if_neg e2] at h2
     rw [if_neg (by omega)]; simp only [decide_eq_true_eq] at h2 ⊢; omega
 · rw [if_neg e1] at h1
   simp only [decide_eq_true_eq] at h1
   by_cases e2:b.length=c.length
   · rw [if_neg (by omega)]; simp only [decide_eq_true_eq]; omega
   · rw [if_neg e2] at h2
     simp only [decide_eq_true_eq] at h2
     rw [if_neg (by omega)]; simp only [decide_eq_true_eq]; omega
theorem qx {a b:List Int} (h1:bS a b=false) (h2:bS b a=false):a=b:=by
 unfold bS at *
 by_cases e:a.length=b.length
 · rw [if_pos e] at h1
   rw [if_pos e.symm] at h2
   exact tm a b e h1 h2
 · rw [if_neg e] at h1
   rw [if_neg (Ne.symm e)] at h2
   simp only [decide_eq_false_iff_not] at h1 h2; omega
theorem la {a b c:List Int} (h1:bS a b=false) (h2:bS b c=false):bS a c=false:=by
 cases h:bS a c with
 | false=>rfl
 | true =>
   -- c≤b≤a < c
   cases h3:bS b a with
   | true=>rw [iL h3 h] at h2; cases h2
   | false=>rw [qx h1 h3] at h; rw [h] at h2; cases h2
def ml (l:List (List Int)) (r:List Int):List (List Int):=l.takeWhile (fun x=>bS x r)++[r]++l.dropWhile (fun x=>bS x r)
def gI (l:List (List Int)) (r:List Int):List (List Int):=if l.length≤60 then ml l r else l
def bH (l:List (List Int)) (rs:List (List Int)):List (List Int):=rs.foldl gI l
theorem jE (l:List (List Int)) (r:List Int):(ml l r).Perm (r::l):=by
 unfold ml
 have h:l.takeWhile (fun x=>bS x r)++l.dropWhile (fun x=>bS x r)=l:=List.takeWhile_append_dropWhile
 rw [List.append_assoc]
 refine List.perm_middle.trans ?_
 show (r::(l.takeWhile (fun x=>bS x r)++l.dropWhile (fun x=>bS x r))).Perm (r::l)
 rw [h]
theorem oa (l:List (List Int)) (r:List Int):(ml l r).length=l.length+1:=(jE l r).length_eq
theorem Hr {l:List (List Int)} {r:List Int} (h:l.Pairwise fun a b=>bS b a=false):(ml l r).Pairwise fun a b=>bS b a=false:=by
 induction l with
 | nil=>simp [ml]
 | cons x l ih =>
   rw [List.pairwise_cons] at h
   unfold ml
   by_cases hx:bS x r=true
   · simp only [List.takeWhile_cons,List.dropWhile_cons,hx,if_true]
     show (x::ml l r).Pairwise _
     rw [List.pairwise_cons]
     refine ⟨fun y hy=>?_,ih h.2⟩
     have:=(jE l r).mem_iff.1 hy
     rw [List.mem_cons] at this
     rcases this with e | e
     · rw [e]
       cases h':bS r x with
       | false=>rfl
       | true=>rw [← iL hx h',qh]
     · exact h.1 y e
   · simp only [Bool.not_eq_true] at hx
     simp only [List.takeWhile_cons,List.dropWhile_cons,hx,Bool.false_eq_true,if_false]
     show (r::x::l).Pairwise _
     rw [List.pairwise_cons,List.pairwise_cons]
     refine ⟨fun y hy=>?_,h⟩
     rw [List.mem_cons] at hy
     rcases hy with e | e
     · rw [e]; exact hx
     · exact la (h.1 y e) hx
theorem CY (l:List (List Int)) (r:List Int) (h:l.length≤61):(gI l r).length≤61:=by
 unfold gI
 split
 · rw [oa]; omega
 · exact h
theorem lO:∀ (rs:List (List Int)) (l:List (List Int)),l.length≤61→(bH l rs).length≤61
 | [],l,h=>h
 | r::rs,l,h=>lO rs _ (CY l r h)
theorem kl:∀ (rs:List (List Int)) (l:List (List Int)),60 < l.length→bH l rs=l
 | [],l,h=>rfl
 | r :: rs, l, h => by
   show bH (gI l r) rs=l
   have:gI l r=l:=by unfold gI; rw [if_neg (by omega)]
   rw [this]; exact kl rs l h
theorem lu (l xs ys:List (List Int)):bH l (xs++ys)=bH (bH l xs) ys:=List.foldl_append
theorem oT:∀ (rs:List (List Int)) (l:List (List Int)),l.Pairwise (fun a b=>bS b a=false)→l.length≤61→(bH l rs).Pairwise (fun a b=>bS b a=false) ∧
 (if l.length+rs.length≤61 then (bH l rs).Perm (l++rs) else (bH l rs).length=61)
 | [], l, h, hl => by
   refine ⟨h,?_⟩
   rw [if_pos (by simpa using hl),List.append_nil]; exact List.Perm.refl _
 | r :: rs, l, h, hl => by
   show (bH (gI l r) rs).Pairwise _∧_
   by_cases h6:l.length≤60
   · have e:gI l r=ml l r:=by unfold gI; rw [if_pos h6]
     obtain ⟨h1,h2⟩:=oT rs (ml l r) (Hr h) (by rw [oa]; omega)
     rw [oa] at h2
     show (bH (gI l r) rs).Pairwise _∧(if l.length+(rs.length+1)≤61 then (bH (gI l r) rs).Perm _ else (bH (gI l r) rs).length=61)
     rw [e]
     refine ⟨h1,?_⟩
     by_cases hc:l.length+(rs.length+1)≤61
     · rw [if_pos hc]
       rw [if_pos (by omega)] at h2
       refine h2.trans ?_
       exact ((jE l r).append_right rs).trans List.perm_middle.symm
     · rw [if_neg hc]
       rw [if_neg (by omega)] at h2
       exact h2
   · have e:gI l r=l:=by unfold gI; rw [if_neg h6]
     show _∧(if l.length+(rs.length+1)≤61 then (bH (gI l r) rs).Perm _ else (bH (gI l r) rs).length=61)
     rw [e,kl rs l (by omega)]
     exact ⟨h,by rw [if_neg (by omega)]; omega⟩
theorem DB:∀ (xs ys:List (List Int)),xs.Perm ys→xs.Pairwise (fun a b=>bS b a=false)→ys.Pairwise (fun a b=>bS b a=false)→xs=ys
 | [],ys,h,_,_=>(List.nil_perm.1 h).symm
 | x::xs,[],h,_,_=>by have:=h.length_eq; simp at this
 | x :: xs, y :: ys, h, h1, h2 => by
   rw [List.pairwise_cons] at h1 h2
   have e:x=y:=by
    have m1:x∈y::ys:=h.mem_iff.1 List.mem_cons_self
    have m2:y∈x::xs:=h.mem_iff.2 List.mem_cons_self
    rw [List.mem_cons] at m1 m2
    rcases m1 with e | m1
    · exact e
    · rcases m2 with e | m2
      · exact e.symm
      · exact qx (h2.1 x m1) (h1.1 y m2)
   subst e
   rw [DB xs ys (List.Perm.cons_inv h) h1.2 h2.2]
end Vs

namespace Vs
open Go
theorem vQ {α:Type} (xs:List α) (k:Nat) (h:k≤xs.length):dP xs 0 k=xs.take k:=by
 unfold dP
 split
 · rename_i e; rw [e.2,List.take_length]
 · rw [List.drop_zero]
theorem wt {α:Type} (xs:List α) (k:Nat) (h:k≤xs.length):dP xs k (xs.length - k)=xs.drop k:=by
 unfold dP
 split
 · rename_i e; rw [e.1,List.drop_zero]
 · rw [List.take_of_length_le (by simp)]
theorem fN {α:Type} (p:α→Bool):∀ (l:List α),l.take (l.takeWhile p).length=l.takeWhile p∧l.drop (l.takeWhile p).length=l.dropWhile p
 | []=>⟨rfl,rfl⟩
 | x :: l => by
   obtain ⟨h1,h2⟩:=fN p l
   simp only [List.takeWhile_cons,List.dropWhile_cons]
   by_cases h:p x=true
   · simp [h,h1,h2]
   · simp only [Bool.not_eq_true] at h
     simp [h]
theorem Ss {α:Type} (p:α→Bool) (l:List α):(l.takeWhile p).length≤l.length:=by
 rw [← (fN p l).1,List.length_take]; omega
theorem Ia {α:Type} (p:α→Bool):∀ (l:List α) (i:Nat),(∀ j y,j < i→l[j]?=some y→p y=true)→i≤l.length→(i=l.length∨∃ y,l[i]?=some y∧p y=false)→(l.takeWhile p).length=i
 | [],i,_,h,_=>by simp at h ⊢; omega
 | x :: l, 0, h1, h2, h3 => by
   rcases h3 with h3 | ⟨y,h3,h4⟩
   · simp at h3
   · simp at h3; subst h3; simp [List.takeWhile_cons,h4]
 | x :: l, i + 1, h1, h2, h3 => by
   have hx:=h1 0 x (by omega) rfl
   rw [List.takeWhile_cons,hx]
   simp only [if_true,List.length_cons]
   rw [Ia p l i (fun j y hj hy=>h1 (j+1) y (by omega) (by simpa using hy)) (by simpa using h2) (by
    rcases h3 with h3 | ⟨y,h3,h4⟩
    · left; simpa using h3
    · right; exact ⟨y,by simpa using h3,h4⟩)]
theorem JG (l:List (List Int)) (r:List Int) (h:∀ x∈l,x.length≤1048576) (hl:l.length≤1000):Gq l r=some (ml l r,l):=by
 unfold Gq
 obtain ⟨b,hb,hq⟩:=cz (f:=M_y l r) (fun s=>∃ i:Nat,s=(i:Int)∧i≤l.length∧∀ j y,j < i→l[j]?=some y→bS y r=true) (fun s=>l.length - s.toNat) (fun b=>b=(((l.takeWhile fun x=>bS x r).length:Nat):Int))
  (fun s ⟨i,e,h1,h2⟩=>by
   subst e
   unfold M_y
   by_cases hi:i < l.length
   · have e1:decide ((i:Int) < (l.length:Int))=true:=by simp [hi]
     have e2:l[i]?=some l[i]:=List.getElem?_eq_getElem hi
     rw [e1,cond_true,aY (by omega),Option.bind_some,Int.toNat_natCast,e2,Option.bind_some,vG _ _ (h _ (List.getElem_mem hi)),Option.bind_some]
     cases hc:bS l[i] r with
     | true =>
       left
       refine ⟨((i+1:Nat):Int),by rw [cond_true,aG (by omega) (by omega)]; rfl,⟨i+1,rfl,by omega,fun j y hj hy=>?_⟩,by simp; omega⟩
       by_cases hji:j=i
       · subst hji; rw [e2] at hy; cases hy; exact hc
       · exact h2 j y (by omega) hy
     | false =>
       right
       exact ⟨_,rfl,by rw [Ia _ l i h2 (by omega) (.inr ⟨_,e2,hc⟩)]⟩
   · have e1:decide ((i:Int) < (l.length:Int))=false:=by simp; omega
     right
     rw [e1]
     exact ⟨_,rfl,by rw [Ia _ l i h2 h1 (.inl (by omega))]⟩) N0 0 ⟨0,rfl,by omega,fun j y hj=>by omega⟩ (eo (by simp; omega))
 subst hq
 have hk:=Ss (fun x=>bS x r) l
 rw [hb,Option.bind_some,Int.toNat_natCast]
 rw [aY ⟨trivial,by omega,trivial,hk⟩,Option.bind_some]
 simp only [bnd]
 rw [vQ _ _ hk,wt _ _ hk,(fN _ l).1,(fN _ l).2]
 rw [aY (by omega),Option.bind_some]
 rw [aY (by omega),Option.bind_some]
 rw [aY ⟨by omega,trivial,hk,trivial⟩,Option.bind_some]
 have hd:(l.dropWhile fun x=>bS x r).length≤l.length:=by
  rw [← (fN _ l).2,List.length_drop]; omega
 rw [aY (by simp; omega),Option.bind_some]
 rfl
theorem mD (l:List Int) (hl:l.length≤1048576):rE l=some l:=by
 unfold rE
 rw [aY (by omega),Option.bind_some]
def RcS (n:ae) (s:Int) (D:Int→List Int→List Int→List (List Int)) (L:Nat) (rc:Int→Int→List ByteArray→List ar→List (List Int)→List Int→List Int→Option (List ByteArray×List ar×List (List Int)×List Int×List Int)):Prop :=
 ∀ a p q l,eK n s a p q→q.length=L+1→l.length≤61→(∀ x∈l,x.length≤14)→rc s a n.Nodes n.Fibers l p q=some (n.Nodes,n.Fibers,bH l (D a p q),p,q)
theorem oI {n:ae} (hn:bu n=true) {s a:Int} {p q:List Int} (h:eK n s a p q):p.length+1≤8:=by
 have h1:=h.le
 have h2:=h.len
 have:=bT hn
 omega
theorem ly:∀ (rs l:List (List Int)) (x:List Int),x∈bH l rs→x∈l∨x∈rs
 | [],l,x,h=>.inl h
 | r :: rs, l, x, h => by
   rcases ly rs (gI l r) x h with h | h
   · unfold gI at h
     split at h
     · rcases List.mem_cons.1 ((jE l r).mem_iff.1 h) with h | h
       · right; rw [h]; exact List.mem_cons_self
       · exact .inl h
     · exact .inl h
   · exact .inr (List.mem_cons_of_mem _ h)
def OkD (n:ae) (r:List Int):Prop:=(bI n r).isSome=true∧r.length≤8
theorem mU {n:ae} (hn:bu n=true) {s:Int} {D:Int→List Int→List Int→List (List Int)} {L:Nat} (hD:∀ a p q,eK n s a p q→q.length=L+1→∀ r∈D a p q,OkD n r)
 {a:Int} {p q:List Int} (h:eK n s a p q) (hq:q.length=L):∀ r∈gu n s D a p q,OkD n r:=by
 intro r hr
 unfold gu at hr
 rw [List.mem_flatMap] at hr
 obtain ⟨i,hi,hr⟩:=hr
 rw [List.mem_range] at hi
 unfold bF at hr
 split at hr
 · cases hr
 · rename_i h1
   rw [not_or] at h1
   split at hr
   · rename_i h2
     split at hr
     · rename_i h3
       rw [List.mem_singleton] at hr
       subst hr
       refine ⟨by rw [h.close hi h1.2 h2,if_pos h3]; rfl,?_⟩
       have:=oI hn h
       simp; omega
     · cases hr
   · rename_i h2
     split at hr
     · cases hr
     · rename_i h3
       exact hD _ _ _ (h.ext hn hi h1.2 h1.1 h2 h3) (by simp [hq]) r hr
theorem re {n:ae} (hn:bu n=true) {s:Int}:∀ (k:Nat) {a:Int} {p q:List Int},eK n s a p q→q.length+k=n.Nodes.length→∀ r∈gc n s k a p q,OkD n r
 | 0,a,p,q,h,hk=>mU hn (L:=q.length) (fun _ _ _ _ _ _ hr=>by cases hr) h rfl
 | k+1,a,p,q,h,hk=>mU hn (L:=q.length) (fun a' p' q' h' hq'=>re hn k h' (by omega)) h rfl
theorem qe {n:ae} (hn:bu n=true) {s:Int} {D:Int→List Int→List Int→List (List Int)} {L:Nat}
 {rc:Int→Int→List ByteArray→List ar→List (List Int)→List Int→List Int→Option (List ByteArray×List ar×List (List Int)×List Int×List Int)}
 (hrc:RcS n s D L rc) (hD:∀ a p q,eK n s a p q→q.length=L+1→∀ r∈D a p q,OkD n r) {a:Int} {p q:List Int} (h:eK n s a p q) (hq:q.length=L) (l0:List (List Int)) (hl0:l0.length≤61) (hx0:∀ x∈l0,x.length≤14) :
 vR rc s a n.Nodes n.Fibers l0 p q=some (n.Nodes,n.Fibers,bH l0 (gu n s D a p q),p,q):=by
 unfold vR
 have hF:=(bT hn).2.2
 have hpl:=oI hn h
 have hql:=h.len
 obtain ⟨b,hb,hQ⟩:=cz (f:=M_d s a p q rc) (fun t=>∃ i:Nat,t=((i:Int),n.Nodes,n.Fibers,bH l0 ((List.range i).flatMap (bF n s D a p q)))∧i≤n.Fibers.length) (fun t=>n.Fibers.length - t.1.toNat)
  (fun b=>b=(n.Nodes,n.Fibers,bH l0 (gu n s D a p q)))
  (fun t ⟨i,e,hi⟩=>by
   subst e
   obtain ⟨l,hl⟩:∃ l,l=bH l0 ((List.range i).flatMap (bF n s D a p q)):=⟨_,rfl⟩
   have hll:l.length≤61:=by rw [hl]; exact lO _ _ hl0
   have hlx:∀ x∈l,x.length≤14:=by
    intro x hx
    rw [hl] at hx
    rcases ly _ _ _ hx with hx | hx
    · exact hx0 x hx
    · obtain ⟨R,hR⟩:=km (bF n s D a p q) hi
      have:=(mU hn hD h hq x (by unfold gu; rw [hR]; exact List.mem_append_left _ hx)).2
      omega
   have hnext:bH l (bF n s D a p q i)=bH l0 ((List.range (i+1)).flatMap (bF n s D a p q)):=by rw [gB,lu,hl]
   rw [← hl]
   unfold M_d
   by_cases hi2:i < n.Fibers.length
   · have e1:decide ((i:Int) < (n.Fibers.length:Int))=true:=by simp [hi2]
     simp only [e1,cond_true,Option.bind_some]
     by_cases h6:l.length≤60
     · have e2:decide ((l.length:Int)≤60)=true:=by simp; omega
       simp only [e2,cond_true]
       have e3:qO (⟨n.Nodes,n.Fibers⟩:ae) (i:Int) a=some (bx n (i:Int) a):=jl n (i:Int) a (IV hi2)
       have e4:M_b p (i:Int)=some (decide ((i:Int)∈p)):=by rw [eO _ _ (by omega),fA]
       have e5:M_b q (bx n (i:Int) a)=some (decide (bx n (i:Int) a∈q)):=by rw [eO _ _ (by omega),fA]
       have w1:IntKind.wrap .i64 ((i:Int)+1)=((i+1:Nat):Int):=by rw [aG (by omega) (by omega)]; rfl
       have fin:∀ l',l'=bH l (bF n s D a p q i)→(∃ i':Nat,(((i+1:Nat):Int),n.Nodes,n.Fibers,l')=((i':Int),n.Nodes,n.Fibers,bH l0 ((List.range i').flatMap (bF n s D a p q)))∧i'≤n.Fibers.length) :=
        fun l' e=>⟨i+1,by rw [e,hnext],by omega⟩
       have fin2:∀ l',l'=bH l (bF n s D a p q i)→(n.Fibers.length - ((((i+1:Nat):Int),n.Nodes,n.Fibers,l'):Int×List ByteArray×List ar×List (List Int)).1.toNat < n.Fibers.length - (((i:Int),n.Nodes,n.Fibers,l):Int×List ByteArray×List ar×List (List Int)).1.toNat):=fun l' _=>by simp only [Int.toNat_natCast]; omega
       left
       simp only [e3,Option.bind_some,e4,w1]
       by_cases c1:bx n (i:Int) a < s
       · simp only [c1,decide_true,cond_true,Option.bind_some]
         have:l=bH l (bF n s D a p q i):=by unfold bF; rw [if_pos (.inl c1)]; rfl
         exact ⟨_,rfl,fin l this,fin2 l this⟩
       · simp only [c1,decide_false,cond_false,Option.bind_some]
         by_cases c2:(i:Int)∈p
         · simp only [c2,decide_true,cond_true]
           have:l=bH l (bF n s D a p q i):=by unfold bF; rw [if_pos (.inr c2)]; rfl
           exact ⟨_,rfl,fin l this,fin2 l this⟩
         · simp only [c2,decide_false,cond_false,mD p (by omega),Option.bind_some,bnd]
           rw [aY (by omega),Option.bind_some]
           have hne:¬ (bx n (i:Int) a < s∨(i:Int)∈p):=fun e=>e.elim c1 c2
           by_cases c3:bx n (i:Int) a=s
           · have e6:(bx n (i:Int) a==s)=true:=by rw [c3]; simp
             simp only [e6,cond_true]
             by_cases c4:2≤(p++[(i:Int)]).length
             · have e7:decide (1 < ((p++[(i:Int)]).length:Int))=true:=by rw [decide_eq_true_eq]; omega
               have hnd:(p++[(i:Int)]).Nodup:=by
                rw [List.nodup_append]
                exact ⟨h.nodup,by simp,fun x hx y hy e=>by rw [List.mem_singleton] at hy; subst hy; subst e; exact c2 hx⟩
               have e8:pu (p++[(i:Int)]).reverse (p++[(i:Int)])=some (!dT (p++[(i:Int)]) (p++[(i:Int)]).reverse):=by
                rw [lC _ _ (by simp) (by simp; omega),← pF]
                rw [pW]
                have:=yM hnd c4
                cases hd:mj (p++[(i:Int)]) (p++[(i:Int)]).reverse with
                | none=>rw [hd] at this; cases this
                | some q=>rfl
               simp only [e7,cond_true,ju (p++[(i:Int)]) (by simp; omega),Option.bind_some,e8,Bool.not_not]
               by_cases c5:dT (p++[(i:Int)]) (p++[(i:Int)]).reverse=true
               · simp only [c5,cond_true]
                 rw [JG l _ (fun x hx=>by have:=hlx x hx; omega) (by omega)]
                 simp only [Option.bind_some]
                 have:ml l (p++[(i:Int)])=bH l (bF n s D a p q i):=by
                  unfold bF; rw [if_neg hne,if_pos c3,if_pos ⟨c4,c5⟩]
                  show _=gI l _
                  unfold gI; rw [if_pos h6]
                 exact ⟨_,rfl,fin _ this,fin2 _ this⟩
               · simp only [Bool.not_eq_true] at c5
                 simp only [c5,cond_false,Option.bind_some]
                 have:l=bH l (bF n s D a p q i):=by
                  unfold bF; rw [if_neg hne,if_pos c3,if_neg (fun e=>by rw [c5] at e; exact Bool.noConfusion e.2)]; rfl
                 exact ⟨_,rfl,fin _ this,fin2 _ this⟩
             · have e7:decide (1 < ((p++[(i:Int)]).length:Int))=false:=by rw [decide_eq_false_iff_not]; omega
               simp only [e7,cond_false,Option.bind_some]
               have:l=bH l (bF n s D a p q i):=by
                unfold bF; rw [if_neg hne,if_pos c3,if_neg (fun e=>c4 e.1)]; rfl
               exact ⟨_,rfl,fin _ this,fin2 _ this⟩
           · have e6:(bx n (i:Int) a==s)=false:=by simp [c3]
             simp only [e6,cond_false,e5,Option.bind_some]
             by_cases c4:bx n (i:Int) a∈q
             · simp only [c4,decide_true,Bool.not_true,cond_false]
               have:l=bH l (bF n s D a p q i):=by
                unfold bF; rw [if_neg hne,if_neg c3,if_pos c4]; rfl
               exact ⟨_,rfl,fin _ this,fin2 _ this⟩
             · simp only [c4,decide_false,Bool.not_false,cond_true,mD q (by omega),Option.bind_some]
               rw [aY (by omega),Option.bind_some]
               rw [hrc _ _ _ l (h.ext hn hi2 c2 c1 c3 c4) (by simp [hq]) hll hlx,Option.bind_some]
               have:bH l (D (bx n (i:Int) a) (p++[(i:Int)]) (q++[bx n (i:Int) a]))=bH l (bF n s D a p q i):=by
                unfold bF; rw [if_neg hne,if_neg c3,if_neg c4]
               exact ⟨_,rfl,fin _ this,fin2 _ this⟩
     · have e2:decide ((l.length:Int)≤60)=false:=by simp; omega
       right
       simp only [e2,cond_false]
       refine ⟨_,rfl,?_⟩
       obtain ⟨R,hR⟩:=km (bF n s D a p q) hi
       have:bH l0 (gu n s D a p q)=l:=by
        unfold gu; rw [hR,lu,← hl,kl _ _ (by omega)]
       rw [this]
   · have e1:decide ((i:Int) < (n.Fibers.length:Int))=false:=by simp; omega
     right
     simp only [e1,cond_false,Option.bind_some]
     refine ⟨_,rfl,?_⟩
     have:i=n.Fibers.length:=by omega
     rw [hl,this]; rfl) N0 (0,n.Nodes,n.Fibers,l0) ⟨0,rfl,by omega⟩ (eo (by simp; omega))
 rw [hb,hQ]; rfl
theorem tI {n:ae} (hn:bu n=true) {s:Int}:∀ (k m:Nat),k < m→∀ {a:Int} {p q:List Int} (l:List (List Int)),eK n s a p q→q.length+k=n.Nodes.length→l.length≤61→(∀ x∈l,x.length≤14) →
 GX m s a n.Nodes n.Fibers l p q=some (n.Nodes,n.Fibers,bH l (gc n s k a p q),p,q)
 | 0, m + 1, _, a, p, q, l, h, hk, hl, hx => by
   show vR _ s a n.Nodes n.Fibers l p q=_
   exact qe hn (D:=fun _ _ _=>[]) (L:=q.length) (fun a' p' q' l' h' hq' _ _=>by have:=h'.le; omega) (fun _ _ _ _ _ _ hr=>by cases hr) h rfl l hl hx
 | k + 1, m + 1, hm, a, p, q, l, h, hk, hl, hx => by
   show vR _ s a n.Nodes n.Fibers l p q=_
   exact qe hn (D:=gc n s k) (L:=q.length) (fun a' p' q' l' h' hq' hl' hx'=>tI hn k m (by omega) l' h' (by omega) hl' hx') (fun a' p' q' h' hq'=>re hn k h' (by omega)) h rfl l hl hx
def ce (n:ae):List (List Int):=(List.range n.Nodes.length).flatMap fun v:Nat=>gc n (v:Int) (n.Nodes.length - 1) (v:Int) [] [(v:Int)]
theorem jn {n:ae} (hn:bu n=true):∀ r∈ce n,OkD n r:=by
 intro r hr
 unfold ce at hr
 rw [List.mem_flatMap] at hr
 obtain ⟨v,hv,hr⟩:=hr
 rw [List.mem_range] at hv
 exact re hn _ (eK.init hv) (by simp; omega) r hr
theorem Je (n:ae) (hn:bu n=true):GF n=some (bH [] (ce n)):=by
 unfold GF
 have hN:=bT hn
 obtain ⟨b,hb,hQ⟩:=cz (f:=GD n) (fun t=>∃ i:Nat,t=((i:Int),n.Nodes,n.Fibers,bH [] ((List.range i).flatMap fun v:Nat=>gc n (v:Int) (n.Nodes.length - 1) (v:Int) [] [(v:Int)]))∧i≤n.Nodes.length) (fun t=>n.Nodes.length - t.1.toNat)
  (fun b=>b=(n.Nodes,n.Fibers,bH [] (ce n)))
  (fun t ⟨i,e,hi⟩=>by
   subst e
   obtain ⟨l,hl⟩:∃ l,l=bH [] ((List.range i).flatMap fun v:Nat=>gc n (v:Int) (n.Nodes.length - 1) (v:Int) [] [(v:Int)]):=⟨_,rfl⟩
   have hll:l.length≤61:=by rw [hl]; exact lO _ _ (by simp)
   have hlx:∀ x∈l,x.length≤14:=by
    intro x hx
    rw [hl] at hx
    rcases ly _ _ _ hx with hx | hx
    · cases hx
    · obtain ⟨R,hR⟩:=km (fun v:Nat=>gc n (v:Int) (n.Nodes.length - 1) (v:Int) [] [(v:Int)]) hi
      have:=(jn hn x (by unfold ce; rw [hR]; exact List.mem_append_left _ hx)).2
      omega
   rw [← hl]
   unfold GD
   by_cases hi2:i < n.Nodes.length
   · have e1:decide ((i:Int) < (n.Nodes.length:Int))=true:=by simp [hi2]
     left
     simp only [e1,cond_true,bnd]
     rw [tI hn (n.Nodes.length - 1) N0 (eo (by omega)) l (eK.init hi2) (by simp; omega) hll hlx,Option.bind_some]
     refine ⟨_,rfl,⟨i+1,?_,by omega⟩,?_⟩
     · rw [aG (by omega) (by omega),gB,lu,hl]; rfl
     · simp only [Int.toNat_natCast]
       rw [aG (by omega) (by omega)]; omega
   · have e1:decide ((i:Int) < (n.Nodes.length:Int))=false:=by simp; omega
     right
     simp only [e1,cond_false]
     refine ⟨_,rfl,?_⟩
     have:i=n.Nodes.length:=by omega
     rw [hl,this]; rfl) N0 (0,n.Nodes,n.Fibers,[]) ⟨0,rfl,by omega⟩ (eo (by simp; omega))
 rw [hb,hQ]; rfl
end Vs

namespace Vs
open Go
theorem yG:IntKind.bits .i64=64:=rfl
theorem lc (a:Nat):BitVec.ofInt 64 (a:Int)=BitVec.ofNat 64 a:=by
 apply BitVec.eq_of_toNat_eq
 simp [BitVec.toNat_ofInt]
theorem borT (a b:Nat) (ha:a < 2 ^ 62) (hb:b < 2 ^ 62):bits .or .i64 (a:Int) (b:Int)=((a ||| b:Nat):Int):=by
 have hab:a ||| b < 2 ^ 62:=Nat.or_lt_two_pow ha hb
 show IntKind.wrap .i64 ((BitVec.ofInt 64 (a:Int) ||| BitVec.ofInt 64 (b:Int)).toNat:Int)=_
 rw [lc,lc,BitVec.toNat_or,BitVec.toNat_ofNat,BitVec.toNat_ofNat,Nat.mod_eq_of_lt (by omega),Nat.mod_eq_of_lt (by omega),aG (by omega) (by omega)]
theorem RO (m i:Nat) (hi:i < 64) (hm:m < 2 ^ 62):bits .and .i64 (Int.fdiv (m:Int) (2 ^ (min i (IntKind.bits .i64)))) 1=if m.testBit i then 1 else 0:=by
 have e1:min i (IntKind.bits .i64)=i:=by rw [yG]; omega
 have e2:Int.fdiv (m:Int) (2 ^ i)=((m / 2 ^ i:Nat):Int):=by
  rw [Int.fdiv_eq_ediv_of_nonneg _ (by exact_mod_cast Nat.zero_le (2 ^ i))]
  simp
 have hlt:m / 2 ^ i < 2 ^ 62:=Nat.lt_of_le_of_lt (Nat.div_le_self ..) hm
 rw [e1,e2]
 have e3:bits .and .i64 ((m / 2 ^ i:Nat):Int) 1=((m / 2 ^ i % 2:Nat):Int):=by
  show IntKind.wrap .i64 ((BitVec.ofInt 64 ((m / 2 ^ i:Nat):Int) &&& BitVec.ofInt 64 ((1:Nat):Int)).toNat:Int)=_
  rw [lc,lc,BitVec.toNat_and,BitVec.toNat_ofNat,BitVec.toNat_ofNat,Nat.mod_eq_of_lt (by omega),Nat.mod_eq_of_lt (by omega),Nat.and_one_is_mod,aG (by omega) (by omega)]
 rw [e3,Nat.testBit_eq_decide_div_mod_eq]
 have:=Nat.mod_two_eq_zero_or_one (m / 2 ^ i)
 rcases this with h | h <;> rw [h] <;> simp
theorem RQ (m i:Nat) (hi:i < 64) (hm:m < 2 ^ 62):(bits .and .i64 (Int.fdiv (m:Int) (2 ^ (min i (IntKind.bits .i64)))) 1==0)=!m.testBit i:=by
 rw [RO m i hi hm]
 cases m.testBit i <;> rfl
theorem NM (x:Nat) (hx:x < 62):IntKind.wrap .i64 (1 * 2 ^ (min x (IntKind.bits .i64)))=((2 ^ x:Nat):Int):=by
 have e1:min x (IntKind.bits .i64)=x:=by rw [yG]; omega
 have h:2 ^ x < 2 ^ 62:=Nat.pow_lt_pow_right (by omega) hx
 have e2:((1:Int) * 2 ^ x)=((2 ^ x:Nat):Int):=by simp
 have key:∀ q:Nat,q < 2 ^ 62→IntKind.wrap .i64 (q:Int)=(q:Int):=fun q hq=>aG (by omega) (by omega)
 rw [e1,e2,key _ h]
end Vs

namespace Vs
open Go
def Gw (m:Nat) (q:List Int):Prop:=m < 2 ^ 62∧∀ i:Nat,m.testBit i=decide ((i:Int)∈q)
def RcI (n:ae) (s:Int) (D:Int→List Int→List Int→List (List Int)) (L B:Nat) (rc:Int→Int→Int→List Int→ae→List (List Int)→Option (ae×List (List Int))):Prop :=
 ∀ a p q (m:Nat) l,eK n s a p q→q.length=L+1→Gw m q→l.length≤B→rc s a (m:Int) p n l=some (n,l++D a p q)
theorem SD (n:ae) {i:Nat} (hi:i < n.Fibers.length) (a:Int):((bJ n.Fibers (i:Int)).bind fun y=>pg y a)=some (bx n (i:Int) a):=by
 rw [aU,List.getElem?_eq_getElem hi,Option.bind_some,kg]
 unfold bx
 rw [Int.toNat_natCast,List.getElem?_eq_getElem hi]
theorem pL {n:ae} (hn:bu n=true) {s:Int} {D:Int→List Int→List Int→List (List Int)} {L B:Nat} (hB:B≤1000000000000)
 {rc:Int→Int→Int→List Int→ae→List (List Int)→Option (ae×List (List Int))}
 (hrc:RcI n s D L B rc) {c:Nat} (hc:1≤c) (hD:∀ a p q,(D a p q).length≤c) {a:Int} {p q:List Int} (h:eK n s a p q) (hq:q.length=L) {m:Nat} (hm:Gw m q) (l0:List (List Int)) (hl0:l0.length+14 * c≤B) :
 vJ rc s a (m:Int) p n l0=some (n,l0++gu n s D a p q):=by
 unfold vJ
 have hN:=bT hn
 have hF:=hN.2.2
 have hpl:=oI hn h
 obtain ⟨b,hb,hQ⟩:=cz (f:=M_c s a (m:Int) p n rc) (fun t=>∃ i:Nat,t=((i:Int),n,l0++(List.range i).flatMap (bF n s D a p q))∧i≤n.Fibers.length) (fun t=>n.Fibers.length - t.1.toNat)
  (fun b=>b=(n,l0++gu n s D a p q))
  (fun t ⟨i,e,hi⟩=>by
   subst e
   obtain ⟨l,hl⟩:∃ l,l=l0++(List.range i).flatMap (bF n s D a p q):=⟨_,rfl⟩
   have hll:l.length≤B:=by
    rw [hl,List.length_append]
    have:=gL (bF n s D a p q) c i fun j _=>lA hc hD a p q j
    have h2:i * c≤14 * c:=Nat.mul_le_mul_right _ (by omega)
    omega
   have hnext:l++bF n s D a p q i=l0++(List.range (i+1)).flatMap (bF n s D a p q):=by rw [gB,hl,List.append_assoc]
   rw [← hl]
   unfold M_c
   by_cases hi2:i < n.Fibers.length
   · have e1:decide ((i:Int) < (n.Fibers.length:Int))=true:=by simp [hi2]
     have hg:bJ n.Fibers (i:Int)=some n.Fibers[i]:=by rw [aU,List.getElem?_eq_getElem hi2]
     have e3:pg n.Fibers[i] a=some (bx n (i:Int) a):=by
      have:=SD n hi2 a
      rwa [hg,Option.bind_some] at this
     have e4:M_m p (i:Int)=some (decide ((i:Int)∈p)):=ie _ _ (by omega)
     have w1:IntKind.wrap .i64 ((i:Int)+1)=((i+1:Nat):Int):=by rw [aG (by omega) (by omega)]; rfl
     have fin:∀ l',l'=l++bF n s D a p q i→(∃ i':Nat,(((i+1:Nat):Int),n,l')=((i':Int),n,l0++(List.range i').flatMap (bF n s D a p q))∧i'≤n.Fibers.length) :=
      fun l' e=>⟨i+1,by rw [e,hnext],by omega⟩
     have fin2:∀ l':List (List Int),(n.Fibers.length - ((((i+1:Nat):Int),n,l'):Int×ae×List (List Int)).1.toNat < n.Fibers.length - (((i:Int),n,l):Int×ae×List (List Int)).1.toNat):=fun l'=>by simp only [Int.toNat_natCast]; omega
     left
     simp only [e1,cond_true,hg,Option.bind_some,e3,e4,w1]
     by_cases c1:bx n (i:Int) a < s
     · simp only [c1,decide_true,cond_true,Option.bind_some]
       have:l=l++bF n s D a p q i:=by unfold bF; rw [if_pos (.inl c1),List.append_nil]
       exact ⟨_,rfl,fin l this,fin2 l⟩
     · simp only [c1,decide_false,cond_false,Option.bind_some]
       by_cases c2:(i:Int)∈p
       · simp only [c2,decide_true,cond_true]
         have:l=l++bF n s D a p q i:=by unfold bF; rw [if_pos (.inr c2),List.append_nil]
         exact ⟨_,rfl,fin l this,fin2 l⟩
       · simp only [c2,decide_false,cond_false,bnd]
         rw [aY (by omega),Option.bind_some]
         have hne:¬ (bx n (i:Int) a < s∨(i:Int)∈p):=fun e=>e.elim c1 c2
         have hs:=h.s0
         obtain ⟨ho,_⟩:=yx hn hi2 (a:=a) (by omega)
         by_cases c3:bx n (i:Int) a=s
         · have e6:(bx n (i:Int) a==s)=true:=by rw [c3]; simp
           simp only [e6,cond_true]
           obtain ⟨w,hw,_⟩:=lj n (p++[(i:Int)]) (by omega) (by simp; omega)
           rw [hw,Option.bind_some]
           rw [h.close hi2 c2 c3]
           by_cases c4:2≤(p++[(i:Int)]).length∧dT (p++[(i:Int)]) (p++[(i:Int)]).reverse=true
           · rw [if_pos c4]
             simp only [Option.isSome_some,cond_true]
             rw [aY (by omega),Option.bind_some]
             have:l++[p++[(i:Int)]]=l++bF n s D a p q i:=by
              unfold bF; rw [if_neg hne,if_pos c3,if_pos c4]
             exact ⟨_,rfl,fin _ this,fin2 _⟩
           · rw [if_neg c4]
             simp only [Option.isSome_none,cond_false]
             have:l=l++bF n s D a p q i:=by
              unfold bF; rw [if_neg hne,if_pos c3,if_neg c4,List.append_nil]
             exact ⟨_,rfl,fin _ this,fin2 _⟩
         · have e6:(bx n (i:Int) a==s)=false:=by simp [c3]
           obtain ⟨x,hx⟩:∃ x:Nat,bx n (i:Int) a=(x:Int):=⟨(bx n (i:Int) a).toNat,by omega⟩
           have hx8:x < 8:=by omega
           simp only [e6,cond_false]
           rw [aY (by omega),Option.bind_some]
           rw [hx,Int.toNat_natCast,RQ m x (by omega) hm.1,hm.2 x,← hx]
           by_cases c4:bx n (i:Int) a∈q
           · simp only [c4,decide_true,Bool.not_true,cond_false]
             have:l=l++bF n s D a p q i:=by
              unfold bF; rw [if_neg hne,if_neg c3,if_pos c4,List.append_nil]
             exact ⟨_,rfl,fin _ this,fin2 _⟩
           · simp only [c4,decide_false,Bool.not_false,cond_true]
             rw [Option.bind_some,NM x (by omega),borT m _ hm.1 (Nat.pow_lt_pow_right (by omega) (by omega))]
             have hb':Gw (m ||| 2 ^ x) (q++[bx n (i:Int) a]):=by
              refine ⟨Nat.or_lt_two_pow hm.1 (Nat.pow_lt_pow_right (by omega) (by omega)),fun j=>?_⟩
              rw [Nat.testBit_or,Nat.testBit_two_pow,hm.2 j]
              by_cases hj:x=j
              · subst hj; simp [hx]
              · have:¬ ((j:Int)=bx n (i:Int) a):=by omega
                simp [hj,this]
             rw [hrc _ _ _ _ l (h.ext hn hi2 c2 c1 c3 c4) (by simp [hq]) hb' hll,Option.bind_some]
             have:l++D (bx n (i:Int) a) (p++[(i:Int)]) (q++[bx n (i:Int) a])=l++bF n s D a p q i:=by
              unfold bF; rw [if_neg hne,if_neg c3,if_neg c4]
             exact ⟨_,rfl,fin _ this,fin2 _⟩
   · have e1:decide ((i:Int) < (n.Fibers.length:Int))=false:=by simp; omega
     right
     simp only [e1,cond_false]
     refine ⟨_,rfl,?_⟩
     have:i=n.Fibers.length:=by omega
     rw [hl,this]; rfl) N0 (0,n,l0) ⟨0,by simp,by omega⟩ (eo (by simp; omega))
 rw [hb,hQ]; rfl
theorem OC {n:ae} (hn:bu n=true) {s:Int}:∀ (k f:Nat),k < f→∀ {a:Int} {p q:List Int} {m:Nat} (l:List (List Int)),eK n s a p q→q.length+k=n.Nodes.length→Gw m q→l.length+2 * 14 ^ (k+1)≤1000000000000 →
 GO f s a (m:Int) p n l=some (n,l++gc n s k a p q)
 | 0, f + 1, _, a, p, q, m, l, h, hk, hm, hl => by
   show vJ _ s a (m:Int) p n l=_
   exact pL hn (D:=fun _ _ _=>[]) (L:=q.length) (B:=l.length+14 * 1) (by omega) (fun a' p' q' m' l' h' hq' _ _=>by have:=h'.le; omega) (Nat.le_refl 1) (fun _ _ _=>by simp) h rfl hm l (Nat.le_refl _)
 | k + 1, f + 1, hf, a, p, q, m, l, h, hk, hm, hl => by
   show vJ _ s a (m:Int) p n l=_
   have h1:1≤14 ^ (k+1):=Nat.pow_pos (by omega)
   rw [Nat.pow_succ 14 (k+1)] at hl
   exact pL hn (D:=gc n s k) (L:=q.length) (B:=l.length+14 * 14 ^ (k+1)) (by omega) (fun a' p' q' m' l' h' hq' hm' hl'=>OC hn k f (by omega) l' h' (by omega) hm' (by omega)) h1 (kZ (bT hn).2.2 k) h rfl hm l (Nat.le_refl _)
theorem Dq (v:Nat) (hv:v < 62):Gw (2 ^ v) [(v:Int)]:=by
 refine ⟨Nat.pow_lt_pow_right (by omega) hv,fun i=>?_⟩
 rw [Nat.testBit_two_pow]
 by_cases h:v=i
 · simp [h]
 · have:¬ ((i:Int)=v):=by omega
   simp [h,this]
theorem DT (n:ae) (hn:bu n=true):aZ (CH n) N0 (0,n,[])=some (ce n):=by
 have hN:=bT hn
 have hE:∀ k,k < n.Nodes.length→14 ^ (k+1)≤14 ^ 8:=fun k hk=>Nat.pow_le_pow_right (by omega) (by omega)
 obtain ⟨C,h8,hC⟩:∃ C:Nat,14 ^ 8≤C∧C≤2000000000:=⟨14 ^ 8,Nat.le_refl _,by simp⟩
 obtain ⟨b,hb,hQ⟩:=cz (f:=CH n) (fun t=>∃ i:Nat,t=((i:Int),n,(List.range i).flatMap fun v:Nat=>gc n (v:Int) (n.Nodes.length - 1) (v:Int) [] [(v:Int)])∧i≤n.Nodes.length) (fun t=>n.Nodes.length - t.1.toNat)
  (fun b=>b=ce n)
  (fun t ⟨i,e,hi⟩=>by
   subst e
   unfold CH
   by_cases hi2:i < n.Nodes.length
   · have e1:decide ((i:Int) < (n.Nodes.length:Int))=true:=by simp [hi2]
     left
     simp only [e1,cond_true]
     have hlen:((List.range i).flatMap fun v:Nat=>gc n (v:Int) (n.Nodes.length - 1) (v:Int) [] [(v:Int)]).length≤16000000000:=by
      have h3:∀ v:Nat,(gc n (v:Int) (n.Nodes.length - 1) (v:Int) [] [(v:Int)]).length≤C:=fun v=>by
       have:=kZ (n:=n) (s:=(v:Int)) hN.2.2 (n.Nodes.length - 1) (v:Int) [] [(v:Int)]
       have:=hE (n.Nodes.length - 1) (by omega)
       omega
      have:=gL (fun v:Nat=>gc n (v:Int) (n.Nodes.length - 1) (v:Int) [] [(v:Int)]) C i fun j _=>h3 j
      have h5:i * C≤8 * C:=Nat.mul_le_mul_right _ (by omega)
      omega
     have hp:=OC hn (s:=(i:Int)) (n.Nodes.length - 1) (N0+1) (by have:=eo (n:=n.Nodes.length) (by omega); omega) (m:=2 ^ i) ((List.range i).flatMap fun v:Nat=>gc n (v:Int) (n.Nodes.length - 1) (v:Int) [] [(v:Int)]) (eK.init hi2) (by simp; omega) (Dq i (by omega)) (by
      have:=hE (n.Nodes.length - 1) (by omega)
      omega)
     have hs:Ma (i:Int) (i:Int) ((2 ^ i:Nat):Int) [] n ((List.range i).flatMap fun v:Nat=>gc n (v:Int) (n.Nodes.length - 1) (v:Int) [] [(v:Int)])=_:=hp
     rw [aY (by omega),Option.bind_some,Int.toNat_natCast,NM i (by omega),hs,Option.bind_some]
     refine ⟨_,rfl,⟨i+1,?_,by omega⟩,?_⟩
     · rw [aG (by omega) (by omega),gB]; rfl
     · simp only [Int.toNat_natCast]
       rw [aG (by omega) (by omega)]; omega
   · have e1:decide ((i:Int) < (n.Nodes.length:Int))=false:=by simp; omega
     right
     simp only [e1,cond_false]
     refine ⟨_,rfl,?_⟩
     have:i=n.Nodes.length:=by omega
     rw [this]; rfl) N0 (0,n,[]) ⟨0,rfl,by omega⟩ (eo (by simp; omega))
 rw [hb,hQ]
theorem vx {n:ae} (hn:bu n=true):(ce n).length≤16000000000:=by
 have hN:=bT hn
 obtain ⟨C,h8,hC⟩:∃ C:Nat,14 ^ 8≤C∧C≤2000000000:=⟨14 ^ 8,Nat.le_refl _,by simp⟩
 have h3:∀ v:Nat,(gc n (v:Int) (n.Nodes.length - 1) (v:Int) [] [(v:Int)]).length≤C:=fun v=>by
  have:=kZ (n:=n) (s:=(v:Int)) hN.2.2 (n.Nodes.length - 1) (v:Int) [] [(v:Int)]
  have:14 ^ (n.Nodes.length - 1+1)≤14 ^ 8:=Nat.pow_le_pow_right (by omega) (by omega)
  omega
 have:=gL (fun v:Nat=>gc n (v:Int) (n.Nodes.length - 1) (v:Int) [] [(v:Int)]) C n.Nodes.length fun j _=>h3 j
 have h5:n.Nodes.length * C≤8 * C:=Nat.mul_le_mul_right _ hN.2.1
 unfold ce
 omega
theorem wr (a b:List Int) (hl:a.length≤1048576):∃ r,oy a b=some r:=by
 unfold oy
 obtain ⟨x,hx,_⟩:=cz (f:=M_g a b) (fun t=>∃ i:Nat,t=(i:Int)∧i≤a.length) (fun t=>a.length - t.toNat) (fun _=>True)
  (fun t ⟨i,e,hi⟩=>by
   subst e
   unfold M_g
   by_cases h1:i < a.length
   · have e1:decide ((i:Int) < (a.length:Int))=true:=by simp [h1]
     rw [e1,cond_true,aU,List.getElem?_eq_getElem h1,Option.bind_some]
     by_cases h2:b.length≤i
     · have e2:decide ((b.length:Int)≤(i:Int))=true:=by simp [h2]
       right
       rw [e2]
       exact ⟨_,rfl,trivial⟩
     · have e2:decide ((b.length:Int)≤(i:Int))=false:=by simp; omega
       rw [e2,cond_false,aU,List.getElem?_eq_getElem (by omega:i < b.length),Option.bind_some,pX,Option.bind_some]
       cases (cq a[i] (b[i]'(by omega)) != 0) with
       | true=>right; exact ⟨_,rfl,trivial⟩
       | false =>
         left
         refine ⟨_,rfl,⟨i+1,by rw [aG (by omega) (by omega)]; rfl,by omega⟩,?_⟩
         rw [aG (by omega) (by omega)]
         simp only [Int.toNat_natCast]; omega
   · have e1:decide ((i:Int) < (a.length:Int))=false:=by simp; omega
     right
     rw [e1]
     exact ⟨_,rfl,trivial⟩) N0 0 ⟨0,rfl,by omega⟩ (eo (by simp; omega))
 rw [hx,Option.bind_some]
 cases x with
 | inr v=>exact ⟨v,rfl⟩
 | inl u =>
   cases decide ((a.length:Int) < (b.length:Int)) with
   | true=>exact ⟨_,rfl⟩
   | false=>exact ⟨_,rfl⟩
theorem RF (x y:Int):pn [x,y]=some (if x=0 then y else x):=by
 unfold pn
 have key:=cg (f:=M_e [x,y]) [x,y] (fun _ x=>x != 0) (fun _ x=>x) () (fun i z hz _=>by
  have hlt:=(List.getElem?_eq_some_iff.1 hz).1
  have h1:decide ((i:Int) < (([x,y]:List Int).length:Int))=true:=by simp only [decide_eq_true_eq]; omega
  simp only [M_e,h1,cond_true,aU,hz,Option.bind_some]
  rw [aG (by omega) (by simp at hlt; omega)]
  cases z != 0 <;> rfl) (by simp [M_e]) (by simp)
 rw [key]
 by_cases h1:x=0
 · by_cases h2:y=0
   · subst h1; subst h2; rfl
   · have:(y != 0)=true:=bne_iff_ne.2 h2
     simp [bv,h1,this]
 · have:(x != 0)=true:=bne_iff_ne.2 h1
   simp [bv,h1,this]
theorem p_c2 (a b:List Int) (ha:a.length≤1048576) (hb:b.length≤1048576):∃ r,rD a b=some r∧decide (r < 0)=bS a b:=by
 unfold rD
 obtain ⟨r,hr⟩:=wr a b ha
 simp only [pX,Option.bind_some,hr,bnd,RF]
 refine ⟨_,rfl,?_⟩
 unfold bS
 by_cases h:a.length=b.length
 · rw [if_pos h]
   obtain ⟨r',h1,h2⟩:=nC a b h ha
   rw [hr] at h1
   cases h1
   rw [if_pos (by rw [h]; unfold cq; simp),h2]
 · rw [if_neg h]
   unfold cq
   by_cases h2:a.length < b.length
   · have e1:(a.length:Int) < (b.length:Int):=by omega
     simp [e1,h2]
   · have e1:¬ (a.length:Int) < (b.length:Int):=by omega
     have e2:(b.length:Int) < (a.length:Int):=by omega
     simp [e1,e2,h2]
def cfR (a b:List Int):Int:=(rD a b).getD 0
theorem MU (n:ae) (hn:bu n=true):∃ ys,EK n=some ys∧ys.Perm (ce n)∧ys.Pairwise (fun a b=>bS b a=false):=by
 unfold EK
 rw [DT n hn,Option.bind_some]
 have hlen:=vx hn
 have hk:∀ x∈ce n,∀ y∈ce n,rD x y=some (cfR x y)∧(cfR x y < 0↔bS x y=true):=by
  intro x hx y hy
  have h1:=(jn hn x hx).2
  have h2:=(jn hn y hy).2
  obtain ⟨r,h3,h4⟩:=p_c2 x y (by omega) (by omega)
  unfold cfR
  rw [h3]
  exact ⟨rfl,by rw [← h4]; simp⟩
 obtain ⟨ys,h1,h2,h3⟩:=oC (cmp:=fun x0 x1=>rD x0 x1) (xs:=ce n) cfR (by omega) (fun x hx y hy=>(hk x hx y hy).1)
  (fun x hx=>by rw [(hk x hx x hx).2,qh]; simp)
  (fun x hx y hy z hz a b=>(hk x hx z hz).2.2 (iL ((hk x hx y hy).2.1 a) ((hk y hy z hz).2.1 b)))
  (fun x hx y hy z hz a b=>by
   rw [(hk x hx y hy).2,Bool.not_eq_true] at a
   rw [(hk y hy z hz).2,Bool.not_eq_true] at b
   rw [(hk x hx z hz).2,Bool.not_eq_true]
   exact la a b)
 rw [h1]
 refine ⟨ys,rfl,h2,?_⟩
 refine List.Pairwise.imp_of_mem ?_ h3
 intro a b ha hb hab
 rw [(hk b (h2.mem_iff.1 hb) a (h2.mem_iff.1 ha)).2,Bool.not_eq_true] at hab
 exact hab
def arP (n:ae):List (List Int)×Bool:=if bu n then (if (ce n).length≤60 then (bH [] (ce n),true) else ([],false)) else ([],false)
theorem rM {n:ae}:(bH [] (ce n)).Pairwise (fun a b=>bS b a=false)∧(if (ce n).length≤61 then (bH [] (ce n)).Perm (ce n) else (bH [] (ce n)).length=61):=by
 have:=oT (ce n) [] List.Pairwise.nil (by simp)
 simpa using this
theorem mr (n:ae) (hz:bz n≤1048576):HY n=some (arP n):=by
 unfold HY arP
 rw [dm n hz,Option.bind_some]
 cases hn:bu n with
 | false=>rfl
 | true =>
   obtain ⟨ys,h1,h2,h3⟩:=MU n hn
   simp only [Bool.not_true,cond_false,h1,Option.bind_some,if_true]
   have hl:=h2.length_eq
   obtain ⟨q1,q2⟩:=rM (n:=n)
   by_cases h6:(ce n).length≤60
   · have e:decide (60 < (ys.length:Int))=false:=by simp; omega
     rw [if_pos (by omega)] at q2
     rw [e,cond_false,if_pos h6,DB ys _ (h2.trans q2.symm) h3 q1]
   · have e:decide (60 < (ys.length:Int))=true:=by simp; omega
     rw [e,cond_true,if_neg h6]
theorem iG (n:ae) (hz:bz n≤1048576):zF n=some ((arP n).2,(arP n).1):=by
 unfold zF arP
 rw [nP n hz,Option.bind_some]
 cases hn:bu n with
 | false=>rfl
 | true =>
   simp only [Bool.not_true,cond_false,Je n hn,Option.bind_some,if_true]
   obtain ⟨q1,q2⟩:=rM (n:=n)
   by_cases h6:(ce n).length≤60
   · rw [if_pos (by omega)] at q2
     have:=q2.length_eq
     have e:decide (60 < ((bH [] (ce n)).length:Int))=false:=by simp; omega
     rw [e,cond_false,if_pos h6]
   · have:60 < (bH [] (ce n)).length:=by
      split at q2
      · have:=q2.length_eq; omega
      · omega
     have e:decide (60 < ((bH [] (ce n)).length:Int))=true:=by simp; omega
     rw [e,cond_true,if_neg h6]
theorem HL {n:ae} (h:(arP n).2=true):bu n=true∧(arP n).1.length≤60∧∀ r∈(arP n).1,OkD n r:=by
 unfold arP at h ⊢
 cases hn:bu n with
 | false=>rw [hn] at h; cases h
 | true =>
   rw [hn] at h
   simp only [if_true] at h ⊢
   by_cases h6:(ce n).length≤60
   · rw [if_pos h6]
     obtain ⟨q1,q2⟩:=rM (n:=n)
     rw [if_pos (by omega)] at q2
     exact ⟨trivial,by have:=q2.length_eq; simp only; omega,fun r hr=>jn hn r (q2.mem_iff.1 hr)⟩
   · rw [if_neg h6] at h; cases h
end Vs

namespace Vs
open Go
structure ck (c:ax) (m:Nat):Prop where
 by8:∀ x∈c.code,0≤x∧x≤255
 len:c.code.length≤65536
 at0:0≤c.atF
 atm:c.atF≤(m:Int)
theorem Py (x:Int):0≤bits .and .u64 x 255∧bits .and .u64 x 255≤255:=by
 have h:(BitVec.ofInt (IntKind.bits .u64) x &&& BitVec.ofInt (IntKind.bits .u64) 255).toNat≤255:=by
  rw [BitVec.toNat_and]
  exact Nat.le_trans Nat.and_le_right (by decide)
 unfold bits
 simp only
 generalize (BitVec.ofInt (IntKind.bits .u64) x &&& BitVec.ofInt (IntKind.bits .u64) 255).toNat=k at h
 have:IntKind.wrap .u64 (k:Int)=(k:Int):=by
  unfold IntKind.wrap
  simp [IntKind.bits,IntKind.signed]
  omega
 rw [this]; omega
theorem FM {c:ax} {m:Nat} (h:ck c m) (hm:m≤1000000000000):∃ b c',zW c=some (b,c')∧0≤b∧b≤255∧ck c' (m+1):=by
 obtain ⟨h1,h2,h3,h4⟩:=h
 have hb:∃ b,(cond (decide (c.atF < (c.code.length:Int))) ((bJ c.code c.atF).bind fun yZ2=>some (IntKind.wrap .i64 yZ2)) (some 0):Option Int)=some b∧0≤b∧b≤255:=by
  by_cases e:c.atF < (c.code.length:Int)
  · rw [decide_eq_true e,cond_true]
    have hlt:c.atF.toNat < c.code.length:=by omega
    have hg:bJ c.code c.atF=some c.code[c.atF.toNat]:=by
     unfold bJ; rw [if_pos h3]; exact List.getElem?_eq_getElem hlt
    have:=h1 _ (List.getElem_mem hlt)
    rw [hg]
    refine ⟨c.code[c.atF.toNat],?_,this.1,this.2⟩
    simp only [Option.bind_some]
    rw [aG (by omega) (by omega)]
  · rw [decide_eq_false e,cond_false]; exact ⟨0,rfl,by omega,by omega⟩
 obtain ⟨b,b1,b2,b3⟩:=hb
 unfold zW
 rw [b1]
 simp only [Option.bind_some]
 rw [aG (n:=c.atF+1) (by omega) (by omega)]
 by_cases e:c.atF+1≤(c.code.length:Int)
 · rw [decide_eq_true e,cond_true]
   exact ⟨_,_,rfl,b2,b3,⟨h1,h2,by simp only; omega,by simp only; omega⟩⟩
 · rw [decide_eq_false e,cond_false]
   have h5:=Py (Int.fdiv (IntKind.wrap .u64 ((IntKind.wrap .u64 ((IntKind.wrap .u64 (c.seed * 6364136223846793005))+(IntKind.wrap .u64 b)))+897897)) (2 ^ (min (Int.toNat 40) (IntKind.bits .u64))))
   refine ⟨_,_,rfl,?_,?_,⟨h1,h2,by simp only; omega,by simp only; omega⟩⟩
   · rw [aG (by omega) (by omega)]; exact h5.1
   · rw [aG (by omega) (by omega)]; exact h5.2
theorem cP {c:ax} {m:Nat} (n:Int) (h:ck c m) (hm:m≤100000000000):∃ x c',M_a n c=some (x,c')∧0≤x∧(x < n∨x=0)∧ck c' (m+2):=by
 unfold M_a
 by_cases e:n≤1
 · rw [decide_eq_true e,cond_true]
   exact ⟨0,c,rfl,by omega,.inr rfl,⟨h.by8,h.len,h.at0,by have:=h.atm; omega⟩⟩
 · rw [decide_eq_false e,cond_false]
   obtain ⟨b,c1,g1,g2,g3,g4⟩:=FM h (by omega)
   rw [g1]
   simp only [Option.bind_some]
   by_cases e2:200 < n
   · rw [decide_eq_true e2,cond_true]
     obtain ⟨b',c2,k1,k2,k3,k4⟩:=FM g4 (by omega)
     rw [k1]
     simp only [Option.bind_some]
     rw [aY (by omega)]
     simp only [Option.bind_some]
     refine ⟨_,_,rfl,?_,.inl ?_,k4⟩
     · rw [aG (n:=b * 256) (by omega) (by omega),aG (by omega) (by omega)]
       exact Int.tmod_nonneg _ (by omega)
     · exact Int.tmod_lt_of_pos _ (by omega)
   · rw [decide_eq_false e2,cond_false,aY (by omega)]
     simp only [Option.bind_some]
     exact ⟨_,_,rfl,Int.tmod_nonneg _ g2,.inl (Int.tmod_lt_of_pos _ (by omega)),⟨g4.by8,g4.len,g4.at0,by have:=g4.atm; omega⟩⟩
theorem ck.up {c:ax} {m k:Nat} (h:ck c m) (hk:m≤k):ck c k:=⟨h.by8,h.len,h.at0,by have:=h.atm; omega⟩
theorem RZ {c:ax} {m:Nat} (n:Int) (h:ck c m) (hm:m≤100000000000):∃ b c',CI n c=some (b,c')∧ck c' (m+2):=by
 obtain ⟨x,c1,g1,g2,g3,g4⟩:=cP n h hm
 unfold CI
 rw [g1]
 exact ⟨_,_,rfl,g4⟩
theorem kX {c:ax} {m:Nat} (l:List Int) (h:ck c m) (hm:m≤100000000000) (hl:0 < l.length):∃ x c',sF c l=some (x,c',l)∧x∈l∧ck c' (m+2):=by
 obtain ⟨i,c1,g1,g2,g3,g4⟩:=cP (l.length:Int) h hm
 unfold sF
 rw [g1]
 simp only [Option.bind_some]
 have hi:i.toNat < l.length:=by omega
 rw [aY (by omega)]
 simp only [Option.bind_some,List.getElem?_eq_getElem hi]
 exact ⟨_,_,rfl,List.getElem_mem hi,g4⟩
theorem Sm {c:ax} {m:Nat} (l:List ByteArray) (h:ck c m) (hm:m≤100000000000) (hl:0 < l.length):∃ x c',Es c l=some (x,c',l)∧x∈l∧ck c' (m+2):=by
 obtain ⟨i,c1,g1,g2,g3,g4⟩:=cP (l.length:Int) h hm
 unfold Es
 rw [g1]
 simp only [Option.bind_some]
 have hi:i.toNat < l.length:=by omega
 rw [aY (by omega)]
 simp only [Option.bind_some,List.getElem?_eq_getElem hi]
 exact ⟨_,_,rfl,List.getElem_mem hi,g4⟩
end Vs

namespace Vs
open Go
theorem AM (f g:ar):∃ r,uf f g=some r:=by
 unfold uf
 cases (f.A != g.A)
 · cases (f.B != g.B)
   · cases (f.Length != g.Length) <;> exact ⟨_,rfl⟩
   · exact ⟨_,rfl⟩
 · exact ⟨_,rfl⟩
theorem yv (a b:Int):∃ r,BX a b=some r:=by
 unfold BX
 cases decide (a < b) <;> exact ⟨_,rfl⟩
theorem FS (a b:Int):∃ r,rQ a b=some r∧a≤r∧b≤r∧(r=a∨r=b):=by
 unfold rQ
 by_cases h:b < a
 · rw [decide_eq_true h,cond_true]; exact ⟨a,rfl,by omega,by omega,.inl rfl⟩
 · rw [decide_eq_false h,cond_false]; exact ⟨b,rfl,by omega,by omega,.inr rfl⟩
theorem xV (l:List ar) (f:ar) (hl:l.length≤1048576):∃ l',CG l f=some l'∧l'.length=l.length+1:=by
 obtain ⟨o,o1,i,rfl,o3⟩:=cz (f:=M_p l f) (fun s=>∃ i:Nat,s=i∧i≤l.length) (fun s=>l.length - s.toNat) (fun o=>∃ i:Nat,o=(i:Int)∧i≤l.length) (fun s hI=>by
  obtain ⟨i,rfl,hi⟩:=hI
  by_cases h:i < l.length
  · obtain ⟨r,hr⟩:=AM l[i] f
    simp only [M_p,decide_eq_true (show (i:Int) < (l.length:Int) by omega),cond_true,aU,List.getElem?_eq_getElem h,Option.bind_some,hr]
    by_cases h2:r≤0
    · left
      rw [decide_eq_true h2,cond_true,aG (n:=(i:Int)+1) (by omega) (by omega)]
      exact ⟨_,rfl,⟨i+1,by simp,by omega⟩,by omega⟩
    · right
      rw [decide_eq_false h2,cond_false]
      exact ⟨_,rfl,i,rfl,hi⟩
  · right
    simp only [M_p,decide_eq_false (show ¬ (i:Int) < (l.length:Int) by omega),cond_false]
    exact ⟨_,rfl,i,rfl,hi⟩) N0 0 ⟨0,rfl,by omega⟩ (eo (by omega))
 unfold CG
 rw [o1]
 simp only [Option.bind_some,slT,slF,Int.toNat_natCast,bnd]
 rw [if_pos ⟨by omega,o3⟩,if_pos ⟨by omega,o3⟩]
 simp only [Option.bind_some]
 rw [aY (by simp; omega),]
 simp only [Option.bind_some]
 rw [aY (by simp; omega)]
 simp only [Option.bind_some]
 rw [aY (by simp; omega)]
 exact ⟨_,rfl,by simp; omega⟩
theorem Aw {c:ax} {m:Nat} (x:Int) (c0:ax) (hx:0≤x∧x < 5) (i:Int) (hi:0≤i∧i < 2+x) (fs:List ar) (hf:fs.length≤1000) (h:ck c m) (hm:m≤10000000000) :
 ∃ fs' c',M_j (x,c0) (i,fs,c)=some (.inl (i+1,fs',c'))∧fs'.length≤fs.length+1∧ck c' (m+6):=by
 obtain ⟨b,c1,hb,hc⟩:∃ b c1,(cond (i==Int.tmod (i+1) (2+x)) (some (true,c)) ((CI 10 c).bind fun rZ10=>some (rZ10.1,rZ10.2)):Option (Bool×ax))=some (b,c1)∧ck c1 (m+2):=by
  cases (i==Int.tmod (i+1) (2+x))
  · obtain ⟨b,c1,g1,g2⟩:=RZ 10 h (by omega)
    exact ⟨b,c1,by rw [cond_false,g1]; rfl,g2⟩
  · exact ⟨true,c,rfl,h.up (by omega)⟩
 simp only [M_j,aG (n:=2+x) (by omega) (by omega),aG (n:=i+1) (by omega) (by omega),decide_eq_true hi.2,cond_true,aY (show (2+x) ≠ 0 by omega),Option.bind_some,hb]
 cases b with
 | true=>exact ⟨fs,c1,rfl,by omega,hc.up (by omega)⟩
 | false =>
   obtain ⟨a1,ha1⟩:=yv i (Int.tmod (i+1) (2+x))
   obtain ⟨a2,ha2,_⟩:=FS i (Int.tmod (i+1) (2+x))
   obtain ⟨x8,c2,g1,g2,g3,g4⟩:=cP 8 hc (by omega)
   obtain ⟨rk,c3,k1,k2,k3⟩:=kX [0,0,0,1,2] g4 (by omega) (by simp)
   obtain ⟨l',l1,l2⟩:=xV fs ⟨a1,a2,IntKind.wrap .i64 (100 * (IntKind.wrap .i64 (1+x8))),rk⟩ (by omega)
   simp only [cond_false,ha1,ha2,g1,bnd,k1,l1,Option.bind_some]
   exact ⟨l',c3,rfl,by omega,k3.up (by omega)⟩
theorem zr {c:ax} {m:Nat} (x:Int) (c0:ax) (hx:0≤x∧x < 5) (i:Int) (hi:0 < i∧i≤10) (fs:List ar) (hf:fs.length≤1000) (h:ck c m) (hm:m≤10000000000) :
 ∃ fs' c',M_k (x,c0) (i,fs,c)=some (.inl (i - 1,fs',c'))∧fs'.length≤fs.length+1∧ck c' (m+8):=by
 obtain ⟨p,c1,p1,p2,p3,p4⟩:=cP (2+x) h (by omega)
 obtain ⟨q,c2,q1,q2,q3,q4⟩:=cP (2+x) p4 (by omega)
 simp only [M_k,aG (n:=2+x) (by omega) (by omega),aG (n:=i - 1) (by omega) (by omega),decide_eq_true hi.1,cond_true,Option.bind_some,p1,q1]
 cases (p != q) with
 | false=>exact ⟨fs,c2,rfl,by omega,q4.up (by omega)⟩
 | true =>
   obtain ⟨a1,ha1⟩:=yv p q
   obtain ⟨a2,ha2,_⟩:=FS p q
   obtain ⟨x8,c2',g1,g2,g3,g4⟩:=cP 8 q4 (by omega)
   obtain ⟨rk,c3,k1,k2,k3⟩:=kX [0,0,0,1,2] g4 (by omega) (by simp)
   obtain ⟨l',l1,l2⟩:=xV fs ⟨a1,a2,IntKind.wrap .i64 (100 * (IntKind.wrap .i64 (1+x8))),rk⟩ (by omega)
   simp only [cond_true,ha1,ha2,g1,bnd,k1,l1,Option.bind_some]
   exact ⟨l',c3,rfl,by omega,k3.up (by omega)⟩
theorem qB {c:ax} {m:Nat} (h:ck c m) (hm:m≤1000000000):∃ (K:Nat) (nodes:List ByteArray) (fs:List ar) (c':ax),CN c=some (0,K,nodes,fs,c')∧2≤K∧K≤6∧nodes.length=6∧(∀ s∈nodes,s.size≤9)∧fs.length≤9∧ck c' (m+100):=by
 obtain ⟨x,c1,x1,x2,x3,x4⟩:=cP 5 h (by omega)
 have hx:0≤x∧x < 5:=by omega
 obtain ⟨⟨f1,c2⟩,o1,o2,o3⟩:=cz (f:=M_j (x,c1)) (fun s=>0≤s.1∧s.1≤2+x∧(s.2.1.length:Int)≤s.1∧ck s.2.2 (m+2+6 * s.1.toNat)) (fun s=>(2+x - s.1).toNat) (fun o=>o.1.length≤6∧ck o.2 (m+38)) (fun s hI=>by
  obtain ⟨j,l,cc⟩:=s
  obtain ⟨i1,i2,i3,i4⟩:=hI
  simp only at i1 i2 i3 i4
  by_cases hj:j < 2+x
  · left
    obtain ⟨fs',c',g1,g2,g3⟩:=Aw x c1 hx j ⟨i1,hj⟩ l (by omega) i4 (by omega)
    exact ⟨_,g1,⟨by simp only; omega,by simp only; omega,by simp only; omega,g3.up (by simp only; omega)⟩,by simp only; omega⟩
  · right
    refine ⟨(l,cc),?_,by simp only; omega,i4.up (by omega)⟩
    simp only [M_j,aG (n:=2+x) (by omega) (by omega),decide_eq_false hj,cond_false]) N0 (0,[],c1) ⟨by simp,by simp only; omega,by simp,x4.up (by simp)⟩ (eo (by simp only; omega))
 simp only at o2 o3
 obtain ⟨y,c3,y1,y2,y3,y4⟩:=cP 4 o3 (by omega)
 have hy:0≤y∧y < 4:=by omega
 obtain ⟨⟨f2,c4⟩,q1,q2,q3⟩:=cz (f:=M_k (x,c1)) (fun s=>0≤s.1∧s.1≤3∧(s.2.1.length:Int)≤9 - s.1∧ck s.2.2 (m+40+8 * (3 - s.1.toNat))) (fun s=>s.1.toNat) (fun o=>o.1.length≤9∧ck o.2 (m+64)) (fun s hI=>by
  obtain ⟨j,l,cc⟩:=s
  obtain ⟨i1,i2,i3,i4⟩:=hI
  simp only at i1 i2 i3 i4
  by_cases hj:0 < j
  · left
    obtain ⟨fs',c',g1,g2,g3⟩:=zr x c1 hx j ⟨hj,by omega⟩ l (by omega) i4 (by omega)
    exact ⟨_,g1,⟨by simp only; omega,by simp only; omega,by simp only; omega,g3.up (by simp only; omega)⟩,by simp only; omega⟩
  · right
    refine ⟨(l,cc),?_,by simp only; omega,i4.up (by omega)⟩
    simp only [M_k,decide_eq_false hj,cond_false]) N0 (y,f1,c3) ⟨by simp only; omega,by simp only; omega,by simp only; omega,y4.up (by simp only; omega)⟩ (eo (by simp only; omega))
 simp only at q2 q3
 unfold CN
 simp only [x1,Option.bind_some,bnd,aG (n:=2+x) (by omega) (by omega)]
 rw [aY ⟨trivial,by omega,trivial,by omega⟩]
 simp only [Option.bind_some,o1,y1,q1]
 exact ⟨_,_,_,_,rfl,by omega,by omega,rfl,by decide,q2,q3.up (by omega)⟩
structure Ac (K:Nat) (nodes:List ByteArray) (fs:List ar):Prop where
 k1:1≤K
 k:K≤nodes.length
 n:nodes.length≤10
 z:∀ s∈nodes,s.size≤9
 f:fs.length≤15
theorem EL {c:ax} {m:Nat} (fs:List ar) (h0:0 < fs.length) (h9:fs.length≤9) (h:ck c m) (hm:m≤10000000000):∃ fs' c',aZ yX N0 (fs,c)=some (fs',c')∧fs'.length≤15∧ck c' (m+100):=by
 obtain ⟨⟨f2,c4⟩,q1,q2,q3⟩:=cz (f:=yX) (fun s=>0 < s.1.length∧s.1.length≤15∧ck s.2 (m+2 * s.1.length)) (fun s=>16 - s.1.length) (fun o=>o.1.length≤15∧ck o.2 (m+100)) (fun s hI=>by
  obtain ⟨l,cc⟩:=s
  obtain ⟨i1,i2,i3⟩:=hI
  simp only at i1 i2 i3
  obtain ⟨x,c1,x1,x2,x3,x4⟩:=cP 2 i3 (by omega)
  simp only [yX,x1,Option.bind_some,aG (n:=14+x) (by omega) (by omega),aG (n:=(l.length:Int) - 1) (by omega) (by omega)]
  by_cases hj:(l.length:Int) < 14+x
  · left
    have e:((l.length:Int) - 1).toNat < l.length:=by omega
    rw [decide_eq_true hj,cond_true,aY (by omega)]
    simp only [Option.bind_some,List.getElem?_eq_getElem e,bnd]
    rw [aY (by omega)]
    exact ⟨_,rfl,⟨by simp,by simp only [List.length_append,List.length_cons,List.length_nil]; omega,x4.up (by simp only [List.length_append,List.length_cons,List.length_nil]; omega)⟩,by simp only [List.length_append,List.length_cons,List.length_nil]; omega⟩
  · right
    rw [decide_eq_false hj,cond_false]
    exact ⟨_,rfl,by simp only; omega,x4.up (by omega)⟩) N0 (fs,c) ⟨by simp only; omega,by simp only; omega,h.up (by omega)⟩ (eo (by simp only; omega))
 exact ⟨f2,c4,q1,q2,q3⟩
theorem mX {α:Type} (xs:List α) (k:Nat) (h:k≤xs.length):dP xs 0 k=xs.take k:=by
 rw [eF]; simp
theorem rN {c:ax} {m:Nat} (h:ck c m) (hm:m≤1000000000):∃ (K:Nat) (nodes:List ByteArray) (fs:List ar) (c':ax),Fo c=some (0,K,nodes,fs,c')∧Ac K nodes fs∧ck c' (m+300):=by
 obtain ⟨K,nodes,fs,c1,n1,n2,n3,n4,n5,n6,n7⟩:=qB h (by omega)
 have hD:Ac K nodes fs:=⟨by omega,by omega,by omega,n5,by omega⟩
 unfold Fo
 simp only [n1,Option.bind_some]
 by_cases h0:fs.length=0
 · rw [show ((fs.length:Int)==0)=true by simp [h0],cond_true]
   exact ⟨_,_,_,_,rfl,hD,n7.up (by omega)⟩
 rw [show ((fs.length:Int)==0)=false by simp; exact fun e=>h0 (by simp [e]),cond_false]
 obtain ⟨i,c2,i1,i2,i3,i4⟩:=cP (fs.length:Int) n7 (by omega)
 have hi:i.toNat < fs.length:=by omega
 obtain ⟨r,c3,r1,r2,r3,r4⟩:=cP 24 i4 (by omega)
 simp only [i1,Option.bind_some]
 rw [aY (by omega)]
 simp only [Option.bind_some,List.getElem?_eq_getElem hi,r1]
 have fin:∀ (K':Nat) (f:ar) (nodes':List ByteArray) (fs':List ar) (c':ax),Ac K' nodes' fs'→i.toNat < fs'.length→ck c' (m+300) →
  ∃ (K'':Nat) (nodes'':List ByteArray) (fs'':List ar) (c'':ax),((grd (0≤i∧i < (fs'.length:Int))).bind fun _=>(fs'[(Int.toNat i)]?).bind fun _=>bnd (fs'.set (Int.toNat i) f) fun l=>some ((0:Nat),K',nodes',l,c'))=some (0,K'',nodes'',fs'',c'')∧Ac K'' nodes'' fs''∧ck c'' (m+300):=by
  intro K' f nodes' fs' c' hD' hi' hc'
  rw [aY (by omega)]
  simp only [Option.bind_some,List.getElem?_eq_getElem hi',bnd]
  exact ⟨_,_,_,_,rfl,⟨hD'.k1,hD'.k,hD'.n,hD'.z,by rw [List.length_set]; exact hD'.f⟩,hc'⟩
 rcases bt (r==0) with e | e
 · obtain ⟨x,c4,k1,k2,k3⟩:=Sm [(⟨#[98]⟩:ByteArray),(⟨#[]⟩:ByteArray),(⟨#[65]⟩:ByteArray),(⟨#[97,98,99,100,101,102,103,104]⟩:ByteArray),(⟨#[97,98,99,100,101,102,103,104,105]⟩:ByteArray),(⟨#[120,49]⟩:ByteArray)] r4 (by omega) (by simp)
   have hx:x.size≤9:=(show ∀ s∈[(⟨#[98]⟩:ByteArray),(⟨#[]⟩:ByteArray),(⟨#[65]⟩:ByteArray),(⟨#[97,98,99,100,101,102,103,104]⟩:ByteArray),(⟨#[97,98,99,100,101,102,103,104,105]⟩:ByteArray),(⟨#[120,49]⟩:ByteArray)],s.size≤9 by decide) x k2
   have h00:0+Int.toNat 0 < nodes.length:=by simp; omega
   simp only [e,cond_true,bnd,k1,Option.bind_some]
   rw [aY (by omega)]
   simp only [Option.bind_some,List.getElem?_eq_getElem h00]
   refine fin _ _ _ _ _ ⟨by omega,by rw [List.length_set]; omega,by rw [List.length_set]; omega,fun s hs=>?_,by omega⟩ hi (k3.up (by omega))
   rcases List.mem_or_eq_of_mem_set hs with h1 | h1
   · exact n5 s h1
   · rw [h1]; exact hx
 rw [e,cond_false]
 rcases bt (r==1) with e | e
 · obtain ⟨x,c4,k1,k2,k3,k4⟩:=cP 8 r4 (by omega)
   simp only [e,cond_true,k1,Option.bind_some]
   exact fin _ _ _ _ _ hD hi (k4.up (by omega))
 rw [e,cond_false]
 rcases bt (r==2) with e | e
 · obtain ⟨x,c4,k1,k2,k3,k4⟩:=cP 10 r4 (by omega)
   simp only [e,cond_true,k1,Option.bind_some]
   exact fin _ _ _ _ _ hD hi (k4.up (by omega))
 rw [e,cond_false]
 rcases bt (r==3) with e | e
 · obtain ⟨x,c4,k1,k2,k3⟩:=kX [0,1,5000,5001] r4 (by omega) (by simp)
   simp only [e,cond_true,bnd,k1,Option.bind_some]
   exact fin _ _ _ _ _ hD hi (k3.up (by omega))
 rw [e,cond_false]
 rcases bt (r==4) with e | e
 · obtain ⟨x,c4,k1,k2,k3⟩:=kX [(-1),9,10] r4 (by omega) (by simp)
   simp only [e,cond_true,bnd,k1,Option.bind_some]
   exact fin _ _ _ _ _ hD hi (k3.up (by omega))
 rw [e,cond_false]
 rcases bt (r==5) with e | e
 · have h00:Int.toNat 0 < fs.length:=by simp; omega
   simp only [e,cond_true]
   rw [aY (by omega)]
   simp only [Option.bind_some,List.getElem?_eq_getElem h00,bnd]
   rw [aY (by omega)]
   exact fin K _ nodes (fs++[fs[Int.toNat 0]]) _ ⟨hD.k1,hD.k,hD.n,hD.z,by simp; omega⟩ (by simp; omega) (r4.up (by omega))
 rw [e,cond_false]
 rcases bt (r==6) with e | e
 · obtain ⟨fs',c4,k1,k2,k3⟩:=EL fs (by omega) n6 r4 (by omega)
   simp only [e,cond_true,k1,Option.bind_some]
   exact ⟨_,_,_,_,rfl,⟨by omega,by omega,by omega,n5,k2⟩,k3.up (by omega)⟩
 rw [e,cond_false]
 rcases bt (r==7) with e | e
 · simp only [e,cond_true,bnd,mX nodes K hD.k]
   rw [aY (by omega)]
   simp only [Option.bind_some]
   refine fin _ _ _ _ _ ⟨by simp,(by simp only [List.length_append,List.length_take,List.length_cons,List.length_nil]; have:=hD.k; omega),by simp; omega,fun s hs=>?_,by omega⟩ hi (r4.up (by omega))
   rcases List.mem_append.1 hs with h1 | h1
   · exact n5 s (List.mem_of_mem_take h1)
   · exact (show ∀ s∈[(⟨#[112]⟩:ByteArray),(⟨#[113]⟩:ByteArray),(⟨#[114]⟩:ByteArray),(⟨#[115]⟩:ByteArray)],s.size≤9 by decide) s h1
 rw [e,cond_false]
 exact fin _ _ _ _ _ hD hi (r4.up (by omega))
end Vs

namespace Vs
open Go
def po (n:ae) (y:Int):Int:=match n.Fibers[y.toNat]? with | some f=>f.Length | none=>0
def fY (n:ae) (r:au):Int:=lU (fun _ y s=>IntKind.wrap .i64 (s+po n y)) 0 r.Fibers 0
def RtB (n:ae) (r:au):Prop:=r.Fibers.length≤20∧(∀ e∈r.Fibers,0≤e∧e < n.Fibers.length)∧0≤r.Start∧r.Start < 8
theorem gU {n:ae} {r:au} (h:RtB n r):xe n r=some (fY n r):=by
 have h1:=h.1
 unfold xe fY
 have:=wY (f:=zc n r) r.Fibers (fun i (s:Int)=>(s,(i:Int))) (fun _ y s=>IntKind.wrap .i64 (s+po n y)) id (fun _ _=>True) (fun i s y hy _=>by
  have hlt:=(List.getElem?_eq_some_iff.1 hy).1
  have e1:decide ((i:Int) < r.Fibers.length)=true:=by simp [hlt]
  obtain ⟨g1,g2⟩:=h.2.1 y (List.mem_of_getElem? hy)
  have hf:bJ n.Fibers y=n.Fibers[y.toNat]?:=by unfold bJ; rw [if_pos g1]
  have hs:n.Fibers[y.toNat]?=some (n.Fibers[y.toNat]'(by omega)):=List.getElem?_eq_getElem _
  refine ⟨trivial,?_⟩
  simp only [zc,e1,cond_true,aU,hy,Option.bind_some,hf,po]
  rw [hs]
  simp only [Option.bind_some]
  rw [aG (n:=(i:Int)+1) (by omega) (by omega)]; rfl) (fun s _=>by simp [zc]) 0 trivial (by omega)
 have e0:((0:Nat):Int)=0:=rfl
 simp only [e0] at this
 rw [this]; rfl
theorem md (n:ae) (r:au):GV n r=xe n r:=rfl
theorem yV {n:ae} (hn:bu n=true) {r:au} (h:RtB n r):0≤fY n r∧fY n r≤100000:=by
 have gen:∀ (ys:List Int) (i:Nat) (s:Int),(∀ e∈ys,0≤e∧e < n.Fibers.length)→i+ys.length≤20→0≤s→s≤5000 * i→0≤lU (fun _ y s=>IntKind.wrap .i64 (s+po n y)) i ys s∧lU (fun _ y s=>IntKind.wrap .i64 (s+po n y)) i ys s≤5000 * (i+ys.length:Nat):=by
  intro ys
  induction ys with
  | nil=>intro i s _ _ h1 h2; exact ⟨h1,by simpa [lU] using h2⟩
  | cons y ys ih =>
    intro i s hy hi h1 h2
    simp only [List.length_cons] at hi
    obtain ⟨g1,g2⟩:=hy y (by simp)
    have hs:n.Fibers[y.toNat]?=some (n.Fibers[y.toNat]'(by omega)):=List.getElem?_eq_getElem _
    obtain ⟨_,_,_,f4,f5,_⟩:=df hn hs
    have hf:po n y=(n.Fibers[y.toNat]'(by omega)).Length:=by unfold po; rw [hs]
    have hw:IntKind.wrap .i64 (s+po n y)=s+po n y:=aG (by omega) (by omega)
    simp only [lU]
    rw [hw]
    have:=ih (i+1) (s+po n y) (fun e he=>hy e (by simp [he])) (by omega) (by omega) (by omega)
    refine ⟨this.1,?_⟩
    have h3:=this.2
    simp only [List.length_cons]
    omega
 have h1:=h.1
 have:=gen r.Fibers 0 0 h.2.1 (by omega) (by omega) (by omega)
 unfold fY
 omega
theorem RJ (a b c d:Int):pn [a,b,c,d]=some (if a ≠ 0 then a else if b ≠ 0 then b else if c ≠ 0 then c else d):=by
 unfold pn
 have key:=cg (f:=M_e [a,b,c,d]) [a,b,c,d] (fun _ x=>x != 0) (fun _ x=>x) () (fun i x hx _=>by
  have hlt:=(List.getElem?_eq_some_iff.1 hx).1
  have h1:decide ((i:Int) < ([a,b,c,d].length:Nat))=true:=decide_eq_true (by omega)
  simp only [List.length_cons,List.length_nil] at hlt
  simp only [M_e,h1,cond_true,aU,hx,Option.bind_some]
  rw [aG (by omega) (by omega)]
  cases x != 0 <;> rfl) (by simp [M_e]) (by simp)
 rw [key]
 unfold bv
 simp only [List.zipIdx_cons,List.zipIdx_nil,List.find?_cons,List.find?_nil]
 by_cases h1:a=0
 · by_cases h2:b=0
   · by_cases h3:c=0
     · by_cases h4:d=0
       · simp [h1,h2,h3,h4]
       · have:(d != 0)=true:=bne_iff_ne.2 h4
         simp [h1,h2,h3,this]
     · have:(c != 0)=true:=bne_iff_ne.2 h3
       simp [h1,h2,h3,this]
   · have:(b != 0)=true:=bne_iff_ne.2 h2
     simp [h1,h2,this]
 · have:(a != 0)=true:=bne_iff_ne.2 h1
   simp [h1,this]
def rS (b:List Int) (i:Nat) (x:Int):Int:=match b[i]? with | some y=>cq x y | none=>1
def kD (a b:List Int):Int:=match bv (fun i x=>b[i]? != some x) a with
 | some q=>rS b q.1 q.2
 | none=>if a.length < b.length then -1 else 0
theorem wB (a b:List Int) (hl:a.length≤1048576):oy a b=some (kD a b):=by
 unfold oy
 rw [cg (f:=M_g a b) a (fun i x=>b[i]? != some x) (fun i x=>rS b i x) () (fun i x hx _=>by
  have hlt:=(List.getElem?_eq_some_iff.1 hx).1
  have h3:decide ((i:Int) < a.length)=true:=by simp [hlt]
  simp only [M_g,h3,cond_true,aU,hx,Option.bind_some,rS]
  by_cases hb:b.length≤i
  · have h4:decide ((b.length:Int)≤(i:Int))=true:=by simp; omega
    have h5:b[i]?=none:=List.getElem?_eq_none (by omega)
    rw [h4,h5]; rfl
  · have h4:decide ((b.length:Int)≤(i:Int))=false:=by simp; omega
    have h5:b[i]?=some (b[i]'(by omega)):=List.getElem?_eq_getElem _
    simp only [h4,cond_false,h5,Option.bind_some,pX]
    rw [aG (by omega) (by omega)]
    by_cases e:x=b[i]'(by omega)
    · have e1:(cq x (b[i]'(by omega)) != 0)=false:=by rw [bM.2 e]; rfl
      have e2:(some (b[i]'(by omega)) != some x)=false:=by rw [← e]; simp
      rw [e1,e2]; rfl
    · have e1:(cq x (b[i]'(by omega)) != 0)=true:=bne_iff_ne.2 fun e'=>e (bM.1 e')
      have e2:(some (b[i]'(by omega)) != some x)=true:=bne_iff_ne.2 fun e'=>e (Option.some.inj e').symm
      rw [e1,e2]; rfl) (by simp [M_g]) (by omega)]
 unfold kD
 cases hf:bv (fun i x=>b[i]? != some x) a with
 | none =>
   simp only [Option.bind_some]
   by_cases h:a.length < b.length
   · have e:decide ((a.length:Int) < (b.length:Int))=true:=by simp [h]
     simp [e,h]
   · have e:decide ((a.length:Int) < (b.length:Int))=false:=by simp; omega
     rw [e,if_neg h]; rfl
 | some q=>rfl
def iJ (n:ae) (a b:au):Int:=if fY n a ≠ fY n b then cq (fY n a) (fY n b) else if a.Fibers.length ≠ b.Fibers.length then cq a.Fibers.length b.Fibers.length else
 if kD a.Fibers b.Fibers ≠ 0 then kD a.Fibers b.Fibers else cq a.Start b.Start
theorem mu {n:ae} {a b:au} (ha:RtB n a) (hb:RtB n b):HE n a b=some (iJ n a b):=by
 have h1:=ha.1
 unfold HE
 rw [gU ha,Option.bind_some,gU hb,Option.bind_some]
 simp only [pX,Option.bind_some,wB a.Fibers b.Fibers (by omega),bnd,RJ]
 unfold iJ
 simp only [ne_eq,bM,Int.natCast_inj]
theorem sL (x:Int):uK x=some (cq x 0):=by
 unfold uK cq
 by_cases h1:x < 0
 · simp [h1]
 · by_cases h2:0 < x <;> simp [h1,h2]
theorem kU (x y:Int):cq (x - y) 0=cq x y:=by
 unfold cq
 by_cases h1:x < y
 · rw [if_pos (by omega),if_pos h1]
 · by_cases h2:y < x
   · rw [if_neg (by omega),if_pos (by omega),if_neg h1,if_pos h2]
   · rw [if_neg (by omega),if_neg (by omega),if_neg h1,if_neg h2]
theorem yE (x y:Int):(x - y != 0)=decide (x ≠ y):=by
 by_cases h:x=y
 · subst h; simp
 · have:(x - y != 0)=true:=bne_iff_ne.2 (by omega)
   rw [this,decide_eq_true h]
theorem ue {n:ae} (hn:bu n=true) {a b:au} (ha:RtB n a) (hb:RtB n b):Ho n a b=some (iJ n a b):=by
 obtain ⟨b1,b2,b3⟩:=bT hn
 have hla:=yV hn ha
 have hlb:=yV hn hb
 have h1:=ha.1
 have h2:=hb.1
 obtain ⟨s1,s2⟩:=ha.2.2
 obtain ⟨s3,s4⟩:=hb.2.2
 unfold Ho iJ
 rw [md,md,gU ha,Option.bind_some,gU hb,Option.bind_some]
 simp only [sL,Option.bind_some]
 rw [aG (n:=fY n a - fY n b) (by omega) (by omega),aG (n:=(a.Fibers.length:Int) - (b.Fibers.length:Int)) (by omega) (by omega),aG (n:=a.Start - b.Start) (by omega) (by omega),yE,yE,kU,kU,kU]
 by_cases e1:fY n a=fY n b
 · rw [if_neg (by simpa using e1),decide_eq_false (by simpa using e1),cond_false]
   by_cases e2:a.Fibers.length=b.Fibers.length
   · rw [if_neg (by simpa using e2),decide_eq_false (by simp [e2]),cond_false]
     rw [cg (f:=zl a b) a.Fibers (fun i x=>b.Fibers[i]? != some x) (fun i x=>rS b.Fibers i x) () (fun i x hx _=>by
      have hlt:=(List.getElem?_eq_some_iff.1 hx).1
      have h3:decide ((i:Int) < a.Fibers.length)=true:=by simp [hlt]
      have h5:b.Fibers[i]?=some (b.Fibers[i]'(by omega)):=List.getElem?_eq_getElem _
      obtain ⟨x1,x2⟩:=ha.2.1 x (List.mem_of_getElem? hx)
      obtain ⟨y1,y2⟩:=hb.2.1 _ (List.mem_of_getElem? h5)
      simp only [zl,h3,cond_true,aU,hx,Option.bind_some,rS,h5,sL]
      rw [aG (n:=(i:Int)+1) (by omega) (by omega),aG (n:=x - b.Fibers[i]'(by omega)) (by omega) (by omega),kU]
      by_cases e:x=b.Fibers[i]'(by omega)
      · have e3:(x != b.Fibers[i]'(by omega))=false:=by rw [← e]; simp
        have e4:(some (b.Fibers[i]'(by omega)) != some x)=false:=by rw [← e]; simp
        rw [e3,e4]; rfl
      · have e3:(x != b.Fibers[i]'(by omega))=true:=bne_iff_ne.2 e
        have e4:(some (b.Fibers[i]'(by omega)) != some x)=true:=bne_iff_ne.2 fun e'=>e (Option.some.inj e').symm
        rw [e3,e4]; rfl) (by simp [zl]) (by omega)]
     unfold kD
     cases hf:bv (fun i x=>b.Fibers[i]? != some x) a.Fibers with
     | none =>
       simp only [Option.bind_some]
       rw [if_neg (show ¬ a.Fibers.length < b.Fibers.length by omega),if_neg (by simp)]
     | some q =>
       obtain ⟨g1,g2,_⟩:=ca.1 (show bv (fun i x=>b.Fibers[i]? != some x) a.Fibers=some (q.1,q.2) from hf)
       have hlt:=(List.getElem?_eq_some_iff.1 g1).1
       have h5:b.Fibers[q.1]?=some (b.Fibers[q.1]'(by omega)):=List.getElem?_eq_getElem _
       have hz:rS b.Fibers q.1 q.2 ≠ 0:=by
        unfold rS
        rw [h5] at g2 ⊢
        exact fun e=>bne_iff_ne.1 g2 (by rw [bM.1 e])
       simp only [Option.bind_some]
       rw [if_pos hz]
   · rw [if_pos (by simpa using e2),decide_eq_true (by simp; omega),cond_true]
 · rw [if_pos (by simpa using e1),decide_eq_true (by simpa using e1),cond_true]
theorem kO (x y:Int):cq y x=- cq x y:=by
 unfold cq
 by_cases h1:x < y
 · rw [if_neg (show ¬ y < x by omega),if_pos h1,if_pos h1]; rfl
 · by_cases h2:y < x
   · rw [if_pos h2,if_neg h1,if_pos h2]
   · rw [if_neg h2,if_neg h1,if_neg h1,if_neg h2]; rfl
theorem Jl {a b:List Int} (h:a.length=b.length):kD b a=- kD a b:=by
 have key:∀ {a b:List Int} {i:Nat} {x:Int},a.length=b.length→bv (fun i x=>b[i]? != some x) a=some (i,x)→∃ y,bv (fun i x=>a[i]? != some x) b=some (i,y)∧a[i]?=some x∧b[i]?=some y:=by
  intro a b i x h hf
  obtain ⟨g1,g2,g3⟩:=ca.1 hf
  have hlt:=(List.getElem?_eq_some_iff.1 g1).1
  have h5:b[i]?=some (b[i]'(by omega)):=List.getElem?_eq_getElem _
  refine ⟨b[i]'(by omega),ca.2 ⟨h5,?_,fun j y hj hy=>?_⟩,g1,h5⟩
  · rw [g1]
    rw [h5] at g2
    exact bne_iff_ne.2 fun e=>bne_iff_ne.1 g2 e.symm
  · have hlj:a[j]?=some (a[j]'(by omega)):=List.getElem?_eq_getElem _
    have:=g3 j _ hj hlj
    rw [hlj]
    rw [hy] at this
    simp only [bne_eq_false_iff_eq] at this ⊢
    exact this.symm
 unfold kD
 cases hf:bv (fun i x=>b[i]? != some x) a with
 | some q =>
   obtain ⟨y,h1,h2,h3⟩:=key h (show bv (fun i x=>b[i]? != some x) a=some (q.1,q.2) from hf)
   rw [h1]
   simp only [rS,h2,h3]
   exact kO _ _
 | none =>
   cases hg:bv (fun i x=>a[i]? != some x) b with
   | some q =>
     obtain ⟨y,h1,_⟩:=key h.symm (show bv (fun i x=>a[i]? != some x) b=some (q.1,q.2) from hg)
     rw [hf] at h1; cases h1
   | none =>
     simp only
     rw [if_neg (by omega),if_neg (by omega)]; rfl
theorem ut (n:ae) (a b:au):iJ n b a=- iJ n a b:=by
 unfold iJ
 by_cases e1:fY n a=fY n b
 · rw [if_neg (show ¬ fY n b ≠ fY n a from fun h=>h e1.symm),if_neg (show ¬ fY n a ≠ fY n b from fun h=>h e1)]
   by_cases e2:a.Fibers.length=b.Fibers.length
   · rw [if_neg (show ¬ b.Fibers.length ≠ a.Fibers.length from fun h=>h e2.symm),if_neg (show ¬ a.Fibers.length ≠ b.Fibers.length from fun h=>h e2),Jl e2]
     by_cases e3:kD a.Fibers b.Fibers=0
     · rw [if_neg (show ¬ -kD a.Fibers b.Fibers ≠ 0 by omega),if_neg (show ¬ kD a.Fibers b.Fibers ≠ 0 from fun h=>h e3)]; exact kO _ _
     · rw [if_pos (show -kD a.Fibers b.Fibers ≠ 0 by omega),if_pos e3]
   · rw [if_pos (show b.Fibers.length ≠ a.Fibers.length from fun e=>e2 e.symm),if_pos e2]; exact kO _ _
 · rw [if_pos (show fY n b ≠ fY n a from fun e=>e1 e.symm),if_pos e1]; exact kO _ _
theorem zD {n:ae} {a b:au} (h:iJ n a b=0):a=b:=by
 unfold iJ at h
 by_cases e1:fY n a=fY n b
 · rw [if_neg (by simp [e1])] at h
   by_cases e2:a.Fibers.length=b.Fibers.length
   · rw [if_neg (by simp [e2])] at h
     by_cases e3:kD a.Fibers b.Fibers=0
     · rw [if_neg (by simp [e3])] at h
       have hs:=bM.1 h
       have hf:a.Fibers=b.Fibers:=by
        unfold kD at e3
        cases hf:bv (fun i x=>b.Fibers[i]? != some x) a.Fibers with
        | none =>
          have:=cT.1 hf
          apply List.ext_getElem?
          intro i
          rcases Nat.lt_or_ge i a.Fibers.length with hi | hi
          · have:=this i _ (List.getElem?_eq_getElem hi)
            simp only [bne_eq_false_iff_eq] at this
            rw [this,List.getElem?_eq_getElem hi]
          · rw [List.getElem?_eq_none hi,List.getElem?_eq_none (by omega)]
        | some q =>
          rw [hf] at e3
          obtain ⟨g1,g2,_⟩:=ca.1 (show bv (fun i x=>b.Fibers[i]? != some x) a.Fibers=some (q.1,q.2) from hf)
          have hlt:=(List.getElem?_eq_some_iff.1 g1).1
          have h5:b.Fibers[q.1]?=some (b.Fibers[q.1]'(by omega)):=List.getElem?_eq_getElem _
          exfalso
          simp only [rS,h5] at e3
          rw [h5] at g2
          exact bne_iff_ne.1 g2 (by rw [bM.1 e3])
       cases a; cases b
       simp only at hs hf
       rw [hs,hf]
     · rw [if_pos e3] at h; exact absurd h e3
   · rw [if_pos e2] at h
     have:=bM.1 h
     omega
 · rw [if_pos e1] at h
   exact absurd (bM.1 h) e1
end Vs

namespace Vs
open Go
theorem eG {S B:Type} {f:S→Option (S ⊕ B)} (st:Nat→S) (k:Nat) (r:B) (h1:∀ j,j < k→f (st j)=some (.inl (st (j+1)))) (h2:f (st k)=some (.inr r)) (hk:k < 1000000):aZ f N0 (st 0)=some r:=by
 have:=cw (f:=f) (List.range k) (fun i (_:Unit)=>st i) (fun _ _ _=>.inl ()) (fun _=>r) (fun _ _=>True) (fun i a x hx _=>by
  have hlt:=(List.getElem?_eq_some_iff.1 hx).1
  rw [List.length_range] at hlt
  exact .inl ⟨(),rfl,trivial,h1 i hlt⟩) (fun a _=>by rw [List.length_range]; exact h2) () trivial (by rw [List.length_range]; omega)
 rw [this]
 have gen:∀ (ys:List Nat) (i:Nat),bG (fun _ (_:Nat) (_:Unit)=>(.inl ():Unit ⊕ B)) (fun _=>r) i ys ()=r:=by
  intro ys
  induction ys with
  | nil=>intro i; rfl
  | cons y ys ih=>intro i; exact ih (i+1)
 rw [gen]
def rz (l:List Int) (i:Nat):Int:=(l[i]?).getD 0
theorem ga {l:List Int} {i:Nat} (h:i < l.length):l[i]?=some (rz l i):=by
 unfold rz; rw [List.getElem?_eq_getElem h]; rfl
theorem dU {l:List Int} {i:Nat} (h:i < l.length):rz l i∈l:=List.mem_of_getElem? (ga h)
theorem oO {l:List Int} (hn:l.Nodup) {i j:Nat} (hi:i < l.length) (hj:j < l.length) (h:rz l i=rz l j):i=j:=by
 have h1:=ga hi
 have h2:=ga hj
 rw [← h] at h2
 rw [List.getElem?_eq_getElem hi] at h1
 rw [List.getElem?_eq_getElem hj] at h2
 exact (List.getElem_inj hn).1 ((Option.some.inj h1).trans (Option.some.inj h2).symm)
def cy (L x:Nat):Nat:=if x < L then x else x - L
def cb (L a j:Nat):Nat:=if j≤a then a - j else a+L - j
def kF (L a b:Nat):Nat:=if a≤b then b - a else L - a+b
theorem iE {L a b:Nat} (ha:a < L) (hb:b < L):kF L a b < L:=by unfold kF; split <;> omega
theorem iA {L x:Nat} (h:x < 2 * L):cy L x < L:=by unfold cy; split <;> omega
theorem mf {L a j:Nat} (ha:a < L) (hj:j < L):cb L a j < L:=by unfold cb; split <;> omega
theorem OP {L a b j:Nat} (ha:a < L) (hb:b < L) (hj:j < kF L a b):cy L (a+j) ≠ b:=by
 unfold kF at hj; unfold cy
 split at hj <;> split <;> omega
theorem rr {L a b:Nat} (ha:a < L) (hb:b < L):cy L (a+kF L a b)=b:=by
 unfold kF cy
 by_cases h:a≤b
 · rw [if_pos h,if_pos (by omega)]; omega
 · rw [if_neg h,if_neg (by omega)]; omega
theorem nR {L a j:Nat} (h:a+j+1 < 2 * L):cy L (cy L (a+j)+1)=cy L (a+j+1):=by
 unfold cy
 by_cases h1:a+j < L
 · rw [if_pos h1]
 · rw [if_neg h1,if_neg (show ¬ a+j+1 < L by omega),if_pos (by omega)]; omega
theorem SC {L a b j:Nat} (ha:a < L) (hb:b < L) (hj:j < kF L b a):cb L a j ≠ b:=by
 unfold kF at hj; unfold cb
 split at hj <;> split <;> omega
theorem IK {L a b:Nat} (ha:a < L) (hb:b < L):cb L a (kF L b a)=b:=by
 unfold kF cb
 by_cases h:b≤a
 · rw [if_pos h,if_pos (by omega)]; omega
 · rw [if_neg h,if_neg (by omega)]; omega
theorem Rl {L a j:Nat} (ha:a < L) (hj:j+1 < L):cb L (cb L a j) 1=cb L a (j+1):=by
 unfold cb
 by_cases h1:j≤a
 · rw [if_pos h1]
   by_cases h2:j+1≤a
   · rw [if_pos h2,if_pos (by omega)]; omega
   · rw [if_neg h2,if_neg (by omega)]; omega
 · rw [if_neg h1,if_neg (show ¬ j+1≤a by omega),if_pos (by omega)]; omega
theorem RT {L a b j:Nat} (ha:a < L) (hb:b < L) (hj:j < kF L b a):cy L (b+(kF L b a - 1 - j))=cb L a (j+1):=by
 unfold kF at hj ⊢
 unfold cy cb
 by_cases h:b≤a
 · rw [if_pos h] at hj ⊢
   rw [if_pos (by omega),if_pos (by omega)]; omega
 · rw [if_neg h] at hj ⊢
   by_cases h2:j+1≤a
   · rw [if_pos h2,if_neg (by omega)]; omega
   · rw [if_neg h2,if_pos (by omega)]; omega
theorem tm1 {L i:Nat} (hL:L≤1000) (hi:i < L):Int.tmod (IntKind.wrap .i64 ((i:Int)+1)) (L:Int)=((cy L (i+1):Nat):Int):=by
 rw [aG (by omega) (by omega)]
 unfold cy
 by_cases h:i+1 < L
 · rw [if_pos h,Int.tmod_eq_of_lt (by omega) (by omega)]; omega
 · rw [if_neg h]
   have:(i:Int)+1=(L:Int):=by omega
   rw [this,Int.tmod_self]; omega
theorem tm2 {L i:Nat} (hL:L≤1000) (hi:i < L):Int.tmod (IntKind.wrap .i64 ((IntKind.wrap .i64 ((i:Int)+(L:Int))) - 1)) (L:Int)=((cb L i 1:Nat):Int):=by
 rw [aG (n:=(i:Int)+L) (by omega) (by omega),aG (by omega) (by omega)]
 unfold cb
 by_cases h:1≤i
 · rw [if_pos h]
   have:(i:Int)+L - 1=(i:Int) - 1+L:=by omega
   rw [this,Int.tmod_eq_emod_of_nonneg (by omega),Int.add_emod_right,Int.emod_eq_of_lt (by omega) (by omega)]; omega
 · rw [if_neg h,Int.tmod_eq_of_lt (by omega) (by omega)]; omega
def cM (ring:List Int) (a b:Nat):List Int:=(List.range (kF ring.length a b)).map fun j=>rz ring (cy ring.length (a+j))
def fG (ring:List Int) (a b:Nat):List Int:=(List.range (kF ring.length b a)).map fun j=>rz ring (cb ring.length a (j+1))
theorem yz {ring:List Int} {a b:Nat} (ha:a < ring.length) (hb:b < ring.length):(cM ring b a).reverse=fG ring a b:=by
 unfold cM fG
 apply List.ext_getElem
 · simp
 · intro j h1 h2
   simp only [List.length_map,List.length_range] at h2
   rw [List.getElem_reverse]
   simp only [List.getElem_map,List.getElem_range,List.length_map,List.length_range]
   rw [RT ha hb h2]
theorem kR {α:Type} (g:Nat→α) (j:Nat):(List.range j).map g++[g j]=(List.range (j+1)).map g:=by rw [List.range_succ,List.map_append]; rfl
theorem qt (n:ae) (ring:List Int):∀ (ys:List Int) (i:Nat) (p q:Int×List Int),wkI n ring i ys p=.inl q→∃ t,q.2=p.2++t∧t.length=ys.length∧(t++[q.1])[0]?=some p.1 ∧
 ∀ j e,ys[j]?=some e→∃ u v,(t++[q.1])[j]?=some u∧(t++[q.1])[j+1]?=some v∧bx n e u=v∧0≤v
 | [], i, p, q, h => by
   unfold wkI bG at h
   cases h
   exact ⟨[],by simp,rfl,rfl,fun j e he=>by simp at he⟩
 | e :: ys, i, p, q, h => by
   rw [dh] at h
   unfold stI at h
   by_cases h1:iI n ring i e=true
   · rw [if_pos h1] at h; cases h
   · rw [if_neg h1] at h
     by_cases h2:bx n e p.1 < 0
     · rw [if_pos h2] at h; cases h
     · rw [if_neg h2] at h
       obtain ⟨t,t1,t2,t3,t4⟩:=qt n ring ys (i+1) _ q h
       refine ⟨p.1::t,by rw [t1]; simp,by simp [t2],rfl,fun j e' he=>?_⟩
       cases j with
       | zero =>
         simp only [List.getElem?_cons_zero,Option.some.injEq] at he
         subst he
         exact ⟨p.1,bx n e p.1,rfl,by simpa using t3,rfl,by omega⟩
       | succ j =>
         obtain ⟨u,v,h3,h4,h5⟩:=t4 j e' (by simpa using he)
         exact ⟨u,v,by simpa using h3,by simpa using h4,h5⟩
structure nB (n:ae) (ring nd:List Int):Prop where
 len:nd.length=ring.length
 two:2≤ring.length
 le8:ring.length≤8
 nodup:nd.Nodup
 rg:∀ e∈ring,0≤e∧e < (n.Fibers.length:Int)
 ndrg:∀ x∈nd,0≤x∧x < (n.Nodes.length:Int)
 step:∀ i,i < ring.length→bx n (rz ring i) (rz nd i)=rz nd (cy ring.length (i+1))
 ends:∀ i f,i < ring.length→n.Fibers[(rz ring i).toNat]?=some f→f.A∈nd∧f.B∈nd
theorem nI {n:ae} (hn:bu n=true) {ring nd:List Int} (hr:ring.length≤1048576) (hp:bI n ring=some nd):nB n ring nd:=by
 obtain ⟨b1,b2,b3⟩:=bT hn
 obtain ⟨r1,r2,r3,r4,r5⟩:=ko hn hr hp
 obtain ⟨h1,h2,_⟩:=cE.1 hp
 obtain ⟨g1,g2,g3⟩:=fu.1 h1
 obtain ⟨e0,f,k1,k2,k3,k4,_⟩:=jF hn h1
 obtain ⟨a0,ab,bm,_⟩:=k4
 have hrng:=qY hn ring ring 0 _ _ (by simp only; rw [k3]; omega) (by simp) g1
 have hlen:=vY (by omega) hr h1
 rw [h2] at g1 g2 hlen hrng
 obtain ⟨t,t1,t2,t3,t4⟩:=qt n ring ring 0 _ _ g1
 simp only [List.nil_append] at t1 t3 t4
 subst t1
 have h0:nd[0]?=some (bE n ring):=by
  rw [List.getElem?_append_left (by omega)] at t3; exact t3
 have step:∀ i,i < ring.length→bx n (rz ring i) (rz nd i)=rz nd (cy ring.length (i+1))∧0≤rz nd (cy ring.length (i+1)):=fun i hi=>by
  obtain ⟨u,v,q1,q2,q3,q4⟩:=t4 i _ (ga hi)
  rw [List.getElem?_append_left (by omega),ga (show i < nd.length by omega)] at q1
  have e1:=Option.some.inj q1
  have e2:rz nd (cy ring.length (i+1))=v:=by
   unfold cy
   by_cases hl:i+1 < ring.length
   · rw [if_pos hl]
     rw [List.getElem?_append_left (by omega),ga (show i+1 < nd.length by omega)] at q2
     exact Option.some.inj q2
   · rw [if_neg hl]
     have e3:i+1 - ring.length=0:=by omega
     rw [List.getElem?_append_right (by omega)] at q2
     have e4:i+1 - nd.length=0:=by omega
     rw [e4] at q2
     simp only [List.getElem?_cons_zero] at q2
     rw [e3]
     rw [ga (show 0 < nd.length by omega)] at h0
     rw [Option.some.inj h0]; exact Option.some.inj q2
  rw [e1,e2]
  exact ⟨q3,q4⟩
 refine ⟨hlen,r3,r2,g2,r5,hrng,fun i hi=>(step i hi).1,fun i f hi hf=>?_⟩
 obtain ⟨q1,q2⟩:=step i hi
 have m1:rz nd i∈nd:=dU (by omega)
 have m2:rz nd (cy ring.length (i+1))∈nd:=dU (by rw [hlen]; exact iA (by omega))
 rw [← q1] at m2 q2
 unfold bx at m2 q2
 rw [hf] at m2 q2
 simp only [dp] at m2 q2
 by_cases c1:rz nd i=f.A
 · rw [if_pos c1] at m2
   exact ⟨c1 ▸ m1,m2⟩
 · rw [if_neg c1] at m2 q2
   by_cases c2:rz nd i=f.B
   · rw [if_pos c2] at m2
     exact ⟨m2,c2 ▸ m1⟩
   · rw [if_neg c2] at q2; omega
theorem tL {n:ae} (hn:bu n=true) {ring nd:List Int} (hr:ring.length≤1048576) (hp:bI n ring=some nd) {a b:Nat} (ha:a < ring.length) (hb:b < ring.length) :
 Aa n ring (rz nd a) (rz nd b)=some ⟨rz nd a,cM ring a b⟩:=by
 have R:=nI hn hr hp
 have hl:=R.len
 have h8:=R.le8
 unfold Aa
 rw [mZ n ring nd hn hr hp,Option.bind_some]
 have e1:aZ (xp (rz nd a) nd) N0 0=some (a:Int):=by
  have:=eG (f:=xp (rz nd a) nd) (fun j=>(j:Int)) a (a:Int) (fun j hj=>by
   unfold xp
   rw [aY (by omega),Option.bind_some,Int.toNat_natCast,ga (show j < nd.length by omega),Option.bind_some]
   have:(rz nd j != rz nd a)=true:=bne_iff_ne.2 fun e=>by have:=oO R.nodup (by omega) (by omega) e; omega
   rw [this,cond_true,aG (by omega) (by omega)]; rfl) (by
   unfold xp
   rw [aY (by omega),Option.bind_some,Int.toNat_natCast,ga (show a < nd.length by omega),Option.bind_some]
   simp) (by omega)
  exact this
 rw [e1,Option.bind_some]
 have e2:aZ (vX n ring (rz nd b)) N0 ((a:Int),rz nd a,[])=some (cM ring a b):=by
  have hk:=iE ha hb
  have:=eG (f:=vX n ring (rz nd b)) (fun j=>(((cy ring.length (a+j):Nat):Int),rz nd (cy ring.length (a+j)),(List.range j).map fun j=>rz ring (cy ring.length (a+j)))) (kF ring.length a b) (cM ring a b) (fun j hj=>by
   have hc:cy ring.length (a+j) < ring.length:=iA (by omega)
   unfold vX
   have h1:(rz nd (cy ring.length (a+j)) != rz nd b)=true:=bne_iff_ne.2 fun e=>OP ha hb hj (oO R.nodup (by omega) (by omega) e)
   simp only [h1,cond_true,aU,ga hc,Option.bind_some,bnd]
   rw [aY (by simp; omega),Option.bind_some]
   obtain ⟨g1,g2⟩:=R.rg _ (dU hc)
   rw [jl n _ _ (dd.2 (by omega)),Option.bind_some,aY (by omega),Option.bind_some,tm1 (by omega) hc,nR (by omega),R.step _ hc,nR (by omega),kR (fun j=>rz ring (cy ring.length (a+j)))]
   rfl) (by
   unfold vX
   simp only [rr ha hb,bne_self_eq_false,cond_false]; rfl) (by omega)
  simp only [Nat.add_zero,List.range_zero,List.map_nil] at this
  have e0:cy ring.length a=a:=by unfold cy; rw [if_pos ha]
  rw [e0] at this
  exact this
 rw [e2,Option.bind_some]
theorem gR {ring:List Int} {a b:Nat}:(cM ring a b).length=kF ring.length a b:=by unfold cM; simp
theorem ug {ring:List Int} {a b:Nat}:(fG ring a b).length=kF ring.length b a:=by unfold fG; simp
theorem nk {ring:List Int} {a b:Nat} (ha:a < ring.length) (hb:b < ring.length):∀ e∈cM ring a b,e∈ring:=fun e he=>by
 unfold cM at he
 obtain ⟨j,hj,rfl⟩:=List.mem_map.1 he
 have:=iE ha hb
 exact dU (iA (by have:=List.mem_range.1 hj; omega))
theorem sU {ring:List Int} {a b:Nat} (ha:a < ring.length) (hb:b < ring.length):∀ e∈fG ring a b,e∈ring:=fun e he=>by
 rw [← yz ha hb] at he
 exact nk hb ha e (List.mem_reverse.1 he)
theorem zH {n:ae} (hn:bu n=true) {ring nd:List Int} (R:nB n ring nd) {a b:Nat} (ha:a < ring.length) (hb:b < ring.length) (hab:a ≠ b) :
 CE n ⟨rz nd a,cM ring a b⟩=some ((List.range (kF ring.length a b+1)).map fun j=>rz nd (cy ring.length (a+j)),true):=by
 obtain ⟨b1,b2,b3⟩:=bT hn
 have hl:=R.len
 have h8:=R.le8
 have hk:=iE ha hb
 have hk0:kF ring.length a b ≠ 0:=by unfold kF; split <;> omega
 obtain ⟨q1,q2⟩:=R.ndrg _ (dU (l:=nd) (show a < nd.length by omega))
 unfold CE
 simp only [bnd,jW,Option.bind_some]
 have hw:wi (rz nd a) 0 (IntKind.wrap .i64 ((n.Nodes.length:Int) - 1))=true:=by
  rw [aG (by omega) (by omega)]; exact dd.2 (by omega)
 rw [hw]
 have h0:(((cM ring a b).length:Int)==0)=false:=by rw [beq_eq_false_iff_ne,gR]; omega
 simp only [Bool.not_true,cond_false,h0,Option.bind_some]
 have e1:aZ (wM n ⟨rz nd a,cM ring a b⟩) N0 (0,[rz nd a])=some (.inl ((List.range (kF ring.length a b+1)).map fun j=>rz nd (cy ring.length (a+j)))):=by
  have:=eG (f:=wM n ⟨rz nd a,cM ring a b⟩) (fun j=>((j:Int),(List.range (j+1)).map fun j=>rz nd (cy ring.length (a+j)))) (kF ring.length a b) (.inl ((List.range (kF ring.length a b+1)).map fun j=>rz nd (cy ring.length (a+j)))) (fun j hj=>by
   have hc:cy ring.length (a+j) < ring.length:=iA (by omega)
   have hg:(cM ring a b)[j]?=some (rz ring (cy ring.length (a+j))):=by
    unfold cM
    rw [List.getElem?_map,List.getElem?_range hj]; rfl
   obtain ⟨g1,g2⟩:=R.rg _ (dU hc)
   unfold wM
   have h1:decide ((j:Int) < (cM ring a b).length)=true:=by rw [gR]; simp [hj]
   simp only [h1,cond_true,aU,hg,Option.bind_some,jW,List.length_map,List.length_range]
   have hwe:wi (rz ring (cy ring.length (a+j))) 0 (IntKind.wrap .i64 ((n.Fibers.length:Int) - 1))=true:=by
    rw [aG (by omega) (by omega)]; exact dd.2 (by omega)
   have hix:IntKind.wrap .i64 (((j+1:Nat):Int) - 1)=(j:Int):=by rw [aG (by omega) (by omega)]; omega
   have hat:((List.range (j+1)).map fun j=>rz nd (cy ring.length (a+j)))[j]?=some (rz nd (cy ring.length (a+j))):=by
    rw [List.getElem?_map,List.getElem?_range (by omega)]; rfl
   have hc2:cy ring.length (a+(j+1)) < ring.length:=iA (by omega)
   obtain ⟨x1,x2⟩:=R.ndrg _ (dU (l:=nd) (show cy ring.length (a+(j+1)) < nd.length by omega))
   have hneg:decide (rz nd (cy ring.length (a+(j+1))) < 0)=false:=by simp; omega
   have hany:(((List.range (j+1)).map fun j=>rz nd (cy ring.length (a+j))).any fun y=>y==rz nd (cy ring.length (a+(j+1))))=false:=by
    rw [List.any_eq_false]
    intro y hy
    obtain ⟨t,ht,rfl⟩:=List.mem_map.1 hy
    have ht:=List.mem_range.1 ht
    have hct:cy ring.length (a+t) < ring.length:=iA (by omega)
    simp only [beq_iff_eq]
    intro e
    have:=oO R.nodup (by omega) (by omega) e
    unfold cy at this
    split at this <;> split at this <;> omega
   simp only [hwe,Bool.not_true,cond_false,hix]
   rw [aY ⟨by omega,by omega⟩,Option.bind_some,Int.toNat_natCast,hat,Option.bind_some,jl n _ _ (dd.2 (by omega)),Option.bind_some,R.step _ hc,nR (by omega)]
   rw [show a+j+1=a+(j+1) by omega,hneg,cond_false,eO _ _ (by simp; omega),hany,Option.bind_some]
   simp only [Option.bind_some,cond_false]
   rw [aY (by omega)]
   simp only [Option.bind_some,bnd]
   have e2:((List.range (j+1)).map fun j=>rz nd (cy ring.length (a+j)))++[rz nd (cy ring.length (a+(j+1)))]=(List.range (j+1+1)).map fun j=>rz nd (cy ring.length (a+j)):=kR (fun j=>rz nd (cy ring.length (a+j))) (j+1)
   rw [aG (n:=(j:Int)+1) (by omega) (by omega),e2]
   rfl) (by
   unfold wM
   simp [gR]) (by omega)
  simp only [Nat.zero_add,List.range_one,List.map_cons,List.map_nil,Nat.add_zero] at this
  have e0:cy ring.length a=a:=by unfold cy; rw [if_pos ha]
  rw [e0] at this
  exact this
 rw [e1]; rfl
theorem FU {n:ae} (hn:bu n=true) (hz:bz n≤1048576) {ring nd:List Int} (R:nB n ring nd) {a b:Nat} (ha:a < ring.length) (hb:b < ring.length) (hab:a ≠ b) :
 Fv n ⟨rz nd b,cM ring b a⟩=some (⟨rz nd a,fG ring a b⟩,true):=by
 have hk:=iE hb ha
 have h8:=R.le8
 unfold Fv Ml Mr KI
 rw [nP n hz,hn]
 simp only [Option.bind_some,Bool.not_true,cond_false,zH hn R hb ha (Ne.symm hab),List.length_map,List.length_range]
 have hix:IntKind.wrap .i64 (((kF ring.length b a+1:Nat):Int) - 1)=((kF ring.length b a:Nat):Int):=by rw [aG (by omega) (by omega)]; omega
 have hat:((List.range (kF ring.length b a+1)).map fun j=>rz nd (cy ring.length (b+j)))[kF ring.length b a]?=some (rz nd a):=by
  rw [List.getElem?_map,List.getElem?_range (by omega),Option.map_some,rr hb ha]
 rw [hix,aY ⟨by omega,by omega⟩,Option.bind_some,Int.toNat_natCast,hat]
 simp only [Option.bind_some]
 have hrv:=ju (cM ring b a) (by rw [gR]; omega)
 unfold sG at hrv
 have e:aZ (Fg ⟨rz nd b,cM ring b a⟩) N0 (IntKind.wrap .i64 (((cM ring b a).length:Int) - 1),[])=some (cM ring b a).reverse:=by
  have hd:Fg ⟨rz nd b,cM ring b a⟩=M_x (cM ring b a):=rfl
  rw [hd]
  simpa using hrv
 rw [e,Option.bind_some,yz ha hb]
def kB (n:ae) (x y:au):List au:=if iJ n y x < 0 then [y,x] else [x,y]
def eh (e:Int) (r:au):Bool:=!decide (e∈r.Fibers)
def swP (n:ae) (ring:List Int) (fiber:Int):List au×Bool :=
 if co n ring&&wi fiber 0 ((n.Fibers.length:Int) - 1) then
  match bI n ring,n.Fibers[fiber.toNat]? with
  | some nd, some f => match bv (fun _ x => f.A == x) nd, bv (fun _ x => f.B == x) nd with
    | some p,some q=>((kB n ⟨f.A,cM ring p.1 q.1⟩ ⟨f.A,fG ring p.1 q.1⟩).filter (eh fiber),true)
    | _,_=>([],false)
  | _,_=>([],false)
 else ([],false)
theorem Rj (xs:List Int) (v:Int) (hl:xs.length≤1048576):tD xs v=some (match bv (fun _ x=>v==x) xs with | some q=>(q.1:Int) | none=>-1):=by
 unfold tD
 rw [cg (f:=M_l xs v) xs (fun _ x=>v==x) (fun i _=>(i:Int)) () (fun i x hx _=>by
  have hlt:=(List.getElem?_eq_some_iff.1 hx).1
  have h1:decide ((i:Int) < xs.length)=true:=by simp [hlt]
  simp only [M_l,h1,cond_true,aU,hx,Option.bind_some]
  rw [aG (by omega) (by omega)]
  cases v==x <;> rfl) (by simp [M_l]) (by omega)]
 cases bv (fun _ x=>v==x) xs <;> rfl
theorem KY {ring:List Int} (h8:ring.length≤8) {a b:Nat} (ha:a < ring.length) (hb:b < ring.length):aZ (vz ring (b:Int)) N0 ((a:Int),[])=some (cM ring a b):=by
 have hk:=iE ha hb
 have:=eG (f:=vz ring (b:Int)) (fun j=>(((cy ring.length (a+j):Nat):Int),(List.range j).map fun j=>rz ring (cy ring.length (a+j)))) (kF ring.length a b) (cM ring a b) (fun j hj=>by
  have hc:cy ring.length (a+j) < ring.length:=iA (by omega)
  have hne:=OP ha hb hj
  unfold vz
  have h1:(((cy ring.length (a+j):Nat):Int) != (b:Int))=true:=bne_iff_ne.2 (by omega)
  simp only [h1,cond_true,aU,ga hc,Option.bind_some,bnd]
  rw [aY (by simp; omega),Option.bind_some,aY (by omega),Option.bind_some,tm1 (by omega) hc,nR (by omega),kR (fun j=>rz ring (cy ring.length (a+j)))]
  rfl) (by
  unfold vz
  simp only [rr ha hb,bne_self_eq_false,cond_false]; rfl) (by omega)
 simp only [Nat.add_zero,List.range_zero,List.map_nil] at this
 have e0:cy ring.length a=a:=by unfold cy; rw [if_pos ha]
 rw [e0] at this
 exact this
theorem KM {ring:List Int} (h8:ring.length≤8) {a b:Nat} (ha:a < ring.length) (hb:b < ring.length):aZ (vT ring (b:Int)) N0 ((a:Int),[])=some (fG ring a b):=by
 have hk:=iE hb ha
 have:=eG (f:=vT ring (b:Int)) (fun j=>(((cb ring.length a j:Nat):Int),(List.range j).map fun j=>rz ring (cb ring.length a (j+1)))) (kF ring.length b a) (fG ring a b) (fun j hj=>by
  have hc:cb ring.length a j < ring.length:=mf ha (by omega)
  have hc2:cb ring.length a (j+1) < ring.length:=mf ha (by omega)
  have hne:=SC ha hb hj
  unfold vT
  have h1:(((cb ring.length a j:Nat):Int) != (b:Int))=true:=bne_iff_ne.2 (by omega)
  simp only [h1,cond_true,bnd]
  rw [aY (by omega),Option.bind_some,tm2 (by omega) hc,Rl ha (by omega)]
  simp only [aU,ga hc2,Option.bind_some]
  have e2:((List.range j).map fun j=>rz ring (cb ring.length a (j+1)))++[rz ring (cb ring.length a (j+1))]=(List.range (j+1)).map fun j=>rz ring (cb ring.length a (j+1)):=kR (fun j=>rz ring (cb ring.length a (j+1))) j
  rw [aY (by simp; omega),Option.bind_some,e2]) (by
  unfold vT
  simp only [IK ha hb,bne_self_eq_false,cond_false]; rfl) (by omega)
 simp only [List.range_zero,List.map_nil] at this
 have e0:cb ring.length a 0=a:=by unfold cb; rw [if_pos (by omega)]; omega
 rw [e0] at this
 exact this
theorem Sk (r:au) (e:Int) (h:r.Fibers.length≤1048576):jH r e=some (!eh e r,e):=by
 unfold jH eh
 rw [ie _ _ h]; simp
theorem yw (e:Int):∀ (xs:List au),(∀ x∈xs,x.Fibers.length≤1048576)→cO (fun t s=>jH t s) xs e=some (xs.filter (eh e),e)
 | [],_=>by simp [cO]
 | x :: xs, hx => by
   simp only [cO,Sk x e (hx x (by simp)),Option.bind_some]
   rw [yw e xs fun y hy=>hx y (by simp [hy])]
   cases h:eh e x with
   | true=>simp [h]
   | false=>simp [h]
theorem KK (X:List au) (a:Int):pc id (⟨0,[]⟩:au) X a=na (fun t s=>jH t s) (⟨0,[]⟩:au) X a:=by
 have h1:Ee id (⟨0,[]⟩:au) X=oW (fun t s=>jH t s) X:=rfl
 have h2:ET id (⟨0,[]⟩:au) X=nA (fun t s=>jH t s) X:=rfl
 have h3:vd id (⟨0,[]⟩:au) X a=vq (fun t s=>jH t s) X a:=by
  unfold vd vq
  rw [h1]
  congr 1
  funext o; cases o <;> rfl
 unfold pc na
 rw [h2,h3]
theorem Db {n:ae} {x y:au} (hx:RtB n x) (hy:RtB n y) (p:au→Bool):jO (fun a b=>ws a b n) ([x,y].filter p)=some ((kB n x y).filter p):=by
 have hm:∀ z∈[x,y].filter p,z=x∨z=y:=fun z hz=>by
  have:=(List.mem_filter.1 hz).1
  simpa using this
 have hB:∀ z∈[x,y].filter p,RtB n z:=fun z hz=>by rcases hm z hz with e | e <;> rw [e] <;> assumption
 have anti:∀ a b:au,iJ n a b < 0→¬ iJ n b a < 0:=fun a b h=>by rw [ut n a b]; omega
 have irr:∀ a:au,¬ iJ n a a < 0:=fun a h=>anti a a h h
 obtain ⟨ys,h1,h2,h3⟩:=oC (cmp:=fun a b=>ws a b n) (xs:=[x,y].filter p) (iJ n) (by
  have:=List.length_filter_le p [x,y]
  simp only [List.length_cons,List.length_nil] at this; omega) (fun a ha b hb=>by
  unfold ws
  rw [mu (hB a ha) (hB b hb),Option.bind_some]) (fun a _=>irr a) (fun a ha b hb c hc g1 g2=>by
  rcases hm a ha with rfl | rfl <;> rcases hm b hb with rfl | rfl <;> rcases hm c hc with rfl | rfl <;> first | exact g1 | exact g2 | exact absurd g1 (irr _) | exact absurd g2 (irr _) | exact absurd g2 (anti _ _ g1)) (fun a ha b hb c hc g1 g2=>by
  rcases hm a ha with rfl | rfl <;> rcases hm b hb with rfl | rfl <;> rcases hm c hc with rfl | rfl <;> first | exact g1 | exact g2 | exact irr _)
 rw [h1]
 congr 1
 have one:∀ z:au,ys.Perm [z]→ys=[z]:=fun z h=>List.perm_singleton.1 h
 unfold kB
 cases hpx:p x with
 | true =>
   cases hpy:p y with
   | true =>
     have e:[x,y].filter p=[x,y]:=by simp [hpx,hpy]
     rw [e] at h2
     have hl:=h2.length_eq
     match ys,hl with
     | [u, v], _ =>
       have hu:u=x∨u=y:=by have:=h2.subset (show u∈[u,v] by simp); simpa using this
       have h4:¬ iJ n v u < 0:=by simpa using h3
       rcases hu with rfl | rfl
       · have hv:v=y:=by
          have:=(List.perm_cons u).1 h2
          simpa using List.perm_singleton.1 this
         subst hv
         rw [if_neg h4]; simp [hpx,hpy]
       · have hv:v=x:=by
          have:=(List.perm_cons u).1 (h2.trans (List.Perm.swap u x []))
          simpa using List.perm_singleton.1 this
         subst hv
         by_cases h5:iJ n u v < 0
         · rw [if_pos h5]; simp [hpx,hpy]
         · rw [if_neg h5]
           have h6:=ut n u v
           have:u=v:=zD (by omega:iJ n u v=0)
           subst this
           simp [hpx]
   | false =>
     have e:[x,y].filter p=[x]:=by simp [hpx,hpy]
     rw [e] at h2
     rw [one _ h2]
     split <;> simp [hpx,hpy]
 | false =>
   cases hpy:p y with
   | true =>
     have e:[x,y].filter p=[y]:=by simp [hpx,hpy]
     rw [e] at h2
     rw [one _ h2]
     split <;> simp [hpx,hpy]
   | false =>
     have e:[x,y].filter p=[]:=by simp [hpx,hpy]
     rw [e] at h2
     rw [List.perm_nil.1 h2]
     split <;> simp [hpx,hpy]
theorem jk {xs:List Int} {v:Int}:v∈xs↔(bv (fun _ x=>v==x) xs).isSome=true:=by
 cases h:bv (fun _ x=>v==x) xs with
 | none =>
   simp only [Option.isSome_none,Bool.false_eq_true,iff_false]
   intro hm
   obtain ⟨i,hi⟩:=List.getElem?_of_mem hm
   have:=cT.1 h i v hi
   simp at this
 | some q =>
   obtain ⟨h1,h2,_⟩:=ca.1 (show bv (fun _ x=>v==x) xs=some (q.1,q.2) from h)
   simp only [Option.isSome_some,iff_true]
   rw [eq_of_beq h2]
   exact List.mem_of_getElem? h1
theorem gA {xs:List Int} {v:Int} {q:Nat×Int} (h:bv (fun _ x=>v==x) xs=some q):q.1 < xs.length∧rz xs q.1=v:=by
 obtain ⟨h1,h2,_⟩:=ca.1 (show bv (fun _ x=>v==x) xs=some (q.1,q.2) from h)
 have hlt:=(List.getElem?_eq_some_iff.1 h1).1
 refine ⟨hlt,?_⟩
 have:=ga hlt
 rw [h1] at this
 have e:=Option.some.inj this
 rw [← e]; exact (eq_of_beq h2).symm
theorem xN {n:ae} {ring nd:List Int} (R:nB n ring nd) {A:Int} (hA:0≤A∧A < 8) {a b:Nat} (ha:a < ring.length) (hb:b < ring.length):RtB n ⟨A,cM ring a b⟩∧RtB n ⟨A,fG ring a b⟩:=by
 have h8:=R.le8
 have k1:=iE ha hb
 have k2:=iE hb ha
 exact ⟨⟨by simp only [gR]; omega,fun e he=>R.rg e (nk ha hb e he),hA⟩,⟨by simp only [ug]; omega,fun e he=>R.rg e (sU ha hb e he),hA⟩⟩
theorem iH (n:ae) (ring:List Int) (fiber:Int) (hz:bz n≤1048576) (hr:ring.length≤1048576):EP n ring fiber=some (swP n ring fiber):=by
 unfold EP swP
 have hz2:=tx hz
 rw [eP n ring hz hr]
 simp only [Option.bind_some,eW]
 cases hR:co n ring with
 | false=>rfl
 | true =>
   unfold co at hR
   rw [Bool.and_eq_true] at hR
   obtain ⟨hn,hs⟩:=hR
   obtain ⟨b1,b2,b3⟩:=bT hn
   obtain ⟨nd,hp⟩:=Option.isSome_iff_exists.1 hs
   have R:=nI hn hr hp
   have hl:=R.len
   have h8:=R.le8
   simp only [Bool.not_true,cond_false,Option.bind_some,Bool.true_and]
   rw [aG (n:=(n.Fibers.length:Int) - 1) (by omega) (by omega)]
   cases hw:wi fiber 0 ((n.Fibers.length:Int) - 1) with
   | false=>rfl
   | true =>
     obtain ⟨f,f1,f2⟩:=dW hw
     obtain ⟨l,l1,l2⟩:=lj n ring hz2.2.1 hr
     obtain ⟨fa,fb,fc,_⟩:=df hn f2
     rw [l1,l2 nd hp]
     simp only [Bool.not_true,cond_false,Option.bind_some,f1,f2,hp,if_true,Rj nd _ (by omega)]
     cases hA:bv (fun _ x=>f.A==x) nd with
     | none =>
       cases bv (fun _ x=>f.B==x) nd <;> rfl
     | some p =>
       have hpn:decide (((p.1:Nat):Int) < 0)=false:=by simp
       cases hB:bv (fun _ x=>f.B==x) nd with
       | none=>simp only [hpn,cond_false,Option.bind_some]; rfl
       | some q =>
         have hqn:decide (((q.1:Nat):Int) < 0)=false:=by simp
         obtain ⟨a1,a2⟩:=gA hA
         obtain ⟨q1,q2⟩:=gA hB
         obtain ⟨B1,B2⟩:=xN R (A:=f.A) ⟨fa,by omega⟩ (show p.1 < ring.length by omega) (show q.1 < ring.length by omega)
         have hfl:=yw fiber [⟨f.A,cM ring p.1 q.1⟩,⟨f.A,fG ring p.1 q.1⟩] (fun x hx=>by
          simp only [List.mem_cons,List.not_mem_nil,or_false] at hx
          rcases hx with rfl | rfl
          · have:=B1.1; omega
          · have:=B2.1; omega)
         simp only [hpn,hqn,cond_false,Option.bind_some,KY h8 (show p.1 < ring.length by omega) (show q.1 < ring.length by omega),KM h8 (show p.1 < ring.length by omega) (show q.1 < ring.length by omega),bnd,KK]
         rw [Io _ _ (by simp) hfl,Option.bind_some]
         have e1:∀ (xs zs:List au),dP (xs++zs) 0 xs.length=xs:=fun xs zs=>by rw [eF]; simp
         have e2:∀ (xs zs ys:List au),ys.length=xs.length→dP (cG (xs++zs) 0 ys) 0 xs.length=ys:=fun xs zs ys hy=>by
          rw [eF,cG,if_pos (by simp; omega)]; simp [hy]
         have hsr:=Db B1 B2 (eh fiber)
         simp only [e1,hsr,Option.bind_some]
         rw [e2 _ _ _ (gH hsr)]
theorem iK (n:ae) (ring:List Int) (fiber:Int) (hz:bz n≤1048576) (hr:ring.length≤1048576):IB n ring fiber=some (swP n ring fiber):=by
 unfold IB swP
 have hz2:=tx hz
 rw [pd n ring hz hr]
 simp only [Option.bind_some,jW]
 cases hR:co n ring with
 | false=>rfl
 | true =>
   unfold co at hR
   rw [Bool.and_eq_true] at hR
   obtain ⟨hn,hs⟩:=hR
   obtain ⟨b1,b2,b3⟩:=bT hn
   obtain ⟨nd,hp⟩:=Option.isSome_iff_exists.1 hs
   have R:=nI hn hr hp
   have hl:=R.len
   have h8:=R.le8
   simp only [Bool.not_true,cond_false,Option.bind_some,Bool.true_and]
   rw [aG (n:=(n.Fibers.length:Int) - 1) (by omega) (by omega)]
   cases hw:wi fiber 0 ((n.Fibers.length:Int) - 1) with
   | false=>rfl
   | true =>
     obtain ⟨f,f1,f2⟩:=dW hw
     have hwi:=dd.1 hw
     obtain ⟨fa,fb,fc,_⟩:=df hn f2
     have ho:=(kr (jI ring) n.Fibers 0)
     have hc:=(kr (fun i f=>!jI ring i f&&rn nd i f) n.Fibers 0)
     rw [nN n ring nd hn hr (by omega) hp]
     simp only [Bool.not_true,cond_false,Option.bind_some,f1,f2,hp,if_true,eO (ki n ring) fiber (by unfold ki; omega),eO (jX n ring nd) fiber (by unfold jX; omega),← fA]
     have hfn:n.Fibers[fiber.toNat]?=some f:=f2
     have hin:(fiber∈ki n ring∨fiber∈jX n ring nd)↔f.A∈nd∧f.B∈nd:=by
      have g:∀ p:Nat→ar→Bool,fiber∈gE p 0 n.Fibers↔p fiber.toNat f=true:=fun p=>by
       rw [gv]
       constructor
       · rintro ⟨j,x,h1,h2,h3⟩
         rw [Nat.zero_add] at h2 h3
         have e:j=fiber.toNat:=by omega
         rw [e] at h1 h2
         rw [hfn] at h1
         rw [Option.some.inj h1]; exact h2
       · intro h
         exact ⟨fiber.toNat,f,hfn,by rw [Nat.zero_add]; exact h,by omega⟩
      unfold ki jX
      rw [g,g]
      unfold jI rn
      have et:((fiber.toNat:Nat):Int)=fiber:=by omega
      rw [et]
      simp only [decide_eq_true_eq,Bool.and_eq_true,Bool.not_eq_true',decide_eq_false_iff_not]
      constructor
      · rintro (h | ⟨_,h⟩)
        · obtain ⟨i,hi⟩:=List.getElem?_of_mem h
          have hil:=(List.getElem?_eq_some_iff.1 hi).1
          rw [ga hil] at hi
          exact R.ends i f hil (by rw [Option.some.inj hi]; exact hfn)
        · exact h
      · intro h
        by_cases hm:fiber∈ring
        · exact .inl hm
        · exact .inr ⟨hm,h⟩
     have hcond:((cond (!decide (fiber∈ki n ring)) (some (!decide (fiber∈jX n ring nd))) (some false):Option Bool))=some (!(decide (f.A∈nd)&&decide (f.B∈nd))):=by
      by_cases h1:fiber∈ki n ring
      · obtain ⟨g1,g2⟩:=hin.1 (.inl h1)
        simp [h1,g1,g2]
      · by_cases h2:fiber∈jX n ring nd
        · obtain ⟨g1,g2⟩:=hin.1 (.inr h2)
          simp [h1,h2,g1,g2]
        · have:¬ (f.A∈nd∧f.B∈nd):=fun h=>(hin.2 h).elim h1 h2
          have:(decide (f.A∈nd)&&decide (f.B∈nd))=false:=by
           rw [← Bool.decide_and,decide_eq_false this]
          simp [h1,h2,this]
     rw [hcond,Option.bind_some]
     cases hA:bv (fun _ x=>f.A==x) nd with
     | none =>
       have:¬ f.A∈nd:=fun h=>by have:=jk.1 h; rw [hA] at this; cases this
       simp [this]
     | some p =>
       have hmA:f.A∈nd:=jk.2 (by rw [hA]; rfl)
       cases hB:bv (fun _ x=>f.B==x) nd with
       | none =>
         have:¬ f.B∈nd:=fun h=>by have:=jk.1 h; rw [hB] at this; cases this
         simp [this]
       | some q =>
         have hmB:f.B∈nd:=jk.2 (by rw [hB]; rfl)
         obtain ⟨a1,a2⟩:=gA hA
         obtain ⟨q1,q2⟩:=gA hB
         have ha:p.1 < ring.length:=by omega
         have hb:q.1 < ring.length:=by omega
         have hab:p.1 ≠ q.1:=fun e=>by rw [e,q2] at a2; omega
         obtain ⟨B1,B2⟩:=xN R (A:=f.A) ⟨fa,by omega⟩ ha hb
         have g1:=tL hn hr hp ha hb
         have g2:=tL hn hr hp hb ha
         have g3:=FU hn hz R ha hb hab
         rw [a2,q2] at g1 g2
         rw [a2,q2] at g3
         rw [decide_eq_true hmA,decide_eq_true hmB]
         simp only [Bool.and_self,Bool.not_true,cond_false,g1,g2,g3,Option.bind_some,ue hn B2 B1]
         have hk:∀ (r:au),RtB n r→M_b r.Fibers fiber=some (!eh fiber r):=fun r h=>by
          rw [eO _ _ (by have:=h.1; omega),← fA]; unfold eh; simp
         have k1:=hk _ B1
         have k2:=hk _ B2
         simp only at k1 k2
         unfold kB
         by_cases hlt:iJ n ⟨f.A,fG ring p.1 q.1⟩ ⟨f.A,cM ring p.1 q.1⟩ < 0
         · rw [if_pos hlt,decide_eq_true hlt]
           simp only [cond_true,Option.bind_some,k1,k2,bnd,Bool.not_not]
           cases e1:eh fiber ⟨f.A,cM ring p.1 q.1⟩ <;> cases e2:eh fiber ⟨f.A,fG ring p.1 q.1⟩ <;> simp [e1,e2,grd]
         · rw [if_neg hlt,decide_eq_false hlt]
           simp only [cond_false,Option.bind_some,k1,k2,bnd,Bool.not_not]
           cases e1:eh fiber ⟨f.A,cM ring p.1 q.1⟩ <;> cases e2:eh fiber ⟨f.A,fG ring p.1 q.1⟩ <;> simp [e1,e2,grd]
end Vs

namespace Vs
open Go
theorem bt' (b:Bool):b=true∨b=false:=by cases b <;> simp
theorem sq {K:Nat} {nodes:List ByteArray} {fs:List ar} (h:Ac K nodes fs):bz ⟨nodes.take K,fs⟩≤1048576∧fs.length≤15:=by
 have hs:∀ (l:List ByteArray),(∀ s∈l,s.size≤9)→(l.map fun x=>x.size).sum≤9 * l.length:=by
  intro l
  induction l with
  | nil=>intro _; simp
  | cons a l ih =>
    intro hl
    have h1:=hl a (by simp)
    have h2:=ih fun s hs=>hl s (by simp [hs])
    simp only [List.map_cons,List.sum_cons,List.length_cons]; omega
 have h1:=hs (nodes.take K) fun s hs=>h.z s (List.mem_of_mem_take hs)
 have h2:(nodes.take K).length≤10:=by rw [List.length_take]; have:=h.n; omega
 have h3:fs.length≤15:=by have:=h.f; omega
 unfold bz lL oD
 simp only
 omega
def wX (code:List Int):Prop:=(∀ x∈code,0≤x∧x≤255)∧code.length≤65536
theorem cur0 {code:List Int} (h:wX code):ck (⟨code,0,0⟩:ax) 0:=⟨h.1,h.2,by simp,by simp⟩
theorem DQ (l:List Int) (x:Int) (hl:l.length≤1048576):xj l x=some (decide (x∈l)):=by
 unfold xj
 rw [ja (f:=Ba l x) l (fun y=>y==x) (.inr true) (.inl ()) (fun i y hy=>by
  have hlt:=(List.getElem?_eq_some_iff.1 hy).1
  have h1:decide ((i:Int) < l.length)=true:=by simp [hlt]
  simp only [Ba,h1,cond_true,aU,hy,Option.bind_some]
  rw [aG (by omega) (by omega)]
  cases y==x <;> rfl) (by simp [Ba]) (by omega),fA]
 cases l.any fun y=>y==x <;> rfl
theorem AG {c:ax} {m:Nat} (h:ck c m) (hm:m≤1000000):∃ (n:ae) (ring:List Int) (c':ax),Iy c=some (n,ring,c')∧bz n≤1048576∧n.Fibers.length≤15∧ring.length≤100∧ck c' (m+1000):=by
 obtain ⟨K,nodes,fs,c1,n1,n2,n3,n4,n5,n6,n7⟩:=qB h (by omega)
 have hD:Ac K nodes fs:=⟨by omega,by omega,by omega,n5,by omega⟩
 obtain ⟨hz,hf⟩:=sq hD
 unfold Iy
 rw [n1,Option.bind_some]
 simp only [bnd]
 rw [mX _ _ hD.k,iG _ hz,Option.bind_some]
 have step:∃ (ring:List Int) (c2:ax),((cond (arP ⟨nodes.take K,fs⟩).2 (some (decide (0 < ((arP ⟨nodes.take K,fs⟩).1.length:Int)))) (some false):Option Bool).bind fun oZ6=>cond (oZ6) ((M_a ((arP ⟨nodes.take K,fs⟩).1.length:Int) c1).bind fun rZ8=>(grd (0≤rZ8.1∧rZ8.1 < ((arP ⟨nodes.take K,fs⟩).1.length:Int))).bind fun kZ9=>((arP ⟨nodes.take K,fs⟩).1[(Int.toNat rZ8.1)]?).bind fun yZ10=>(rE yZ10).bind fun rZ11=>some (rZ11,rZ8.2)) (some ([],c1)))=some (ring,c2)∧ring.length≤8∧ck c2 (m+200):=by
  rcases bt' (arP ⟨nodes.take K,fs⟩).2 with e | e
  · obtain ⟨hn,h6,hok⟩:=HL e
    rw [e,cond_true,Option.bind_some]
    by_cases h0:0 < (arP ⟨nodes.take K,fs⟩).1.length
    · have e1:decide (0 < ((arP ⟨nodes.take K,fs⟩).1.length:Int))=true:=by simp only [decide_eq_true_eq]; omega
      obtain ⟨x,c2,x1,x2,x3,x4⟩:=cP ((arP ⟨nodes.take K,fs⟩).1.length:Int) n7 (by omega)
      have hlt:x.toNat < (arP ⟨nodes.take K,fs⟩).1.length:=by omega
      have hr:=hok _ (List.getElem_mem hlt)
      rw [e1,cond_true,x1,Option.bind_some,aY ⟨x2,by omega⟩,Option.bind_some,List.getElem?_eq_getElem hlt,Option.bind_some,mD _ (by have:=hr.2; omega),Option.bind_some]
      exact ⟨_,_,rfl,hr.2,x4.up (by omega)⟩
    · have e1:decide (0 < ((arP ⟨nodes.take K,fs⟩).1.length:Int))=false:=by simp only [decide_eq_false_iff_not]; omega
      rw [e1]
      exact ⟨_,_,rfl,by simp,n7.up (by omega)⟩
  · rw [e]
    exact ⟨_,_,rfl,by simp,n7.up (by omega)⟩
 obtain ⟨ring,c2,s1,s2,s3⟩:=step
 rw [s1,Option.bind_some]
 obtain ⟨x,c3,x1,x2,x3,x4⟩:=cP 20 s3 (by omega)
 rw [x1,Option.bind_some]
 simp only
 rcases bt' (x==0) with e | e
 · rw [e,cond_true,ju _ (by omega),Option.bind_some]
   exact ⟨_,_,_,rfl,hz,hf,by simp; omega,x4.up (by omega)⟩
 rw [e,cond_false]
 rcases bt' (x==1) with e | e
 · rw [e,cond_true]
   by_cases h0:0 < ring.length
   · have e1:decide (0 < (ring.length:Int))=true:=by simp only [decide_eq_true_eq]; omega
     rw [e1,cond_true,aY ⟨by omega,trivial,by show 1≤ring.length; omega,trivial⟩,Option.bind_some]
     have hl:(dP ring (Int.toNat 1) (ring.length - Int.toNat 1)).length≤8:=by
      unfold dP
      split
      · omega
      · rw [List.length_take,List.length_drop]; omega
     rw [mD _ (by omega),Option.bind_some,aY ⟨by omega,by omega⟩,Option.bind_some]
     rw [show Int.toNat 0=0 from rfl,List.getElem?_eq_getElem h0,Option.bind_some,aY (by omega),Option.bind_some]
     exact ⟨_,_,_,rfl,hz,hf,by rw [List.length_append,List.length_singleton]; omega,x4.up (by omega)⟩
   · have e1:decide (0 < (ring.length:Int))=false:=by simp only [decide_eq_false_iff_not]; omega
     rw [e1,cond_false]
     exact ⟨_,_,_,rfl,hz,hf,by omega,x4.up (by omega)⟩
 rw [e,cond_false]
 rcases bt' (x==2) with e | e
 · obtain ⟨y,c4,y1,y2,y3,y4⟩:=cP 16 x4 (by omega)
   rw [e,cond_true,y1,Option.bind_some,aY (by omega),Option.bind_some]
   exact ⟨_,_,_,rfl,hz,hf,by simp; omega,y4.up (by omega)⟩
 rw [e,cond_false]
 rcases bt' (x==3) with e | e
 · obtain ⟨K2,nodes2,fs2,c4,y1,y2,y3⟩:=rN x4 (by omega)
   obtain ⟨hz2,hf2⟩:=sq y2
   rw [e,cond_true,y1,Option.bind_some]
   rw [mX _ _ y2.k]
   exact ⟨_,_,_,rfl,hz2,hf2,by omega,y3.up (by omega)⟩
 rw [e]
 exact ⟨_,_,_,rfl,hz,hf,by omega,x4.up (by omega)⟩
theorem ES {code:List Int} (h:wX code):∃ (n:ae) (fiber:Int) (ring:List Int),Dk code=some (n,fiber,ring)∧bz n≤1048576∧ring.length≤100:=by
 obtain ⟨n,ring,c1,r1,hz,hf,hr,r2⟩:=AG (cur0 h) (by omega)
 unfold Dk
 rw [r1,Option.bind_some,Iq,Option.bind_some]
 obtain ⟨x,c2,x1,x2,x3,x4⟩:=cP (IntKind.wrap .i64 (mxZ (n.Fibers.length:Int) 1+1)) r2 (by omega)
 rw [x1,Option.bind_some]
 obtain ⟨y,c3,y1,y2,y3,y4⟩:=cP 12 x4 (by omega)
 rw [y1,Option.bind_some,aY (by decide),Option.bind_some]
 exact ⟨_,_,_,rfl,hz,hr⟩
theorem Nm {n:ae} (hn:bu n=true) {e u v:Int} (h:bx n e u=v) (h0:0≤v):bx n e v=u:=by
 unfold bx at h ⊢
 cases hf:n.Fibers[e.toNat]? with
 | none=>rw [hf] at h; simp only at h; omega
 | some f =>
   rw [hf] at h
   obtain ⟨_,hab,_⟩:=df hn hf
   simp only [dp] at h ⊢
   by_cases c1:u=f.A
   · rw [if_pos c1] at h
     rw [if_neg (by omega),if_pos h.symm,c1]
   · rw [if_neg c1] at h
     by_cases c2:u=f.B
     · rw [if_pos c2] at h
       rw [if_pos h.symm,c2]
     · rw [if_neg c2] at h; omega
theorem Jb {n:ae} (hn:bu n=true) (fs vs:Nat→Int) (k:Nat) (hk:k≤1000) (hk0:k ≠ 0) (hr:∀ j,j < k→0≤fs j∧fs j < (n.Fibers.length:Int)) (hv:∀ j,j≤k→0≤vs j∧vs j < (n.Nodes.length:Int))
 (ho:∀ j,j < k→bx n (fs j) (vs j)=vs (j+1)) (hd:∀ i j,i < j→j≤k→vs i ≠ vs j):Dg n ⟨vs 0,(List.range k).map fs⟩=some ((List.range (k+1)).map vs,true):=by
 obtain ⟨b1,b2,b3⟩:=bT hn
 have h0:=hv 0 (by omega)
 unfold Dg
 simp only [eW,Option.bind_some]
 have hw:wi (vs 0) 0 (IntKind.wrap .i64 ((n.Nodes.length:Int) - 1))=true:=by
  rw [aG (by omega) (by omega)]; exact dd.2 (by omega)
 have hz:((((List.range k).map fs).length:Int)==0)=false:=by rw [beq_eq_false_iff_ne]; simp; omega
 rw [hw,hz]
 simp only [Bool.not_true,cond_false,Option.bind_some,bnd]
 have e1:aZ (vE n ⟨vs 0,(List.range k).map fs⟩) N0 (vs 0,0,[vs 0])=some (.inl ((List.range (k+1)).map vs)):=by
  have:=eG (f:=vE n ⟨vs 0,(List.range k).map fs⟩) (fun j=>(vs j,(j:Int),(List.range (j+1)).map vs)) k (.inl ((List.range (k+1)).map vs)) (fun j hj=>by
   obtain ⟨g1,g2⟩:=hr j hj
   have hg:((List.range k).map fs)[j]?=some (fs j):=by rw [List.getElem?_map,List.getElem?_range hj]; rfl
   have hlt:decide ((j:Int) < (((List.range k).map fs).length:Int))=true:=by simp [hj]
   have hwe:wi (fs j) 0 (IntKind.wrap .i64 ((n.Fibers.length:Int) - 1))=true:=by
    rw [aG (by omega) (by omega)]; exact dd.2 (by omega)
   obtain ⟨f,f1,f2⟩:=dW (n:=n) (e:=fs j) (dd.2 (by omega))
   have ho':=ho j hj
   unfold bx at ho'
   rw [f2] at ho'
   simp only at ho'
   obtain ⟨v1,v2⟩:=hv (j+1) (by omega)
   have hneg:decide (vs (j+1) < 0)=false:=by simp; omega
   have hnm:decide (vs (j+1)∈(List.range (j+1)).map vs)=false:=by
    rw [decide_eq_false_iff_not]
    intro hm
    obtain ⟨t,ht,e⟩:=List.mem_map.1 hm
    exact hd t (j+1) (List.mem_range.1 ht) (by omega) e
   unfold vE
   simp only [hlt,cond_true,aU,hg,Option.bind_some,eW,hwe,Bool.not_true,cond_false,f1,kg,ho',hneg]
   rw [ie _ _ (by simp; omega),hnm]
   simp only [Option.bind_some,cond_false,bnd,List.length_map,List.length_range]
   rw [aY (by omega),Option.bind_some,aG (n:=(j:Int)+1) (by omega) (by omega),kR vs (j+1)]
   rfl) (by
   unfold vE
   simp) (by omega)
  exact this
 rw [e1]; rfl
theorem Fe {n:ae} (hn:bu n=true) (hz:bz n≤1048576) {ring nd:List Int} (R:nB n ring nd) {a b:Nat} (ha:a < ring.length) (hb:b < ring.length) (hab:a ≠ b) :
 uJ n ⟨rz nd a,cM ring a b⟩=some ((List.range (kF ring.length a b+1)).map fun j=>rz nd (cy ring.length (a+j)),true):=by
 have hl:=R.len
 have h8:=R.le8
 have hk:=iE ha hb
 have e0:cy ring.length (a+0)=a:=by unfold cy; rw [Nat.add_zero,if_pos ha]
 have:=Jb hn (fun j=>rz ring (cy ring.length (a+j))) (fun j=>rz nd (cy ring.length (a+j))) (kF ring.length a b) (by omega) (by unfold kF; split <;> omega)
  (fun j hj=>R.rg _ (dU (iA (by omega)))) (fun j hj=>R.ndrg _ (dU (by rw [hl]; exact iA (by omega)))) (fun j hj=>by
   rw [R.step _ (iA (by omega)),nR (by omega),Nat.add_assoc]) (fun i j hij hj e=>by
   have h1:cy ring.length (a+i) < ring.length:=iA (by omega)
   have h2:cy ring.length (a+j) < ring.length:=iA (by omega)
   have:=oO R.nodup (by omega) (by omega) e
   unfold cy at this
   split at this <;> split at this <;> omega)
 simp only [e0] at this
 unfold uJ
 rw [dm n hz,hn]
 simp only [Option.bind_some,Bool.not_true,cond_false]
 unfold cM
 rw [this]; rfl
theorem En {n:ae} (hn:bu n=true) (hz:bz n≤1048576) {ring nd:List Int} (R:nB n ring nd) {a b:Nat} (ha:a < ring.length) (hb:b < ring.length) (hab:a ≠ b) :
 uJ n ⟨rz nd a,fG ring a b⟩=some ((List.range (kF ring.length b a+1)).map fun j=>rz nd (cb ring.length a j),true):=by
 have hl:=R.len
 have h8:=R.le8
 have hk:=iE hb ha
 have e0:cb ring.length a 0=a:=by unfold cb; rw [if_pos (by omega)]; omega
 have:=Jb hn (fun j=>rz ring (cb ring.length a (j+1))) (fun j=>rz nd (cb ring.length a j)) (kF ring.length b a) (by omega) (by unfold kF; split <;> omega)
  (fun j hj=>R.rg _ (dU (mf ha (by omega)))) (fun j hj=>R.ndrg _ (dU (by rw [hl]; exact mf ha (by omega)))) (fun j hj=>by
   have hc:cb ring.length a (j+1) < ring.length:=mf ha (by omega)
   have hs:=R.step _ hc
   have e:cy ring.length (cb ring.length a (j+1)+1)=cb ring.length a j:=by
    unfold cy cb
    by_cases h1:j+1≤a
    · rw [if_pos h1,if_pos (by omega),if_pos (by omega)]; omega
    · rw [if_neg h1]
      by_cases h2:j≤a
      · rw [if_pos h2,if_neg (by omega)]; omega
      · rw [if_neg h2,if_pos (by omega)]; omega
   rw [e] at hs
   exact Nm hn hs (R.ndrg _ (dU (by rw [hl]; exact mf ha (by omega)))).1) (fun i j hij hj e=>by
   have h1:cb ring.length a i < ring.length:=mf ha (by omega)
   have h2:cb ring.length a j < ring.length:=mf ha (by omega)
   have:=oO R.nodup (by omega) (by omega) e
   unfold cb at this
   split at this <;> split at this <;> omega)
 simp only [e0] at this
 unfold uJ
 rw [dm n hz,hn]
 simp only [Option.bind_some,Bool.not_true,cond_false]
 unfold fG
 rw [this]; rfl
theorem Fh {n:ae} {ring nd:List Int} (R:nB n ring nd) (hnd:ring.Nodup):(ki n ring).length=ring.length:=by
 have h8:=R.le8
 obtain ⟨l,_,l2,l3⟩:=yt ring (by omega)
 have h:=rR (ki n ring) l (mF _ _ _) (pD l3 (l2.nodup_iff.2 hnd)) (fun x=>by
  rw [l2.mem_iff]
  unfold ki
  rw [gv]
  constructor
  · rintro ⟨j,f,h1,h2,h3⟩
    unfold jI at h2
    rw [h3]; exact of_decide_eq_true h2
  · intro hx
    obtain ⟨g1,g2⟩:=R.rg x hx
    have hlt:x.toNat < n.Fibers.length:=by omega
    refine ⟨x.toNat,n.Fibers[x.toNat],List.getElem?_eq_getElem hlt,?_,by omega⟩
    unfold jI
    rw [Nat.zero_add,decide_eq_true_eq,show ((x.toNat:Nat):Int)=x by omega]; exact hx)
 rw [h]; exact l2.length_eq
theorem KF {ring:List Int} {a b:Nat} (ha:a < ring.length) (hb:b < ring.length) (hab:a ≠ b) (e:Int) (he:e∈ring):e∈cM ring a b∨e∈fG ring a b:=by
 obtain ⟨i,hi⟩:=List.getElem?_of_mem he
 have hil:=(List.getElem?_eq_some_iff.1 hi).1
 rw [ga hil] at hi
 have hi:=Option.some.inj hi
 have hF:∀ j,j < kF ring.length a b→cy ring.length (a+j)=i→e∈cM ring a b:=fun j h1 h2=>List.mem_map.2 ⟨j,List.mem_range.2 h1,by rw [h2,hi]⟩
 have hB:∀ j,j < kF ring.length b a→cb ring.length a (j+1)=i→e∈fG ring a b:=fun j h1 h2=>List.mem_map.2 ⟨j,List.mem_range.2 h1,by rw [h2,hi]⟩
 by_cases h1:a≤b
 · by_cases h2:a≤i∧i < b
   · exact .inl (hF (i - a) (by unfold kF; rw [if_pos h1]; omega) (by unfold cy; rw [if_pos (by omega)]; omega))
   · by_cases h4:i < a
     · exact .inr (hB (a - i - 1) (by unfold kF; rw [if_neg (by omega)]; omega) (by unfold cb; rw [if_pos (by omega)]; omega))
     · exact .inr (hB (a+ring.length - i - 1) (by unfold kF; rw [if_neg (by omega)]; omega) (by unfold cb; rw [if_neg (by omega)]; omega))
 · by_cases h2:b≤i∧i < a
   · exact .inr (hB (a - i - 1) (by unfold kF; rw [if_pos (by omega)]; omega) (by unfold cb; rw [if_pos (by omega)]; omega))
   · by_cases h4:i < b
     · exact .inl (hF (ring.length - a+i) (by unfold kF; rw [if_neg h1]; omega) (by unfold cy; rw [if_neg (by omega)]; omega))
     · exact .inl (hF (i - a) (by unfold kF; rw [if_neg h1]; omega) (by unfold cy; rw [if_pos (by omega)]; omega))
theorem Fc (a:List Int) (hl:a.length≤1048576):Ft a a=some true:=by
 unfold Ft
 rw [bne_self_eq_false,cond_false]
 rw [ja (f:=Cf a a) a (fun _=>false) (.inr false) (.inl ()) (fun i x hx=>by
  have hlt:=(List.getElem?_eq_some_iff.1 hx).1
  have h1:decide ((i:Int) < a.length)=true:=by simp [hlt]
  simp only [Cf,h1,cond_true,aU,hx,Option.bind_some,bne_self_eq_false,cond_false]
  rw [aG (by omega) (by omega)]; rfl) (by simp [Cf]) (by omega)]
 simp
theorem nz {n:ae} {ring:List Int} {fiber:Int} (hr:ring.length≤1048576) (h:(swP n ring fiber).2=true):bu n=true∧∃ (nd:List Int) (f:ar) (a b:Nat),bI n ring=some nd∧0≤fiber∧fiber < (n.Fibers.length:Int)∧n.Fibers[fiber.toNat]?=some f∧a < ring.length∧b < ring.length∧a ≠ b∧rz nd a=f.A∧rz nd b=f.B ∧
 swP n ring fiber=((kB n ⟨rz nd a,cM ring a b⟩ ⟨rz nd a,fG ring a b⟩).filter (eh fiber),true):=by
 have hs:swP n ring fiber=swP n ring fiber:=rfl
 conv at hs=>rhs; unfold swP
 rw [hs] at h
 by_cases hc:(co n ring&&wi fiber 0 ((n.Fibers.length:Int) - 1))=true
 · rw [if_pos hc] at h hs
   rw [Bool.and_eq_true] at hc
   obtain ⟨hR,hw⟩:=hc
   unfold co at hR
   rw [Bool.and_eq_true] at hR
   obtain ⟨hn,hi⟩:=hR
   obtain ⟨nd,hp⟩:=Option.isSome_iff_exists.1 hi
   obtain ⟨f,f1,f2⟩:=dW hw
   have hwi:=dd.1 hw
   obtain ⟨_,fab,_⟩:=df hn f2
   have R:=nI hn hr hp
   have hl:=R.len
   rw [hp,f2] at h hs
   simp only at h hs
   cases hA:bv (fun _ x=>f.A==x) nd with
   | none=>rw [hA] at h; cases h
   | some p =>
     cases hB:bv (fun _ x=>f.B==x) nd with
     | none=>rw [hA,hB] at h; cases h
     | some q =>
       rw [hA,hB] at hs
       obtain ⟨a1,a2⟩:=gA hA
       obtain ⟨q1,q2⟩:=gA hB
       refine ⟨hn,nd,f,p.1,q.1,hp,by omega,by omega,f2,by omega,by omega,fun e=>?_,a2,q2,?_⟩
       · rw [e,q2] at a2; omega
       · rw [hs,a2]
 · rw [if_neg hc] at h; cases h
theorem ER {n:ae} {ring:List Int} {fiber:Int} (h:(swP n ring fiber).2=false):(swP n ring fiber).1=[]:=by
 unfold swP at h ⊢
 split
 · rename_i hc
   rw [if_pos hc] at h
   split
   · rename_i nd f hp hf
     rw [hp,hf] at h
     simp only at h
     split
     · rename_i p q hA hB
       rw [hA,hB] at h; cases h
     · rfl
   · rfl
 · rfl
theorem mH {n:ae} {x y r:au}:r∈kB n x y↔r=x∨r=y:=by
 unfold kB
 split
 · simp [or_comm]
 · simp
theorem RG {n:ae} {ring:List Int} {fiber:Int} (hz:bz n≤1048576) (hr:ring.length≤1048576) {r:au} (h:r∈(swP n ring fiber).1):∃ (f:ar) (nodes:List Int),bJ n.Fibers fiber=some f∧fiber ∉ r.Fibers∧r.Fibers.length≤1000 ∧
 uJ n r=some (nodes,true)∧nodes[0]?=some f.A∧0 < nodes.length∧nodes.length≤1000∧nodes[nodes.length - 1]?=some f.B:=by
 cases h2:(swP n ring fiber).2 with
 | false=>rw [ER h2] at h; cases h
 | true =>
   obtain ⟨hn,nd,f,a,b,hp,f0,f1,f2,ha,hb,hab,eA,eB,hs⟩:=nz hr h2
   have R:=nI hn hr hp
   have h8:=R.le8
   have k1:=iE ha hb
   have k2:=iE hb ha
   rw [hs] at h
   obtain ⟨m1,m2⟩:=List.mem_filter.1 h
   have hg:bJ n.Fibers fiber=some f:=by unfold bJ; rw [if_pos f0,f2]
   have hk:fiber ∉ r.Fibers:=by unfold eh at m2; simpa using m2
   rcases mH.1 m1 with rfl | rfl
   · refine ⟨f,_,hg,hk,by simp only [gR]; omega,Fe hn hz R ha hb hab,?_,by simp,by simp; omega,?_⟩
     · rw [List.getElem?_map,List.getElem?_range (by omega),Option.map_some]
       have e0:cy ring.length (a+0)=a:=by unfold cy; rw [Nat.add_zero,if_pos ha]
       rw [e0,eA]
     · rw [List.length_map,List.length_range,List.getElem?_map,List.getElem?_range (by omega),Option.map_some,Nat.add_sub_cancel,rr ha hb,eB]
   · refine ⟨f,_,hg,hk,by simp only [ug]; omega,En hn hz R ha hb hab,?_,by simp,by simp; omega,?_⟩
     · rw [List.getElem?_map,List.getElem?_range (by omega),Option.map_some]
       have e0:cb ring.length a 0=a:=by unfold cb; rw [if_pos (by omega)]; omega
       rw [e0,eA]
     · rw [List.length_map,List.length_range,List.getElem?_map,List.getElem?_range (by omega),Option.map_some,Nat.add_sub_cancel,IK ha hb,eB]
theorem Mb {n:ae} {ring:List Int} {fiber:Int} (hz:bz n≤1048576) (hr:ring.length≤1048576):aZ (vK (n,fiber,ring) (swP n ring fiber)) N0 0=some (.inl ()):=by
 have hlen:(swP n ring fiber).1.length≤2:=by
  cases h2:(swP n ring fiber).2 with
  | false=>rw [ER h2]; simp
  | true =>
    obtain ⟨hn,nd,f,a,b,hp,f0,f1,f2,ha,hb,hab,eA,eB,hs⟩:=nz hr h2
    rw [hs]
    refine Nat.le_trans (List.length_filter_le _ _) ?_
    unfold kB; split <;> simp
 rw [ja (f:=vK (n,fiber,ring) (swP n ring fiber)) (swP n ring fiber).1 (fun _=>false) (.inr false) (.inl ()) (fun i x hx=>by
  have hlt:=(List.getElem?_eq_some_iff.1 hx).1
  have h1:decide ((i:Int) < (swP n ring fiber).1.length)=true:=by simp [hlt]
  obtain ⟨f,nodes,g1,g2,g3,g4,g5,g6,g7,g8⟩:=RG hz hr (List.mem_of_getElem? hx)
  have hw:IntKind.wrap .i64 ((nodes.length:Int) - 1)=((nodes.length - 1:Nat):Int):=by rw [aG (by omega) (by omega)]; omega
  simp only [vK,h1,cond_true]
  rw [aY ⟨by omega,by omega⟩]
  simp only [Option.bind_some,Int.toNat_natCast,hx,g4,Bool.not_true,cond_false,DQ _ _ (show x.Fibers.length≤1048576 by omega),decide_eq_false g2]
  rw [aY ⟨by omega,by omega⟩]
  simp only [Option.bind_some,show Int.toNat 0=0 from rfl,g5,g1,bne_self_eq_false,cond_false,hw,Int.toNat_natCast]
  rw [aY ⟨by omega,by omega⟩]
  simp only [Option.bind_some,g8,bne_self_eq_false,cond_false]
  rw [aG (by omega) (by omega)]; rfl) (by simp [vK]) (by omega)]
 simp
theorem Pp {n:ae} {ring nd:List Int} {fiber:Int} (hr:ring.length≤1048576) (hp:bI n ring=some nd) (h:(swP n ring fiber).2=true):(((swP n ring fiber).1.length:Int)==2)=decide (fiber∈jX n ring nd):=by
 obtain ⟨hn,nd',f,a,b,hp',f0,f1,f2,ha,hb,hab,eA,eB,hs⟩:=nz hr h
 rw [hp] at hp'
 cases hp'
 have R:=nI hn hr hp
 have hl:=R.len
 have hc:fiber∈jX n ring nd↔fiber ∉ ring:=by
  unfold jX
  rw [gv]
  have et:((fiber.toNat:Nat):Int)=fiber:=by omega
  constructor
  · rintro ⟨j,x,h1,h2,h3⟩
    rw [Nat.zero_add] at h2 h3
    rw [Bool.and_eq_true] at h2
    have h4:=h2.1
    unfold jI at h4
    rw [← h3] at h4
    simpa using h4
  · intro h
    refine ⟨fiber.toNat,f,f2,?_,by omega⟩
    rw [Nat.zero_add]
    have mA:f.A∈nd:=by rw [← eA]; exact dU (by omega)
    have mB:f.B∈nd:=by rw [← eB]; exact dU (by omega)
    unfold jI rn
    rw [et]
    simp [h,mA,mB]
 rw [hs]
 simp only
 by_cases hm:fiber∈ring
 · rw [decide_eq_false (fun h=>(hc.1 h) hm),beq_eq_false_iff_ne]
   intro e
   have e:((kB n ⟨rz nd a,cM ring a b⟩ ⟨rz nd a,fG ring a b⟩).filter (eh fiber)).length=2:=by omega
   have e2:(kB n ⟨rz nd a,cM ring a b⟩ ⟨rz nd a,fG ring a b⟩).length=2:=by unfold kB; split <;> rfl
   rw [← e2,List.length_filter_eq_length_iff] at e
   have k1:=e ⟨rz nd a,cM ring a b⟩ (mH.2 (.inl rfl))
   have k2:=e ⟨rz nd a,fG ring a b⟩ (mH.2 (.inr rfl))
   unfold eh at k1 k2
   simp only [Bool.not_eq_true',decide_eq_false_iff_not] at k1 k2
   exact (KF ha hb hab fiber hm).elim k1 k2
 · rw [decide_eq_true (hc.2 hm)]
   have:(kB n ⟨rz nd a,cM ring a b⟩ ⟨rz nd a,fG ring a b⟩).filter (eh fiber)=kB n ⟨rz nd a,cM ring a b⟩ ⟨rz nd a,fG ring a b⟩:=by
    rw [List.filter_eq_self]
    intro r hr'
    unfold eh
    simp only [Bool.not_eq_true',decide_eq_false_iff_not]
    rcases mH.1 hr' with rfl | rfl
    · exact fun h=>hm (nk ha hb _ h)
    · exact fun h=>hm (sU ha hb _ h)
   rw [this]
   unfold kB
   split <;> rfl
theorem MV {n:ae} (hz:bz n≤1048576) (q:Int) (ring:List Int):aZ (vr (n,q,ring) (arP n) ((arP n).2,(arP n).1)) N0 0=some (.inl ()):=by
 have hk:∀ r∈(arP n).1,bu n=true∧OkD n r∧(arP n).1.length≤60:=fun r hr=>by
  cases h:(arP n).2 with
  | true =>
    obtain ⟨g1,g2,g3⟩:=HL h
    exact ⟨g1,g3 r hr,g2⟩
  | false =>
    exfalso
    unfold arP at h hr
    split at hr
    · rename_i h1
      rw [if_pos h1] at h
      split at hr
      · rename_i h2
        rw [if_pos h2] at h; cases h
      · cases hr
    · cases hr
 have hlen:(arP n).1.length≤60:=by
  cases h:(arP n).1 with
  | nil=>simp
  | cons r rs=>rw [← h]; exact (hk r (by rw [h]; simp)).2.2
 rw [ja (f:=vr (n,q,ring) (arP n) ((arP n).2,(arP n).1)) (arP n).1 (fun _=>false) (.inr false) (.inl ()) (fun i x hx=>by
  have hlt:=(List.getElem?_eq_some_iff.1 hx).1
  have h1:decide ((i:Int) < (arP n).1.length)=true:=by simp [hlt]
  obtain ⟨g1,g2,_⟩:=hk x (List.mem_of_getElem? hx)
  have hx8:=g2.2
  have hR:co n x=true:=by unfold co; rw [g1,g2.1]; rfl
  simp only [vr,h1,cond_true]
  rw [aY ⟨by omega,by omega⟩]
  simp only [Option.bind_some,Int.toNat_natCast,hx,Fc x (by omega),Bool.not_true,cond_false,eP n x hz (by omega),hR]
  rw [aG (by omega) (by omega)]; rfl) (by simp [vr]) (by omega)]
 simp
theorem Cs (code:List Int) (o1:code.length≤9223372036854775807∧∀ x∈code,0≤x∧x≤255):JP code=some true:=by
 have hb:=o1.2
 unfold JP LC
 by_cases hl:(65536:Int) < (code.length:Int)
 · simp [hl]
 simp only [decide_eq_false hl,Option.bind_some,cond_false]
 have hc:wX code:=⟨hb,by omega⟩
 obtain ⟨n,fiber,ring,d1,hz,hr⟩:=ES hc
 have hr2:ring.length≤1048576:=by omega
 simp only [d1,Option.bind_some,iH n ring fiber hz hr2,iK n ring fiber hz hr2,beq_self_eq_true,Bool.not_true,cond_false,bne_self_eq_false,Mb hz hr2,ia n ring hz hr2,eP n ring hz hr2]
 have hpf:(pfP n ring).2.2=co n ring:=by
  unfold pfP co
  cases hn:bu n with
  | false=>rfl
  | true =>
    rw [if_pos rfl]
    cases bI n ring <;> rfl
 rw [hpf]
 simp only [beq_self_eq_true,Bool.not_true,cond_false]
 have hmid:((cond (co n ring) (cond (((pfP n ring).1.length:Int) != (ring.length:Int)) (some true) (cond (swP n ring fiber).2 ((xj (pfP n ring).2.1 fiber).bind fun rZ34=>some (!((((swP n ring fiber).1.length:Int)==2)==rZ34))) (some false))) (some false)):Option Bool)=some false:=by
  cases hR:co n ring with
  | false=>rfl
  | true =>
    unfold co at hR
    rw [Bool.and_eq_true] at hR
    obtain ⟨hn,hi⟩:=hR
    obtain ⟨nd,hp⟩:=Option.isSome_iff_exists.1 hi
    have R:=nI hn hr2 hp
    obtain ⟨r1,_⟩:=ko hn hr2 hp
    obtain ⟨b1,b2,b3⟩:=bT hn
    have e:pfP n ring=(ki n ring,jX n ring nd,true):=by unfold pfP; rw [if_pos hn,hp]
    have hcl:(jX n ring nd).length≤n.Fibers.length:=kr _ _ _
    rw [e]
    simp only [cond_true,Fh R r1,bne_self_eq_false,cond_false,DQ _ _ (show (jX n ring nd).length≤1048576 by omega),Option.bind_some]
    cases hs:(swP n ring fiber).2 with
    | false=>rfl
    | true=>rw [cond_true,Pp hr2 hp hs]; simp
 rw [hmid]
 simp only [Option.bind_some,cond_false,mr n hz,iG n hz,beq_self_eq_true,Bool.not_true,bne_self_eq_false,MV hz]
end Vs



