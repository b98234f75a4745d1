/-
  Part of the proof that the law FnBridges returns true at every input; no condition beside the row's own.
-/
import Derived.Test.YteilpiddonoikaaGreatVe
import Derived.Test.YteilpiddonoikaaGreatDa
set_option linter.defProp false
set_option linter.unusedSimpArgs false
set_option linter.unusedVariables false
namespace Vs
open Go
def z_StringS (xs:(List ByteArray)):Nat:=xs.length+(xs.map fun x=>x.size).sum
def z_FiberS (xs:(List TFiber)):Nat:=xs.length
def z_Network (x:TNetwork):Nat:=z_StringS x.Nodes+z_FiberS x.Fibers
end Vs

namespace Vs
open Go
def wi (x a b:Int):Bool:=decide (a≤x)&&decide (x≤b)
theorem wi_iff {x a b:Int}:wi x a b=true↔a≤x∧x≤b:=by simp [wi]
theorem wi_false {x a b:Int}:wi x a b=false↔¬ (a≤x∧x≤b):=by rw [← wi_iff]; simp
theorem p_within (x a b:Int):M_bj x a b=some (wi x a b):=by
 unfold M_bj wi; by_cases h:a≤x <;> simp [h]
theorem p_l1In (x a b:Int):M_bm x a b=some (wi x a b):=by
 unfold M_bm wi; by_cases h:a≤x <;> simp [h]
def letB (c:UInt8):Bool:=decide (97≤c.toNat)&&decide (c.toNat≤122)
def digB (c:UInt8):Bool:=decide (48≤c.toNat)&&decide (c.toNat≤57)
def nameBad (i:Nat) (c:UInt8):Bool:=!letB c&&(!digB c||i==0)
def nameB (s:ByteArray):Bool:=!anyI nameBad s.data.toList&&wi s.size 1 8
theorem getz_nat (s:ByteArray) (i:Nat):getz s (i:Int)=s.data.toList[i]?:=by
 unfold getz
 rw [if_pos (by omega),Int.toNat_natCast]
 by_cases h:i < s.size
 · have h2:i < s.data.toList.length:=by simpa using h
   rw [getElem?_pos s i h,List.getElem?_eq_getElem h2]
   rfl
 · have h2:¬ i < s.data.toList.length:=by simpa using h
   rw [getElem?_neg s i h,List.getElem?_eq_none (Nat.le_of_not_lt h2)]
theorem size_list (s:ByteArray):s.size=s.data.toList.length:=by show s.data.size=s.data.toList.length; rw [Array.length_toList]
theorem letB_c (c:UInt8):letB c=(decide (97≤(c.toNat:Int))&&decide ((c.toNat:Int)≤122)):=by
 unfold letB
 congr 1 <;> exact decide_eq_decide.2 (by omega)
theorem digB_c (c:UInt8):digB c=(decide (48≤(c.toNat:Int))&&decide ((c.toNat:Int)≤57)):=by
 unfold digB
 congr 1 <;> exact decide_eq_decide.2 (by omega)
theorem p_isName (s:ByteArray) (hl:s.size≤1048576):M_dd s=some (nameB s):=by
 unfold M_dd nameB
 rw [size_list] at *
 rw [iter_anyI (f:=M_t s) s.data.toList nameBad (.inr false) (.inl ()) (fun i c hc _=>by
  have hlt:=(List.getElem?_eq_some_iff.1 hc).1
  have h1:decide ((i:Int) < s.size)=true:=decide_eq_true (by rw [size_list]; omega)
  simp only [M_t,h1,cond_true,getz_nat,hc,Option.bind_some,nameBad,letB_c,digB_c]
  rw [w64_eq (by omega) (by omega)]
  have hi:((i:Int)==0)=(i==0):=by rw [Bool.eq_iff_iff]; simp
  rw [hi]
  cases decide (97≤(c.toNat:Int)) <;> cases decide ((c.toNat:Int)≤122) <;> cases decide (48≤(c.toNat:Int)) <;> cases decide ((c.toNat:Int)≤57) <;> cases (i==0) <;> rfl) (by simp [M_t]) (by omega)]
 rw [← size_list]
 cases anyI nameBad s.data.toList <;> simp [p_within]
theorem p_l2Sign (c:UInt8):M_dg (c.toNat:Int)=some (letB c||digB c):=by
 unfold M_dg
 simp only [letB_c,digB_c]
 cases decide (97≤(c.toNat:Int)) <;> cases decide ((c.toNat:Int)≤122) <;> cases decide (48≤(c.toNat:Int)) <;> rfl
theorem fstc (c:UInt8):(cond (decide ((c.toNat:Int) < 97)) (some true) (some (decide (122 < (c.toNat:Int)))):Option Bool)=some (!letB c):=by
 rw [letB_c]
 by_cases h1:(c.toNat:Int) < 97
 · have h2:¬ 97≤(c.toNat:Int):=by omega
   simp [h1,h2]
 · have h2:97≤(c.toNat:Int):=by omega
   simp only [h1,decide_false,cond_false,h2,decide_true,Bool.true_and]
   by_cases h3:122 < (c.toNat:Int)
   · have h4:¬ (c.toNat:Int)≤122:=by omega
     simp [h3,h4]
   · have h4:(c.toNat:Int)≤122:=by omega
     simp [h3,h4]
theorem p_l2Name (s:ByteArray) (hl:s.size≤1048576):M_dh s=some (nameB s):=by
 unfold M_dh nameB
 simp only [p_l1In,Option.bind_some]
 rcases bt (wi s.size 1 8) with hw | hw
 · simp only [hw,Bool.not_true,cond_false,Bool.and_true]
   have hs:0 < s.data.toList.length:=by rw [← size_list]; have:=(wi_iff.1 hw).1; omega
   have h0:s.data.toList[0]?=some s.data.toList[0]:=List.getElem?_eq_getElem hs
   have g0:getz s 0=some s.data.toList[0]:=by rw [← h0]; exact getz_nat s 0
   simp only [g0,Option.bind_some]
   have key:=iter_anyI (f:=M_av s) s.data.toList (fun _ c=>!(letB c||digB c)) (.inr false) (.inl ()) (fun i c hc _=>by
    have hlt:=(List.getElem?_eq_some_iff.1 hc).1
    have h1:decide ((i:Int) < s.size)=true:=decide_eq_true (by rw [size_list]; omega)
    rw [size_list] at hl
    simp only [M_av,h1,cond_true,getz_nat,hc,Option.bind_some,p_l2Sign]
    rw [w64_eq (by omega) (by omega)]
    cases letB c <;> cases digB c <;> rfl) (by simp [M_av]) (by rw [size_list] at hl; omega)
   rw [fstc]
   simp only [Option.bind_some,key]
   rcases bt (letB s.data.toList[0]) with hL | hL
   · simp only [hL,Bool.not_true,cond_false]
     have e:anyI (fun _ c=>!(letB c||digB c)) s.data.toList=anyI nameBad s.data.toList:=by
      refine anyI_congr fun i c hc _=>?_
      unfold nameBad
      by_cases hi:i=0
      · subst hi; rw [h0] at hc; cases hc; rw [hL]; rfl
      · have:(i==0)=false:=by simpa using hi
        rw [this]
        cases letB c <;> cases digB c <;> rfl
     rw [e]
     cases anyI nameBad s.data.toList <;> rfl
   · have:anyI nameBad s.data.toList=true:=anyI_iff.2 ⟨0,_,h0,by unfold nameBad; rw [hL]; simp⟩
     simp only [hL,this,Bool.not_false,cond_true,Bool.not_true]
 · simp [hw]
def idxZ (v:ByteArray) (xs:List ByteArray):Option (Nat×ByteArray):=findI (fun _ x=>x.toList==v.toList) xs
def fidx (v:ByteArray) (xs:List ByteArray):Int:=match idxZ v xs with | some q=>(q.1:Int) | none=>-1
theorem p_l2Find (xs:List ByteArray) (v:ByteArray) (hl:xs.length≤1048576):M_di xs v=some (fidx v xs):=by
 unfold M_di fidx
 rw [iter_findI (f:=M_aw xs v) xs (fun _ x=>x.toList==v.toList) (fun i _=>(i:Int)) () (fun i x hx _=>by
  have hlt:=(List.getElem?_eq_some_iff.1 hx).1
  have h1:decide ((i:Int) < xs.length)=true:=by simp [hlt]
  simp only [M_aw,h1,cond_true,geti_nat,hx,Option.bind_some]
  rw [w64_eq (by omega) (by omega)]
  cases x.toList==v.toList <;> rfl) (by simp [M_aw]) (by omega)]
 unfold idxZ
 cases findI (fun _ x=>x.toList==v.toList) xs <;> rfl
theorem p_Contains_z (xs:List ByteArray) (v:ByteArray) (hl:xs.length≤1048576):M_de xs v=some (xs.any fun x=>x.toList==v.toList):=by
 unfold M_de M_el
 rw [iter_findI (f:=M_as xs v) xs (fun _ x=>x.toList==v.toList) (fun i _=>(i:Int)) () (fun i x hx _=>by
  have hlt:=(List.getElem?_eq_some_iff.1 hx).1
  have h1:decide ((i:Int) < xs.length)=true:=by simp [hlt]
  simp only [M_as,h1,cond_true,geti_nat,hx,Option.bind_some]
  rw [w64_eq (by omega) (by omega),show (v.toList==x.toList)=(x.toList==v.toList) from Bool.beq_comm ..]
  cases x.toList==v.toList <;> rfl) (by simp [M_as]) (by omega)]
 cases e:findI (fun _ x=>x.toList==v.toList) xs with
 | none =>
   have:=findI_none.1 e
   have h:(xs.any fun x=>x.toList==v.toList)=false:=by
    rw [← anyI_any (fun x:ByteArray=>x.toList==v.toList),anyI_false]; exact this
   rw [h]; rfl
 | some q =>
   obtain ⟨i,x⟩:=q
   obtain ⟨h1,h2,_⟩:=findI_some.1 e
   have h:(xs.any fun x=>x.toList==v.toList)=true:=List.any_eq_true.2 ⟨x,List.mem_of_getElem? h1,h2⟩
   rw [h]; simp
def cmpI (x y:Int):Int:=if x < y then -1 else if y < x then 1 else 0
theorem p_cmp (x y:Int):M_bn x y=some (cmpI x y):=by
 unfold M_bn M_bs cmpI
 by_cases h:x < y
 · simp [h]
 · by_cases h2:y < x <;> simp [h,h2]
def cmpF (f g:TFiber):Int:=if f.A ≠ g.A then cmpI f.A g.A else if f.B ≠ g.B then cmpI f.B g.B else if f.Length ≠ g.Length then cmpI f.Length g.Length else cmpI f.Risk g.Risk
theorem cmpI_zero {x y:Int}:cmpI x y=0↔x=y:=by
 unfold cmpI
 split
 · simp; omega
 · split
   · simp; omega
   · simp; omega
theorem p_compareFibers (f g:TFiber):M_df f g=some (cmpF f g):=by
 unfold M_df
 simp only [p_cmp,Option.bind_some,bnd]
 unfold M_cb
 have key:=iter_findI (f:=M_m [cmpI f.A g.A,cmpI f.B g.B,cmpI f.Length g.Length,cmpI f.Risk g.Risk]) [cmpI f.A g.A,cmpI f.B g.B,cmpI f.Length g.Length,cmpI f.Risk g.Risk] (fun _ x=>x != 0) (fun _ x=>x) () (fun i x hx _=>by
  have hlt:=(List.getElem?_eq_some_iff.1 hx).1
  have h1:decide ((i:Int) < ([cmpI f.A g.A,cmpI f.B g.B,cmpI f.Length g.Length,cmpI f.Risk g.Risk].length:Nat))=true:=decide_eq_true (by omega)
  simp only [List.length_cons,List.length_nil] at hlt
  simp only [M_m,h1,cond_true,geti_nat,hx,Option.bind_some]
  rw [w64_eq (by omega) (by omega)]
  cases x != 0 <;> rfl) (by simp [M_m]) (by simp)
 rw [key]
 unfold cmpF findI
 simp only [List.zipIdx_cons,List.zipIdx_nil,List.find?_cons,List.find?_nil]
 by_cases h1:f.A=g.A
 · rw [cmpI_zero.2 h1]
   by_cases h2:f.B=g.B
   · rw [cmpI_zero.2 h2]
     by_cases h3:f.Length=g.Length
     · rw [cmpI_zero.2 h3]
       by_cases h4:f.Risk=g.Risk
       · simp [h1,h2,h3,h4,cmpI_zero.2]
       · have:(cmpI f.Risk g.Risk != 0)=true:=bne_iff_ne.2 fun e=>h4 (cmpI_zero.1 e)
         simp [h1,h2,h3,this]
     · have:(cmpI f.Length g.Length != 0)=true:=bne_iff_ne.2 fun e=>h3 (cmpI_zero.1 e)
       simp [h1,h2,h3,this]
   · have:(cmpI f.B g.B != 0)=true:=bne_iff_ne.2 fun e=>h2 (cmpI_zero.1 e)
     simp [h1,h2,this]
 · have:(cmpI f.A g.A != 0)=true:=bne_iff_ne.2 fun e=>h1 (cmpI_zero.1 e)
   simp [h1,this]
end Vs

namespace Vs
open Go
theorem slT_nat {α:Type} (xs:List α) (i:Nat) (h:i≤xs.length):slT xs (i:Int)=some (xs.take i):=by
 unfold slT
 rw [if_pos ⟨by omega,by simpa using h⟩]; simp
theorem z_net {n:TNetwork} (h:z_Network n≤1048576):n.Nodes.length≤1048576∧n.Fibers.length≤1048576∧∀ x∈n.Nodes,x.size≤1048576:=by
 unfold z_Network z_StringS z_FiberS at h
 refine ⟨by omega,by omega,fun x hx=>?_⟩
 obtain ⟨i,hi,rfl⟩:=List.getElem_of_mem hx
 have:n.Nodes[i].size≤(n.Nodes.map fun x:ByteArray=>x.size).sum:=sum_ge (fun x:ByteArray=>x.size) (xs:=n.Nodes) (i:=i) (x:=n.Nodes[i]) (by simp [hi])
 omega
def nodeBad (n:TNetwork) (i:Nat) (x:ByteArray):Bool:=!nameB x||(n.Nodes.take i).any fun y=>y.toList==x.toList
def fib1 (m:Nat) (f:TFiber):Bool:=decide (f.A < 0)||decide (f.B≤f.A)||decide ((m:Int)≤f.B)||!wi f.Length 1 5000||!wi f.Risk 0 9
def fibBad (n:TNetwork) (i:Nat) (f:TFiber):Bool:=fib1 n.Nodes.length f||(decide (0 < i)&&match n.Fibers[i - 1]? with | some g=>decide (0 < cmpF g f) | none=>false)
def netOk (n:TNetwork):Bool:=!anyI (nodeBad n) n.Nodes&&!anyI (fibBad n) n.Fibers&&wi n.Nodes.length 2 8&&decide (n.Fibers.length≤14)
theorem p_IsValidNetwork (n:TNetwork) (hz:z_Network n≤1048576):M_bt n=some (netOk n):=by
 obtain ⟨h1,h2,h3⟩:=z_net hz
 unfold M_bt netOk
 rw [iter_anyI (f:=M_at n) n.Nodes (nodeBad n) (.inr false) (.inl ()) (fun i x hx _=>by
  have hlt:=(List.getElem?_eq_some_iff.1 hx).1
  have e1:decide ((i:Int) < n.Nodes.length)=true:=by simp [hlt]
  simp only [M_at,e1,cond_true,geti_nat,hx,Option.bind_some,p_isName x (h3 x (List.mem_of_getElem? hx)),slT_nat n.Nodes i (Nat.le_of_lt hlt),p_Contains_z (n.Nodes.take i) x (by simp; omega),nodeBad]
  rw [w64_eq (by omega) (by omega)]
  rcases bt (nameB x) with e | e <;> rcases bt ((n.Nodes.take i).any (fun y=>y.toList==x.toList)) with e' | e' <;> simp only [e,e'] <;> rfl) (by simp [M_at]) (by omega)]
 rcases bt (anyI (nodeBad n) n.Nodes) with hN | hN
 · simp [hN]
 · simp only [hN,Bool.false_eq_true,if_false,Option.bind_some,Bool.not_false,Bool.true_and]
   rw [iter_anyI (f:=M_u n) n.Fibers (fibBad n) (.inr false) (.inl ()) (fun i x hx _=>by
    have hlt:=(List.getElem?_eq_some_iff.1 hx).1
    have e1:decide ((i:Int) < n.Fibers.length)=true:=by simp [hlt]
    simp only [M_u,e1,cond_true,geti_nat,hx,Option.bind_some,p_within]
    rw [w64_eq (n:=(i:Int)+1) (by omega) (by omega)]
    unfold fibBad fib1
    cases decide (x.A < 0)
    · cases decide (x.B≤x.A)
      · cases decide ((n.Nodes.length:Int)≤x.B)
        · cases wi x.Length 1 5000
          · rfl
          · cases wi x.Risk 0 9
            · rfl
            · by_cases hi:0 < i
              · have hi':decide ((0:Int) < (i:Int))=true:=by simp [hi]
                have hp:n.Fibers[i - 1]?=some n.Fibers[i - 1]:=List.getElem?_eq_getElem (by omega)
                have hw:IntKind.wrap .i64 ((i:Int) - 1)=((i - 1:Nat):Int):=by rw [w64_eq (by omega) (by omega)]; omega
                simp only [hi',cond_true,cond_false,Bool.not_true,hw,geti_nat,hp,Option.bind_some,p_compareFibers,hi,decide_true,Bool.true_and,Bool.false_or]
                cases decide (0 < cmpF n.Fibers[i - 1] x) <;> rfl
              · have hi':decide ((0:Int) < (i:Int))=false:=by simp; omega
                simp [hi',hi]
        · rfl
      · rfl
    · rfl) (by simp [M_u]) (by omega)]
   rcases bt (anyI (fibBad n) n.Fibers) with hF | hF
   · simp [hF]
   · simp only [hF,Bool.false_eq_true,if_false,Option.bind_some,Bool.not_false,Bool.true_and,p_within]
     have e:decide ((n.Fibers.length:Int)≤14)=decide (n.Fibers.length≤14):=decide_eq_decide.2 (by omega)
     rw [e]
     cases wi n.Nodes.length 2 8 <;> rfl
theorem find_dup (n:TNetwork) (i:Nat) (x:ByteArray) (hx:n.Nodes[i]?=some x) :
 (fidx x n.Nodes != (i:Int))=(n.Nodes.take i).any fun y=>y.toList==x.toList:=by
 unfold fidx
 cases e:idxZ x n.Nodes with
 | none =>
   have:=findI_none.1 e i x hx
   simp at this
 | some q =>
   obtain ⟨j,y⟩:=q
   obtain ⟨h1,h2,h3⟩:=findI_some.1 e
   simp only
   by_cases hj:j=i
   · subst hj
     have:((n.Nodes.take j).any fun y=>y.toList==x.toList)=false:=by
      rw [List.any_eq_false]
      intro z hz
      obtain ⟨k,hk,rfl⟩:=List.getElem_of_mem hz
      simp only [List.length_take] at hk
      have:=h3 k (n.Nodes.take j)[k] (by omega) (by rw [List.getElem_take]; exact List.getElem?_eq_getElem (by omega))
      rw [this]; simp
     rw [this]; simp
   · have hji:j < i:=by
      rcases Nat.lt_trichotomy j i with h | h | h
      · exact h
      · exact (hj h).elim
      · have:=h3 i x h hx
        simp at this
     have:((n.Nodes.take i).any fun y=>y.toList==x.toList)=true:=List.any_eq_true.2 ⟨y,by
      have:(n.Nodes.take i)[j]?=some y:=by rw [List.getElem?_take,if_pos hji]; exact h1
      exact List.mem_of_getElem? this,h2⟩
     rw [this]
     simp; omega
theorem p_l2Fiber (f:TFiber) (m:Nat) (hm:m≤8) (hm2:2≤m):M_dj f (m:Int)=some (!fib1 m f):=by
 unfold M_dj fib1
 simp only [p_l1In,Option.bind_some]
 rw [w64_eq (n:=(m:Int) - 1) (by omega) (by omega)]
 rcases bt (wi f.A 0 ((m:Int) - 1)) with h1 | h1
 · have h2:=wi_iff.1 h1
   rw [w64_eq (n:=f.A+1) (by omega) (by omega)]
   rcases bt (wi f.B (f.A+1) ((m:Int) - 1)) with h3 | h3
   · have h4:=wi_iff.1 h3
     have a1:decide (f.A < 0)=false:=by simp; omega
     have a2:decide (f.B≤f.A)=false:=by simp; omega
     have a3:decide ((m:Int)≤f.B)=false:=by simp; omega
     simp only [h1,h3,a1,a2,a3,cond_true,Bool.false_or]
     cases wi f.Length 1 5000 <;> cases wi f.Risk 0 9 <;> rfl
   · have h4:=wi_false.1 h3
     simp only [h1,h3,cond_true,cond_false]
     by_cases a2:f.B≤f.A
     · simp [a2]
     · have a3:(m:Int)≤f.B:=by omega
       simp [a3]
 · have h2:=wi_false.1 h1
   simp only [h1,cond_false]
   by_cases a1:f.A < 0
   · simp [a1]
   · by_cases a2:f.B≤f.A
     · simp [a2]
     · have a3:(m:Int)≤f.B:=by omega
       simp [a3]
structure FibOk (m:Int) (f:TFiber):Prop where
 a0:0≤f.A
 ab:f.A < f.B
 bm:f.B < m
 l1:1≤f.Length
 l2:f.Length≤5000
 r0:0≤f.Risk
 r9:f.Risk≤9
theorem fib1_ok {m:Nat} {f:TFiber} (h:fib1 m f=false):FibOk m f:=by
 unfold fib1 at h
 simp only [Bool.or_eq_false_iff,decide_eq_false_iff_not,Bool.not_eq_false',wi_iff] at h
 obtain ⟨⟨⟨⟨h1,h2⟩,h3⟩,h4,h5⟩,h6,h7⟩:=h
 exact ⟨by omega,by omega,by omega,h4,h5,h6,h7⟩
theorem p_before (f g:TFiber) (m:Nat) (hm:m≤8) (hf:FibOk m f) (hg:FibOk m g):∃ r,M_bx f g=some r∧decide (0 < r)=decide (0 < cmpF f g):=by
 obtain ⟨a1,a2,a3,a4,a5,a6,a7⟩:=hf
 obtain ⟨b1,b2,b3,b4,b5,b6,b7⟩:=hg
 have sgn:∀ x y:Int,decide (0 < x - y)=decide (0 < cmpI x y):=by
  intro x y
  unfold cmpI
  by_cases h:x < y
  · rw [if_pos h]; exact decide_eq_decide.2 (by omega)
  · rw [if_neg h]
    by_cases h2:y < x
    · rw [if_pos h2]; exact decide_eq_decide.2 (by omega)
    · rw [if_neg h2]; exact decide_eq_decide.2 (by omega)
 unfold M_bx cmpF
 rw [w64_eq (n:=f.A - g.A) (by omega) (by omega),w64_eq (n:=f.B - g.B) (by omega) (by omega),w64_eq (n:=f.Length - g.Length) (by omega) (by omega),w64_eq (n:=f.Risk - g.Risk) (by omega) (by omega)]
 by_cases h1:f.A=g.A
 · have e1:(f.A != g.A)=false:=by rw [h1]; simp
   by_cases h2:f.B=g.B
   · have e2:(f.B != g.B)=false:=by rw [h2]; simp
     by_cases h3:f.Length=g.Length
     · have e3:(f.Length != g.Length)=false:=by rw [h3]; simp
       exact ⟨f.Risk - g.Risk,by simp only [e1,e2,e3,cond_false],by simp only [h1,h2,h3,ne_eq,not_true,if_false]; exact sgn _ _⟩
     · have e3:(f.Length != g.Length)=true:=bne_iff_ne.2 h3
       exact ⟨f.Length - g.Length,by simp only [e1,e2,e3,cond_false,cond_true],by simp only [h1,h2,h3,ne_eq,not_true,not_false_eq_true,if_false,if_true]; exact sgn _ _⟩
   · have e2:(f.B != g.B)=true:=bne_iff_ne.2 h2
     exact ⟨f.B - g.B,by simp only [e1,e2,cond_false,cond_true],by simp only [h1,h2,ne_eq,not_true,not_false_eq_true,if_false,if_true]; exact sgn _ _⟩
 · have e1:(f.A != g.A)=true:=bne_iff_ne.2 h1
   exact ⟨f.A - g.A,by simp only [e1,cond_true],by simp only [h1,ne_eq,not_false_eq_true,if_true]; exact sgn _ _⟩
theorem p_l2Good (n:TNetwork) (hz:z_Network n≤1048576):M_ci n=some (netOk n):=by
 obtain ⟨z1,z2,z3⟩:=z_net hz
 unfold M_ci netOk
 simp only [p_l1In,Option.bind_some]
 rcases bt (wi n.Nodes.length 2 8) with hw | hw
 · have hw2:=wi_iff.1 hw
   have e:decide (14 < (n.Fibers.length:Int))=!decide (n.Fibers.length≤14):=by
    rw [← decide_not]; exact decide_eq_decide.2 (by omega)
   simp only [hw,e,Bool.not_true,cond_false,Option.bind_some,Bool.and_true]
   rcases bt (decide (n.Fibers.length≤14)) with h14 | h14
   · simp only [h14,Bool.not_true,cond_false,Bool.and_true]
     rw [iter_anyI (f:=M_ax n) n.Nodes (nodeBad n) (.inr false) (.inl ()) (fun i x hx _=>by
      have hlt:=(List.getElem?_eq_some_iff.1 hx).1
      have e1:decide ((i:Int) < n.Nodes.length)=true:=by simp [hlt]
      simp only [M_ax,e1,cond_true,geti_nat,hx,Option.bind_some,p_l2Name x (z3 x (List.mem_of_getElem? hx)),p_l2Find n.Nodes x z1,find_dup n i x hx,nodeBad]
      rw [w64_eq (by omega) (by omega)]
      rcases bt (nameB x) with e | e <;> rcases bt ((n.Nodes.take i).any (fun y=>y.toList==x.toList)) with e' | e' <;> simp only [e,e'] <;> rfl) (by simp [M_ax]) (by omega)]
     rcases bt (anyI (nodeBad n) n.Nodes) with hN | hN
     · simp [hN]
     · simp only [hN,Bool.false_eq_true,if_false,Option.bind_some,Bool.not_false,Bool.true_and]
       rw [iter_anyI (f:=M_ay n) n.Fibers (fibBad n) (.inr false) (.inl ()) (fun i x hx hprev=>by
        have hlt:=(List.getElem?_eq_some_iff.1 hx).1
        have e1:decide ((i:Int) < n.Fibers.length)=true:=by simp [hlt]
        simp only [M_ay,e1,cond_true,geti_nat,hx,Option.bind_some,p_l2Fiber x n.Nodes.length (by omega) (by omega),Bool.not_not]
        rw [w64_eq (n:=(i:Int)+1) (by omega) (by omega)]
        unfold fibBad
        rcases bt (fib1 n.Nodes.length x) with h1 | h1
        · simp [h1]
        · simp only [h1,cond_false,Bool.false_or]
          by_cases hi:0 < i
          · have hi':decide ((0:Int) < (i:Int))=true:=by simp [hi]
            have hp:n.Fibers[i - 1]?=some n.Fibers[i - 1]:=List.getElem?_eq_getElem (by omega)
            have hw:IntKind.wrap .i64 ((i:Int) - 1)=((i - 1:Nat):Int):=by rw [w64_eq (by omega) (by omega)]; omega
            have hb:=hprev (i - 1) n.Fibers[i - 1] (by omega) hp
            unfold fibBad at hb
            simp only [Bool.or_eq_false_iff] at hb
            obtain ⟨r,r1,r2⟩:=p_before n.Fibers[i - 1] x n.Nodes.length (by omega) (fib1_ok hb.1) (fib1_ok h1)
            simp only [hi',cond_true,hw,geti_nat,hp,Option.bind_some,r1,r2,hi,decide_true,Bool.true_and]
            cases decide (0 < cmpF n.Fibers[i - 1] x) <;> rfl
          · have hi':decide ((0:Int) < (i:Int))=false:=by simp; omega
            simp [hi',hi]) (by simp [M_ay]) (by omega)]
       cases anyI (fibBad n) n.Fibers <;> rfl
   · simp [h14]
 · simp [hw]
end Vs

namespace Vs
open Go
theorem netOk_fib {n:TNetwork} (h:netOk n=true) {i:Nat} {f:TFiber} (hf:n.Fibers[i]?=some f):FibOk n.Nodes.length f:=by
 unfold netOk at h
 simp only [Bool.and_eq_true,Bool.not_eq_true'] at h
 have:=anyI_false.1 h.1.1.2 i f hf
 unfold fibBad at this
 simp only [Bool.or_eq_false_iff] at this
 exact fib1_ok this.1
def idxs (r:Int):Nat→List TFiber→List Int
 | _,[]=>[]
 | i,f::fs=>if f.Risk=r then (i:Int)::idxs r (i+1) fs else idxs r (i+1) fs
theorem idxs_cons (r:Int) (i:Nat) (f:TFiber) (fs:List TFiber):idxs r i (f::fs)=if f.Risk=r then (i:Int)::idxs r (i+1) fs else idxs r (i+1) fs:=rfl
theorem idxs_len (r:Int):∀ (fs:List TFiber) (i:Nat),(idxs r i fs).length≤fs.length
 | [],i=>by simp [idxs]
 | f :: fs, i => by
   have:=idxs_len r fs (i+1)
   rw [idxs_cons]; split <;> simp <;> omega
theorem idxs_mem (r:Int):∀ (fs:List TFiber) (i:Nat) (x:Int),x∈idxs r i fs↔∃ j f,fs[j]?=some f∧f.Risk=r∧x=((i+j:Nat):Int)
 | [],i,x=>by simp [idxs]
 | f :: fs, i, x => by
   have ih:=idxs_mem r fs (i+1) x
   have step:(∃ j g,(f::fs)[j]?=some g∧g.Risk=r∧x=((i+j:Nat):Int))↔(f.Risk=r∧x=(i:Int))∨∃ j g,fs[j]?=some g∧g.Risk=r∧x=((i+1+j:Nat):Int):=by
    constructor
    · rintro ⟨j,g,h1,h2,h3⟩
      cases j with
      | zero=>simp at h1; subst h1; exact .inl ⟨h2,h3⟩
      | succ j=>exact .inr ⟨j,g,by simpa using h1,h2,by rw [h3]; congr 1; omega⟩
    · rintro (⟨h1,h2⟩ | ⟨j,g,h1,h2,h3⟩)
      · exact ⟨0,f,rfl,h1,h2⟩
      · exact ⟨j+1,g,by simpa using h1,h2,by rw [h3]; congr 1; omega⟩
   rw [step,← ih]
   rw [idxs_cons]
   split
   · rename_i h; simp [h]
   · rename_i h; simp [h]
theorem idxs_fold (r:Int):∀ (fs:List TFiber) (i:Nat) (acc:List Int),walkL (fun i (f:TFiber) (a:List Int)=>(.inl (if f.Risk=r then a++[(i:Int)] else a):List Int ⊕ List Int)) (fun a=>a) i fs acc=acc++idxs r i fs
 | [],i,acc=>by simp [walkL,idxs]
 | f :: fs, i, acc => by
   simp only [walkL]
   rw [idxs_fold r fs (i+1)]
   rw [idxs_cons]
   split <;> simp
def risks:List Int:=[1,2,3,4,5,6,7,8,9]
def groupsP (n:TNetwork):List (List Int):=((risks.map fun r=>idxs r 0 n.Fibers).filter fun l=>decide (0 < l.length))++(idxs 0 0 n.Fibers).map fun i=>[i]
theorem groupsP_len (n:TNetwork) (h:n.Fibers.length≤14):(groupsP n).length≤23:=by
 have:=idxs_len 0 n.Fibers 0
 have h2:=List.length_filter_le (fun l:List Int=>decide (0 < l.length)) (risks.map fun r=>idxs r 0 n.Fibers)
 have h3:(risks.map fun r=>idxs r 0 n.Fibers).length=9:=rfl
 unfold groupsP
 simp only [List.length_append,List.length_map]
 omega
theorem idx_loop {f:Int×List Int→Option ((Int×List Int) ⊕ List Int)} (fs:List TFiber) (r:Int) (hl:fs.length≤1048576)
 (h1:∀ (i:Nat) x (a:List Int),fs[i]?=some x→a.length≤i→f ((i:Int),a)=some (.inl (((i+1:Nat):Int),if x.Risk=r then a++[(i:Int)] else a)))
 (h2:∀ a,f ((fs.length:Int),a)=some (.inr a)):iter f N0 (0,[])=some (idxs r 0 fs):=by
 have:=iter_list (f:=f) fs (fun i (a:List Int)=>((i:Int),a)) (fun i x a=>.inl (if x.Risk=r then a++[(i:Int)] else a)) (fun a=>a) (fun i a=>a.length≤i) (fun i a x hx hI=>by
  refine .inl ⟨_,rfl,?_,h1 i x a hx hI⟩
  split <;> first | omega | (simp only [List.length_append,List.length_cons,List.length_nil]; omega)) (fun a _=>h2 a) [] (by simp) (by omega)
 rw [show iter f N0 (0,[])=_ from this,idxs_fold]; rfl
theorem app_loop {f:Int×List (List Int)→Option ((Int×List (List Int)) ⊕ List (List Int))} (fs:List TFiber) (G:List (List Int)) (hl:fs.length≤1048576) (hG:G.length≤100)
 (h1:∀ (i:Nat) x (a:List (List Int)),fs[i]?=some x→a.length≤100+i→f ((i:Int),a)=some (.inl (((i+1:Nat):Int),if x.Risk=0 then a++[[(i:Int)]] else a)))
 (h2:∀ a,f ((fs.length:Int),a)=some (.inr a)):iter f N0 (0,G)=some (G++(idxs 0 0 fs).map fun i=>[i]):=by
 have:=iter_list (f:=f) fs (fun i (a:List (List Int))=>((i:Int),a)) (fun i x a=>.inl (if x.Risk=0 then a++[[(i:Int)]] else a)) (fun a=>a) (fun i a=>a.length≤100+i) (fun i a x hx hI=>by
  refine .inl ⟨_,rfl,?_,h1 i x a hx hI⟩
  split <;> first | omega | (simp only [List.length_append,List.length_cons,List.length_nil]; omega)) (fun a _=>h2 a) G (by omega) (by omega)
 rw [show iter f N0 (0,G)=_ from this]
 have gen:∀ (fs:List TFiber) (i:Nat) (acc:List (List Int)),walkL (fun i (f:TFiber) (a:List (List Int))=>(.inl (if f.Risk=0 then a++[[(i:Int)]] else a):List (List Int) ⊕ List (List Int))) (fun a=>a) i fs acc=acc++(idxs 0 i fs).map fun i=>[i]:=by
  intro fs
  induction fs with
  | nil=>intro i acc; simp [walkL,idxs]
  | cons f fs ih =>
    intro i acc
    simp only [walkL]
    rw [ih (i+1)]
    rw [idxs_cons]
    split <;> simp
 rw [gen]
theorem risk_loop {f:Int×List (List Int)→Option ((Int×List (List Int)) ⊕ List (List Int))} (fs:List TFiber)
 (h1:∀ (r:Int) (a:List (List Int)),1≤r→r≤9→a.length≤10→f (r,a)=some (.inl (r+1,if 0 < (idxs r 0 fs).length then a++[idxs r 0 fs] else a)))
 (h2:∀ a,f (10,a)=some (.inr a)):iter f N0 (1,[])=some ((risks.map fun r=>idxs r 0 fs).filter fun l=>decide (0 < l.length)):=by
 have:=iter_list (f:=f) risks (fun i (a:List (List Int))=>((i:Int)+1,a)) (fun i r a=>.inl (if 0 < (idxs r 0 fs).length then a++[idxs r 0 fs] else a)) (fun a=>a) (fun i a=>a.length≤i) (fun i a r hr hI=>by
  have hi:i < 9:=by have:=(List.getElem?_eq_some_iff.1 hr).1; simpa [risks] using this
  have e:(i:Int)+1=r:=by
   rcases i with _ | _ | _ | _ | _ | _ | _ | _ | _ | i <;> first | (simp [risks] at hr; omega) | omega
  refine .inl ⟨_,rfl,?_,?_⟩
  · split <;> first | omega | (simp only [List.length_append,List.length_cons,List.length_nil]; omega)
  · rw [e,h1 r a (by omega) (by omega) (by omega)]
    have:((i+1:Nat):Int)+1=r+1:=by omega
    rw [this]) (fun a _=>by have:=h2 a; simpa [risks] using this) [] (by simp) (by simp [risks])
 rw [show iter f N0 (1,[])=_ from this]
 have gen:∀ (rs:List Int) (i:Nat) (acc:List (List Int)),walkL (fun (_:Nat) (r:Int) (a:List (List Int))=>(.inl (if 0 < (idxs r 0 fs).length then a++[idxs r 0 fs] else a):List (List Int) ⊕ List (List Int))) (fun a=>a) i rs acc =
  acc++(rs.map fun r=>idxs r 0 fs).filter fun l=>decide (0 < l.length):=by
  intro rs
  induction rs with
  | nil=>intro i acc; simp [walkL]
  | cons r rs ih =>
    intro i acc
    simp only [walkL]
    rw [ih (i+1),List.map_cons,List.filter_cons]
    by_cases h:0 < (idxs r 0 fs).length
    · simp [h]
    · simp [h]
 rw [gen]; rfl
theorem p_groups (n:TNetwork) (h:n.Fibers.length≤14):M_eh n=some (groupsP n):=by
 unfold M_eh
 rw [risk_loop (f:=M_aa n) n.Fibers (fun r a hr1 hr9 ha=>by
  have e1:decide (r≤9)=true:=by simp [hr9]
  simp only [M_aa,e1,cond_true]
  rw [idx_loop (f:=M_z n (r,a)) n.Fibers r (by omega) (fun i x b hx hb=>by
   have hlt:=(List.getElem?_eq_some_iff.1 hx).1
   have e1:decide ((i:Int) < n.Fibers.length)=true:=by simp [hlt]
   simp only [M_z,e1,cond_true,geti_nat,hx,Option.bind_some,bnd]
   rw [grd_t (by omega),w64_eq (by omega) (by omega)]
   by_cases e:x.Risk=r
   · simp [e]
   · simp [e,cond_ite]) (fun a=>by simp [M_z])]
  simp only [Option.bind_some,bnd]
  rw [grd_t (by omega),w64_eq (by omega) (by omega)]
  by_cases e:0 < (idxs r 0 n.Fibers).length
  · have e':decide ((0:Int) < ((idxs r 0 n.Fibers).length:Int))=true:=by simpa using e
    simp only [e',cond_true,if_pos e,Option.bind_some]
  · have e':decide ((0:Int) < ((idxs r 0 n.Fibers).length:Int))=false:=by simpa using e
    simp only [e',cond_false,if_neg e]) (fun a=>by simp [M_aa])]
 simp only [Option.bind_some]
 have hl:=List.length_filter_le (fun l:List Int=>decide (0 < l.length)) (risks.map fun r=>idxs r 0 n.Fibers)
 have hl9:(risks.map fun r=>idxs r 0 n.Fibers).length=9:=rfl
 rw [app_loop (f:=M_ab n) n.Fibers _ (by omega) (by omega) (fun i x a hx ha=>by
  have hlt:=(List.getElem?_eq_some_iff.1 hx).1
  have e1:decide ((i:Int) < n.Fibers.length)=true:=by simp [hlt]
  simp only [M_ab,e1,cond_true,geti_nat,hx,Option.bind_some,bnd]
  rw [grd_t (by omega),w64_eq (by omega) (by omega)]
  by_cases e:x.Risk=0
  · simp [e]
  · simp [e,cond_ite]) (fun a=>by simp [M_ab])]
 rfl
end Vs

namespace Vs
open Go
theorem idxs_rng {r:Int} {fs:List TFiber} (h:fs.length≤14):∀ x∈idxs r 0 fs,0≤x∧x < 14:=by
 intro x hx
 obtain ⟨j,f,hj,_,rfl⟩:=(idxs_mem r fs 0 x).1 hx
 have:=(List.getElem?_eq_some_iff.1 hj).1
 omega
theorem groups_rng {n:TNetwork} (h:n.Fibers.length≤14):∀ g∈groupsP n,g.length≤14∧∀ x∈g,0≤x∧x < 14:=by
 intro g hg
 unfold groupsP at hg
 rw [List.mem_append] at hg
 rcases hg with hg | hg
 · obtain ⟨r,_,rfl⟩:=List.mem_map.1 (List.mem_filter.1 hg).1
   exact ⟨Nat.le_trans (idxs_len ..) h,idxs_rng h⟩
 · obtain ⟨x,hx,rfl⟩:=List.mem_map.1 hg
   exact ⟨by simp,fun y hy=>by rw [List.mem_singleton.1 hy]; exact idxs_rng h x hx⟩
def riskI (n:TNetwork) (e:Int):Int:=match n.Fibers[e.toNat]? with | some f=>f.Risk | none=>0
def fibI (n:TNetwork) (e:Int):Prop:=0≤e∧e < (n.Fibers.length:Int)
theorem fibI_at {n:TNetwork} {e:Int} (h:fibI n e):∃ f,n.Fibers[e.toNat]?=some f∧riskI n e=f.Risk:=by
 have hlt:e.toNat < n.Fibers.length:=by have:=h.1; have:=h.2; omega
 refine ⟨_,List.getElem?_eq_getElem hlt,?_⟩
 unfold riskI; rw [List.getElem?_eq_getElem hlt]
theorem idxs_I {n:TNetwork} {r x:Int}:x∈idxs r 0 n.Fibers↔fibI n x∧riskI n x=r:=by
 rw [idxs_mem]
 constructor
 · rintro ⟨j,f,h1,h2,rfl⟩
   have:=(List.getElem?_eq_some_iff.1 h1).1
   refine ⟨⟨by omega,by omega⟩,?_⟩
   unfold riskI
   rw [show ((0+j:Nat):Int).toNat=j by omega,h1]; exact h2
 · rintro ⟨h,hr⟩
   obtain ⟨f,h1,h2⟩:=fibI_at h
   exact ⟨x.toNat,f,h1,by rw [← h2]; exact hr,by have:=h.1; omega⟩
theorem group_ex {n:TNetwork} (h:netOk n=true) {x:Int} (hx:fibI n x):∃ g∈groupsP n,x∈g:=by
 obtain ⟨f,h1,h2⟩:=fibI_at hx
 have hf:=netOk_fib h h1
 obtain ⟨_,_,_,_,_,_,_⟩:=hf
 unfold groupsP
 by_cases h0:riskI n x=0
 · exact ⟨[x],List.mem_append_right _ (List.mem_map.2 ⟨x,idxs_I.2 ⟨hx,h0⟩,rfl⟩),by simp⟩
 · have hm:x∈idxs (riskI n x) 0 n.Fibers:=idxs_I.2 ⟨hx,rfl⟩
   refine ⟨_,List.mem_append_left _ (List.mem_filter.2 ⟨List.mem_map.2 ⟨riskI n x,?_,rfl⟩,by simpa using List.length_pos_of_mem hm⟩),hm⟩
   unfold risks
   rw [h2] at h0 ⊢
   simp only [List.mem_cons,List.not_mem_nil,or_false]
   omega
end Vs

namespace Vs
open Go
def gt (o:List Int) (v:Nat):Int:=o.getD v 0
def mn (a b:Int):Int:=if b < a then b else a
theorem mn_le (a b:Int):mn a b≤a∧mn a b≤b∧(mn a b=a∨mn a b=b):=by unfold mn; split <;> omega
theorem gt_set (o:List Int) (a v:Nat) (x:Int) (ha:a < o.length):gt (o.set a x) v=if v=a then x else gt o v:=by
 unfold gt
 rw [List.getD_eq_getElem?_getD,List.getD_eq_getElem?_getD,List.getElem?_set]
 by_cases h:a=v
 · subst h; simp [ha]
 · rw [if_neg h,if_neg (Ne.symm h)]
def relax (o:List Int) (a b:Nat):List Int:=(o.set a (mn (gt o a) (gt o b))).set b (mn (gt o a) (gt o b))
theorem relax_len (o:List Int) (a b:Nat):(relax o a b).length=o.length:=by simp [relax]
theorem gt_relax (o:List Int) (a b v:Nat) (ha:a < o.length) (hb:b < o.length):gt (relax o a b) v=if v=a∨v=b then mn (gt o a) (gt o b) else gt o v:=by
 unfold relax
 rw [gt_set _ _ _ _ (by simpa using hb),gt_set _ _ _ _ ha]
 by_cases h:v=b <;> by_cases h2:v=a <;> simp [h,h2]
def passP (al:Nat→Bool):Nat→List TFiber→List Int→List Int
 | _,[],o=>o
 | i,f::fs,o=>passP al (i+1) fs (if al i then relax o f.A.toNat f.B.toNat else o)
def Ed (fs:List TFiber) (N:Nat):Prop:=∀ f∈fs,f.A.toNat < N∧f.B.toNat < N
theorem Ed.tl {f:TFiber} {fs:List TFiber} {N:Nat} (h:Ed (f::fs) N):Ed fs N:=fun g hg=>h g (List.mem_cons_of_mem _ hg)
theorem Ed.hd {f:TFiber} {fs:List TFiber} {N:Nat} (h:Ed (f::fs) N):f.A.toNat < N∧f.B.toNat < N:=h f List.mem_cons_self
def one (al:Nat→Bool) (i:Nat) (f:TFiber) (o:List Int):List Int:=if al i then relax o f.A.toNat f.B.toNat else o
theorem one_len (al:Nat→Bool) (i:Nat) (f:TFiber) (o:List Int):(one al i f o).length=o.length:=by unfold one; split <;> simp [relax_len]
theorem pass_cons (al:Nat→Bool) (i:Nat) (f:TFiber) (fs:List TFiber) (o:List Int):passP al i (f::fs) o=passP al (i+1) fs (one al i f o):=rfl
theorem pass_len (al:Nat→Bool):∀ (fs:List TFiber) (i:Nat) (o:List Int),(passP al i fs o).length=o.length
 | [],_,_=>rfl
 | f::fs,i,o=>by rw [pass_cons,pass_len al fs,one_len]
theorem one_le (al:Nat→Bool) (i:Nat) (f:TFiber) (o:List Int) (h:f.A.toNat < o.length∧f.B.toNat < o.length) (v:Nat):gt (one al i f o) v≤gt o v:=by
 unfold one
 split
 · rw [gt_relax _ _ _ _ h.1 h.2]
   have:=mn_le (gt o f.A.toNat) (gt o f.B.toNat)
   split
   · rename_i e; rcases e with e | e <;> subst e <;> omega
   · omega
 · omega
theorem pass_le (al:Nat→Bool):∀ (fs:List TFiber) (i:Nat) (o:List Int),Ed fs o.length→∀ v,gt (passP al i fs o) v≤gt o v
 | [],_,_,_,v=>Int.le_refl _
 | f :: fs, i, o, h, v => by
   rw [pass_cons]
   have h1:=pass_le al fs (i+1) (one al i f o) (by rw [one_len]; exact h.tl) v
   have h2:=one_le al i f o h.hd v
   omega
def Flat (al:Nat→Bool) (i:Nat) (fs:List TFiber) (F:Nat→Int):Prop:=∀ j f,fs[j]?=some f→al (i+j)=true→F f.A.toNat=F f.B.toNat
theorem Flat.tl {al:Nat→Bool} {i:Nat} {f:TFiber} {fs:List TFiber} {F:Nat→Int} (h:Flat al i (f::fs) F):Flat al (i+1) fs F:=fun j g hg ha=>h (j+1) g (by simpa using hg) (by rw [show i+(j+1)=i+1+j by omega]; exact ha)
theorem Flat.hd {al:Nat→Bool} {i:Nat} {f:TFiber} {fs:List TFiber} {F:Nat→Int} (h:Flat al i (f::fs) F) (ha:al i=true):F f.A.toNat=F f.B.toNat:=h 0 f rfl ha
theorem one_ge {al:Nat→Bool} {i:Nat} {f:TFiber} {o:List Int} {F:Nat→Int} (h:f.A.toNat < o.length∧f.B.toNat < o.length) (hF:al i=true→F f.A.toNat=F f.B.toNat) (ho:∀ v,F v≤gt o v) (v:Nat):F v≤gt (one al i f o) v:=by
 unfold one
 split
 · rename_i ha
   rw [gt_relax _ _ _ _ h.1 h.2]
   have:=mn_le (gt o f.A.toNat) (gt o f.B.toNat)
   have e:=hF ha
   have h1:=ho f.A.toNat
   have h2:=ho f.B.toNat
   split
   · rename_i e'; rcases e' with e' | e' <;> subst e' <;> omega
   · exact ho v
 · exact ho v
theorem pass_ge {al:Nat→Bool} {F:Nat→Int}:∀ (fs:List TFiber) (i:Nat) (o:List Int),Ed fs o.length→Flat al i fs F→(∀ v,F v≤gt o v)→∀ v,F v≤gt (passP al i fs o) v
 | [],_,_,_,_,ho,v=>ho v
 | f :: fs, i, o, h, hF, ho, v => by
   rw [pass_cons]
   exact pass_ge fs (i+1) _ (by rw [one_len]; exact h.tl) hF.tl (fun v=>one_ge h.hd hF.hd ho v) v
theorem pass_hit {al:Nat→Bool} {F:Nat→Int}:∀ (fs:List TFiber) (i:Nat) (o:List Int),Ed fs o.length→Flat al i fs F→(∀ v,F v≤gt o v) →
 ∀ j f,fs[j]?=some f→al (i+j)=true→(gt o f.A.toNat=F f.A.toNat∨gt o f.B.toNat=F f.B.toNat)→gt (passP al i fs o) f.A.toNat=F f.A.toNat∧gt (passP al i fs o) f.B.toNat=F f.B.toNat
 | [],_,_,_,_,_,j,f,hf,_,_=>by simp at hf
 | g :: fs, i, o, h, hF, ho, j, f, hf, ha, hx => by
   have ho':=fun v=>one_ge (al:=al) (i:=i) h.hd hF.hd ho v
   have hl:=one_le al i g o h.hd
   have hEd:Ed fs (one al i g o).length:=by rw [one_len]; exact h.tl
   rw [pass_cons]
   cases j with
   | zero =>
     simp at hf; subst hf
     have e:=hF.hd ha
     have hm:=mn_le (gt o g.A.toNat) (gt o g.B.toNat)
     have h1:=ho g.A.toNat
     have h2:=ho g.B.toNat
     have ga:gt (one al i g o) g.A.toNat=mn (gt o g.A.toNat) (gt o g.B.toNat):=by
      have ha0:al i=true:=ha; unfold one; rw [if_pos ha0,gt_relax _ _ _ _ h.hd.1 h.hd.2,if_pos (.inl rfl)]
     have gb:gt (one al i g o) g.B.toNat=mn (gt o g.A.toNat) (gt o g.B.toNat):=by
      have ha0:al i=true:=ha; unfold one; rw [if_pos ha0,gt_relax _ _ _ _ h.hd.1 h.hd.2,if_pos (.inr rfl)]
     have p1:=pass_ge fs (i+1) _ hEd hF.tl ho' g.A.toNat
     have p2:=pass_ge fs (i+1) _ hEd hF.tl ho' g.B.toNat
     have q1:=pass_le al fs (i+1) _ hEd g.A.toNat
     have q2:=pass_le al fs (i+1) _ hEd g.B.toNat
     rcases hx with hx | hx <;> omega
   | succ j =>
     refine pass_hit fs (i+1) _ hEd hF.tl ho' j f (by simpa using hf) (by rw [show i+1+j=i+(j+1) by omega]; exact ha) ?_
     have l1:=hl f.A.toNat
     have l2:=hl f.B.toNat
     have g1:=ho' f.A.toNat
     have g2:=ho' f.B.toNat
     rcases hx with hx | hx
     · left; omega
     · right; omega
def Clo (al:Nat→Bool) (i:Nat) (fs:List TFiber) (X:Nat→Prop):Prop:=∀ j f,fs[j]?=some f→al (i+j)=true→(X f.A.toNat↔X f.B.toNat)
theorem pass_clo {al:Nat→Bool} {X:Nat→Prop}:∀ (fs:List TFiber) (i:Nat) (o:List Int),Ed fs o.length→Clo al i fs X→(∀ v,v < o.length→(X v↔X (gt o v).toNat))→∀ v,v < o.length→(X v↔X (gt (passP al i fs o) v).toNat)
 | [],_,_,_,_,ho,v,hv=>ho v hv
 | f :: fs, i, o, h, hX, ho, v, hv => by
   rw [pass_cons]
   refine pass_clo fs (i+1) _ (by rw [one_len]; exact h.tl) (fun j g hg ha=>hX (j+1) g (by simpa using hg) (by rw [show i+(j+1)=i+1+j by omega]; exact ha)) (fun v hv=>?_) v (by rw [one_len]; exact hv)
   rw [one_len] at hv
   unfold one
   split
   · rename_i ha
     rw [gt_relax _ _ _ _ h.hd.1 h.hd.2]
     have e:=hX 0 f rfl ha
     have e1:=ho f.A.toNat h.hd.1
     have e2:=ho f.B.toNat h.hd.2
     split
     · rename_i e'
       rcases (mn_le (gt o f.A.toNat) (gt o f.B.toNat)).2.2 with m | m <;> rw [m] <;> rcases e' with e' | e' <;> subst e'
       · exact e1
       · rw [← e]; exact e1
       · rw [e]; exact e2
       · exact e2
     · exact ho v hv
   · exact ho v hv
theorem pass_rng {al:Nat→Bool} {N:Int}:∀ (fs:List TFiber) (i:Nat) (o:List Int),Ed fs o.length→(∀ v,v < o.length→0≤gt o v∧gt o v < N)→∀ v,v < o.length→0≤gt (passP al i fs o) v∧gt (passP al i fs o) v < N
 | [],_,_,_,ho,v,hv=>ho v hv
 | f :: fs, i, o, h, ho, v, hv => by
   rw [pass_cons]
   refine pass_rng fs (i+1) _ (by rw [one_len]; exact h.tl) (fun v hv=>?_) v (by rw [one_len]; exact hv)
   rw [one_len] at hv
   unfold one
   split
   · rw [gt_relax _ _ _ _ h.hd.1 h.hd.2]
     have e1:=ho f.A.toNat h.hd.1
     have e2:=ho f.B.toNat h.hd.2
     split
     · rcases (mn_le (gt o f.A.toNat) (gt o f.B.toNat)).2.2 with m | m <;> rw [m] <;> assumption
     · exact ho v hv
   · exact ho v hv
theorem gt_ext {o o':List Int} (hl:o.length=o'.length) (h:∀ v,gt o v=gt o' v):o=o':=by
 apply List.ext_getElem hl
 intro i h1 h2
 have:=h i
 unfold gt at this
 rw [List.getD_eq_getElem?_getD,List.getD_eq_getElem?_getD,List.getElem?_eq_getElem h1,List.getElem?_eq_getElem h2] at this
 exact this
theorem pass_fix {al:Nat→Bool}:∀ (fs:List TFiber) (i:Nat) (o:List Int),Ed fs o.length→(∀ v,gt (passP al i fs o) v=gt o v)→Flat al i fs (gt o)
 | [],_,_,_,_,j,f,hf,_=>by simp at hf
 | g :: fs, i, o, h, hfix, j, f, hf, ha => by
   rw [pass_cons] at hfix
   have hl:=one_le al i g o h.hd
   have hEd:Ed fs (one al i g o).length:=by rw [one_len]; exact h.tl
   have hp:=pass_le al fs (i+1) (one al i g o) hEd
   have e:one al i g o=o:=gt_ext (one_len ..) fun v=>by have:=hl v; have:=hp v; have:=hfix v; omega
   cases j with
   | zero =>
     simp at hf; subst hf
     have ga:gt (one al i g o) g.A.toNat=mn (gt o g.A.toNat) (gt o g.B.toNat):=by
      have ha0:al i=true:=ha; unfold one; rw [if_pos ha0,gt_relax _ _ _ _ h.hd.1 h.hd.2,if_pos (.inl rfl)]
     have gb:gt (one al i g o) g.B.toNat=mn (gt o g.A.toNat) (gt o g.B.toNat):=by
      have ha0:al i=true:=ha; unfold one; rw [if_pos ha0,gt_relax _ _ _ _ h.hd.1 h.hd.2,if_pos (.inr rfl)]
     rw [e] at ga gb
     omega
   | succ j =>
     rw [e] at hfix
     exact pass_fix fs (i+1) o h.tl hfix j f (by simpa using hf) (by rw [show i+1+j=i+(j+1) by omega]; exact ha)
def rep (P:List Int→List Int):Nat→List Int→List Int
 | 0,o=>o
 | n+1,o=>P (rep P n o)
def initP (N:Nat):List Int:=(List.range N).map fun i:Nat=>(i:Int)
theorem gt_init (N v:Nat) (h:v < N):gt (initP N) v=v:=by unfold gt initP; simp [h]
def labels (al:Nat→Bool) (fs:List TFiber) (N:Nat):List Int:=rep (passP al 0 fs) N (initP N)
theorem rep_len (al:Nat→Bool) (fs:List TFiber) (o:List Int):∀ n,(rep (passP al 0 fs) n o).length=o.length
 | 0=>rfl
 | n+1=>by rw [rep,pass_len,rep_len al fs o n]
theorem conv {al:Nat→Bool} {fs:List TFiber} {N:Nat} (hE:Ed fs N) (hN:0 < N) {k:Nat} {F:List Int} (hF:F=rep (passP al 0 fs) k (initP N)) (hfix:passP al 0 fs F=F):labels al fs N=F:=by
 have hlen:(initP N).length=N:=by simp [initP]
 have hrl:∀ t,(rep (passP al 0 fs) t (initP N)).length=N:=fun t=>by rw [rep_len,hlen]
 have hFl:F.length=N:=by rw [hF]; exact hrl k
 have hflat:Flat al 0 fs (gt F):=pass_fix fs 0 F (by rw [hFl]; exact hE) fun v=>by rw [hfix]
 -- going down
 have hdec:∀ t v,gt (rep (passP al 0 fs) (t+1) (initP N)) v≤gt (rep (passP al 0 fs) t (initP N)) v:=fun t v=>pass_le al fs 0 _ (by rw [hrl]; exact hE) v
 have hle0:∀ t v,gt (rep (passP al 0 fs) t (initP N)) v≤gt (initP N) v:=by
  intro t
  induction t with
  | zero=>intro v; exact Int.le_refl _
  | succ t ih=>intro v; have:=hdec t v; have:=ih v; omega
 have hinvF:∀ X:Nat→Prop,Clo al 0 fs X→∀ t v,v < N→(X v↔X (gt (rep (passP al 0 fs) t (initP N)) v).toNat):=by
  intro X hX t
  induction t with
  | zero=>intro v hv; rw [rep,gt_init N v hv]; simp
  | succ t ih =>
    intro v hv
    exact pass_clo fs 0 _ (by rw [hrl]; exact hE) hX (fun v hv=>ih v (by rw [hrl] at hv; exact hv)) v (by rw [hrl]; exact hv)
 have hrng:∀ t v,v < N→0≤gt (rep (passP al 0 fs) t (initP N)) v∧gt (rep (passP al 0 fs) t (initP N)) v < N:=by
  intro t
  induction t with
  | zero=>intro v hv; rw [rep,gt_init N v hv]; omega
  | succ t ih =>
    intro v hv
    exact pass_rng fs 0 _ (by rw [hrl]; exact hE) (fun v hv=>ih v (by rw [hrl] at hv; exact hv)) v (by rw [hrl]; exact hv)
 -- F is below all
 have hge:∀ t v,gt F v≤gt (rep (passP al 0 fs) t (initP N)) v:=by
  have base:∀ v,gt F v≤gt (initP N) v:=fun v=>by rw [hF]; exact hle0 k v
  intro t
  induction t with
  | zero=>exact base
  | succ t ih=>intro v; exact pass_ge fs 0 _ (by rw [hrl]; exact hE) hflat ih v
 have hFF:∀ v,v < N→gt F (gt F v).toNat=gt F v:=by
  intro v hv
  have h1:=hinvF (fun w=>gt F w=gt F v) (fun j f hf ha=>by show gt F f.A.toNat=gt F v↔gt F f.B.toNat=gt F v; rw [hflat j f hf ha]) k v hv
  rw [← hF] at h1
  exact h1.1 rfl
 have hfin:∀ t,(∀ v,v < N→gt (rep (passP al 0 fs) t (initP N)) v=gt F v)→rep (passP al 0 fs) t (initP N)=F:=by
  intro t h
  refine gt_ext (by rw [hrl,hFl]) fun v=>?_
  by_cases hv:v < N
  · exact h v hv
  · unfold gt
    rw [List.getD_eq_getElem?_getD,List.getD_eq_getElem?_getD,List.getElem?_eq_none (by rw [hrl]; omega),List.getElem?_eq_none (by rw [hFl]; omega)]
 -- counting
 let S:Nat→Nat→Bool:=fun t v=>decide (gt (rep (passP al 0 fs) t (initP N)) v=gt F v)
 have hmono:∀ t v,v < N→S t v=true→S (t+1) v=true:=by
  intro t v hv h
  simp only [S,decide_eq_true_eq] at h ⊢
  have:=hdec t v
  have:=hge (t+1) v
  omega
 have hcount:∀ t,t+1≤(List.range N).countP (S t)∨(List.range N).countP (S t)=N:=by
  intro t
  induction t with
  | zero =>
    left
    refine List.countP_pos_iff.2 ⟨0,List.mem_range.2 hN,?_⟩
    refine decide_eq_true (?_:gt (initP N) 0=gt F 0)
    have h1:=hge 0 0
    have h2:=hrng k 0 hN
    rw [← hF] at h2
    rw [rep,gt_init N 0 hN] at h1
    have e0:=gt_init N 0 hN
    have:((0:Nat):Int)=0:=rfl
    omega
  | succ t ih =>
    have hle:(List.range N).countP (S t)≤(List.range N).countP (S (t+1)):=List.countP_mono_left fun v hv h=>hmono t v (List.mem_range.1 hv) h
    have hmax:(List.range N).countP (S (t+1))≤N:=by have:=List.countP_le_length (p:=S (t+1)) (l:=List.range N); simpa using this
    rcases ih with ih | ih
    · by_cases hall:∀ v,v < N→S t v=true
      · right
        have:(List.range N).countP (S (t+1))=(List.range N).length:=List.countP_eq_length.2 fun v hv=>hmono t v (List.mem_range.1 hv) (hall v (List.mem_range.1 hv))
        simpa using this
      · left
        obtain ⟨v,hv⟩:=Classical.not_forall.1 hall
        obtain ⟨hv1,hv2⟩:=Classical.not_imp.1 hv
        -- a fiber between the settled and the others
        have hcr:¬ Clo al 0 fs (fun w=>S t w=true):=by
         intro hclo
         have h1:=hinvF _ hclo k v hv1
         rw [← hF] at h1
         apply hv2
         rw [h1]
         have hr:=hrng k v hv1
         rw [← hF] at hr
         have hm:(gt F v).toNat < N:=by omega
         have h2:=hge t (gt F v).toNat
         have h3:=hle0 t (gt F v).toNat
         rw [gt_init N _ hm] at h3
         have h4:=hFF v hv1
         simp only [S,decide_eq_true_eq]
         omega
        have:∃ j f,fs[j]?=some f∧al (0+j)=true∧¬ (S t f.A.toNat=true↔S t f.B.toNat=true):=by
         apply Classical.byContradiction
         intro hno
         apply hcr
         intro j f hf ha
         apply Classical.byContradiction
         intro hne
         exact hno ⟨j,f,hf,ha,hne⟩
        obtain ⟨j,f,hf,ha,hne⟩:=this
        have hEf:=hE f (List.mem_of_getElem? hf)
        have hx:gt (rep (passP al 0 fs) t (initP N)) f.A.toNat=gt F f.A.toNat∨gt (rep (passP al 0 fs) t (initP N)) f.B.toNat=gt F f.B.toNat:=by
         apply Classical.byContradiction
         intro hno
         apply hne
         simp only [S,decide_eq_true_eq]
         constructor
         · intro h; exact (hno (.inl h)).elim
         · intro h; exact (hno (.inr h)).elim
        have hhit:=pass_hit fs 0 _ (by rw [hrl]; exact hE) hflat (hge t) j f hf ha hx
        obtain ⟨w,hwN,hw1,hw2⟩:∃ w,w < N∧S t w=false∧S (t+1) w=true:=by
         cases eA:S t f.A.toNat with
         | false=>exact ⟨f.A.toNat,hEf.1,eA,by simp only [S,decide_eq_true_eq]; exact hhit.1⟩
         | true =>
           cases eB:S t f.B.toNat with
           | false=>exact ⟨f.B.toNat,hEf.2,eB,by simp only [S,decide_eq_true_eq]; exact hhit.2⟩
           | true=>rw [eA,eB] at hne; exact (hne Iff.rfl).elim
        have hlt:(List.range N).countP (S t) < (List.range N).countP (S (t+1)):=by
         have e1:List.range N=List.range w++(w::(List.range (N - w - 1)).map (w+1+·)):=by
          have:N=w+(1+(N - w - 1)):=by omega
          conv=>lhs; rw [this,List.range_add,List.range_add]
          simp [Function.comp_def,Nat.add_assoc]
         rw [e1]
         simp only [List.countP_append,List.countP_cons,hw1,hw2]
         have a1:(List.range w).countP (S t)≤(List.range w).countP (S (t+1)):=List.countP_mono_left fun v hv h=>hmono t v (by have:=List.mem_range.1 hv; omega) h
         have a2:((List.range (N - w - 1)).map (w+1+·)).countP (S t)≤((List.range (N - w - 1)).map (w+1+·)).countP (S (t+1)):=List.countP_mono_left fun v hv h=>by
          obtain ⟨u,hu,rfl⟩:=List.mem_map.1 hv
          have:=List.mem_range.1 hu
          exact hmono t _ (by omega) h
         simp only [↓reduceIte,Bool.false_eq_true]
         omega
        omega
    · right; omega
 have hall:(List.range N).countP (S N)=N:=by
  rcases hcount N with h | h
  · have:=List.countP_le_length (p:=S N) (l:=List.range N)
    simp at this; omega
  · exact h
 refine hfin N fun v hv=>?_
 have:∀ v∈List.range N,S N v=true:=List.countP_eq_length.1 (by simpa using hall)
 simpa [S] using this v (List.mem_range.2 hv)
end Vs

namespace Vs
open Go
def passS (al:Nat→Bool):Nat→List TFiber→Bool×List Int→Bool×List Int
 | _,[],p=>p
 | i,f::fs,p=>passS al (i+1) fs (if al i&&!(gt p.2 f.A.toNat==gt p.2 f.B.toNat) then (true,relax p.2 f.A.toNat f.B.toNat) else p)
theorem passS_true (al:Nat→Bool):∀ (fs:List TFiber) (i:Nat) (o:List Int),(passS al i fs (true,o)).1=true
 | [],_,_=>rfl
 | f :: fs, i, o => by
   rw [passS]
   split
   · exact passS_true al fs (i+1) _
   · exact passS_true al fs (i+1) _
theorem relax_same {o:List Int} {a b:Nat} (ha:a < o.length) (hb:b < o.length) (h:gt o a=gt o b):relax o a b=o:=by
 refine gt_ext (relax_len ..) fun v=>?_
 rw [gt_relax o a b v ha hb]
 have hm:=(mn_le (gt o a) (gt o b)).2.2
 split
 · rename_i e
   rcases e with e | e <;> subst e <;> omega
 · rfl
theorem passS_spec (al:Nat→Bool):∀ (fs:List TFiber) (i:Nat) (c:Bool) (o:List Int),Ed fs o.length→(passS al i fs (c,o)).2=passP al i fs o ∧
 ((passS al i fs (c,o)).1=true→c=true∨∃ w,w < o.length∧gt (passP al i fs o) w < gt o w)∧((passS al i fs (c,o)).1=false→passP al i fs o=o)
 | [],_,c,o,_=>⟨rfl,fun h=>.inl h,fun _=>rfl⟩
 | f :: fs, i, c, o, hE => by
   rw [passS,pass_cons]
   by_cases hc:(al i&&!(gt o f.A.toNat==gt o f.B.toNat))=true
   · rw [if_pos hc]
     simp only [Bool.and_eq_true,Bool.not_eq_true',beq_eq_false_iff_ne,ne_eq] at hc
     have e1:one al i f o=relax o f.A.toNat f.B.toNat:=by unfold one; rw [if_pos hc.1]
     rw [e1]
     have hl:(relax o f.A.toNat f.B.toNat).length=o.length:=relax_len ..
     obtain ⟨h1,h2,h3⟩:=passS_spec al fs (i+1) true (relax o f.A.toNat f.B.toNat) (by rw [hl]; exact hE.tl)
     refine ⟨h1,fun _=>.inr ?_,fun h=>?_⟩
     · have hp:=pass_le al fs (i+1) (relax o f.A.toNat f.B.toNat) (by rw [hl]; exact hE.tl)
       have hm:=mn_le (gt o f.A.toNat) (gt o f.B.toNat)
       have ga:=gt_relax o f.A.toNat f.B.toNat f.A.toNat hE.hd.1 hE.hd.2
       have gb:=gt_relax o f.A.toNat f.B.toNat f.B.toNat hE.hd.1 hE.hd.2
       rw [if_pos (.inl rfl)] at ga
       rw [if_pos (.inr rfl)] at gb
       have pa:=hp f.A.toNat
       have pb:=hp f.B.toNat
       by_cases hlt:gt o f.A.toNat < gt o f.B.toNat
       · exact ⟨f.B.toNat,hE.hd.2,by omega⟩
       · exact ⟨f.A.toNat,hE.hd.1,by have:=hc.2; omega⟩
     · rw [passS_true] at h; cases h
   · rw [if_neg hc]
     have e1:one al i f o=o:=by
      unfold one
      split
      · rename_i ha
        simp only [ha,Bool.true_and,Bool.not_eq_true',Bool.not_eq_false,beq_iff_eq] at hc
        exact relax_same hE.hd.1 hE.hd.2 hc
      · rfl
     rw [e1]
     exact passS_spec al fs (i+1) c o hE.tl
def sm (g:Nat→Nat):Nat→Nat
 | 0=>0
 | n+1=>sm g n+g n
theorem sm_le {f g:Nat→Nat}:∀ (n:Nat),(∀ v,v < n→f v≤g v)→sm f n≤sm g n
 | 0,_=>Nat.le_refl _
 | n + 1, h => by
   have h1:=sm_le n fun v hv=>h v (by omega)
   have h2:=h n (by omega)
   simp only [sm]; omega
theorem sm_lt {f g:Nat→Nat}:∀ (n:Nat),(∀ v,v < n→f v≤g v)→(∃ w,w < n∧f w < g w)→sm f n < sm g n
 | 0,_,h=>by obtain ⟨w,hw,_⟩:=h; omega
 | n + 1, h, ⟨w, hw, hlt⟩ => by
   have h2:=h n (by omega)
   simp only [sm]
   by_cases e:w=n
   · subst e
     have h1:=sm_le (f:=f) (g:=g) w fun v hv=>h v (by omega)
     omega
   · have:=sm_lt n (fun v hv=>h v (by omega)) ⟨w,by omega,hlt⟩
     omega
theorem sm_bd {f:Nat→Nat} {c:Nat}:∀ (n:Nat),(∀ v,v < n→f v≤c)→sm f n≤n * c
 | 0,_=>by simp [sm]
 | n + 1, h => by
   have h1:=sm_bd n fun v hv=>h v (by omega)
   have h2:=h n (by omega)
   simp only [sm,Nat.succ_mul]; omega
theorem rep_comm (P:List Int→List Int):∀ (n:Nat) (o:List Int),rep P n (P o)=P (rep P n o)
 | 0,_=>rfl
 | n+1,o=>by rw [rep,rep_comm P n o]; rfl
theorem foldI_rep {α:Type} (P:List Int→List Int):∀ (xs:List α) (k:Nat) (o:List Int),foldI (fun _ (_:α) o=>P o) k xs o=rep P xs.length o
 | [],_,_=>rfl
 | x :: xs, k, o => by
   rw [foldI,foldI_rep P xs]
   exact rep_comm P xs.length o
theorem foldI_init {α:Type}:∀ (xs:List α) (k:Nat) (l:List Int),foldI (fun i (_:α) (l:List Int)=>l++[(i:Int)]) k xs l=l++(List.range' k xs.length).map fun i:Nat=>(i:Int)
 | [],_,l=>by simp [foldI]
 | x :: xs, k, l => by
   rw [foldI,foldI_init xs]
   simp [List.range'_succ,List.append_assoc]
theorem initP_eq {α:Type} (xs:List α):foldI (fun i (_:α) (l:List Int)=>l++[(i:Int)]) 0 xs []=initP xs.length:=by
 rw [foldI_init,List.nil_append,initP,List.range_eq_range']
theorem initP_len (N:Nat):(initP N).length=N:=by simp [initP]
theorem foldI_pass (al:Nat→Bool):∀ (fs:List TFiber) (k:Nat) (o:List Int),foldI (fun i f o=>one al i f o) k fs o=passP al k fs o
 | [],_,_=>rfl
 | f::fs,k,o=>by rw [foldI,pass_cons]; exact foldI_pass al fs (k+1) _
theorem foldI_passS (al:Nat→Bool):∀ (fs:List TFiber) (k:Nat) (p:Bool×List Int),foldI (fun i (f:TFiber) (p:Bool×List Int)=>if al i&&!(gt p.2 f.A.toNat==gt p.2 f.B.toNat) then (true,relax p.2 f.A.toNat f.B.toNat) else p) k fs p=passS al k fs p
 | [],_,_=>rfl
 | f::fs,k,p=>by rw [foldI,passS]; exact foldI_passS al fs (k+1) _
theorem gt_at {o:List Int} {i:Nat} (h:i < o.length):o[i]?=some (gt o i):=by
 unfold gt
 rw [List.getD_eq_getElem?_getD,List.getElem?_eq_getElem h]; rfl
theorem fix_loop {al:Nat→Bool} {fs:List TFiber} {N:Nat} (hE:Ed fs N) (hN:0 < N) (hN2:N≤1048576) {f:Bool×List Int→Option ((Bool×List Int) ⊕ List Int)}
 (h1:∀ o:List Int,o.length=N→f (true,o)=some (.inl (passS al 0 fs (false,o)))) (h2:∀ o,f (false,o)=some (.inr o)):iter f N0 (true,initP N)=some (labels al fs N):=by
 have hrl:∀ t,(rep (passP al 0 fs) t (initP N)).length=N:=fun t=>by rw [rep_len,initP_len]
 have hrng:∀ t v,v < N→0≤gt (rep (passP al 0 fs) t (initP N)) v∧gt (rep (passP al 0 fs) t (initP N)) v < N:=by
  intro t
  induction t with
  | zero=>intro v hv; rw [rep,gt_init N v hv]; omega
  | succ t ih =>
    intro v hv
    exact pass_rng fs 0 _ (by rw [hrl]; exact hE) (fun v hv=>ih v (by rw [hrl] at hv; exact hv)) v (by rw [hrl]; exact hv)
 let μ:Bool×List Int→Nat:=fun s=>sm (fun v=>(gt s.2 v).toNat) N+(if s.1 then 1 else 0)
 let I:Bool×List Int→Prop:=fun s=>∃ k,s.2=rep (passP al 0 fs) k (initP N)∧(s.1=false→passP al 0 fs s.2=s.2)
 have hbd:μ (true,initP N) < N0:=by
  have:=sm_bd (f:=fun v=>(gt (initP N) v).toNat) (c:=N) N fun v hv=>by
   show (gt (initP N) v).toNat≤N
   rw [gt_init N v hv]; omega
  have h3:N * N≤1048576 * 1048576:=Nat.mul_le_mul hN2 hN2
  have:μ (true,initP N)≤N * N+1:=by simp only [μ,if_true]; omega
  exact N0_lt (by omega)
 suffices hst:∀ s,I s→(∃ s',f s=some (.inl s')∧I s'∧μ s' < μ s)∨∃ b,f s=some (.inr b)∧b=labels al fs N by
  obtain ⟨b,hb,hq⟩:=iter_inv (f:=f) I μ (fun b=>b=labels al fs N) hst N0 (true,initP N) ⟨0,rfl,fun h=>by cases h⟩ hbd
  rw [hb,hq]
 rintro ⟨m,o⟩ ⟨k,hk,hfix⟩
 simp only at hk hfix
 cases m with
 | false=>exact .inr ⟨o,h2 o,(conv hE hN hk (hfix rfl)).symm⟩
 | true =>
   left
   have hol:o.length=N:=by rw [hk]; exact hrl k
   obtain ⟨s1,s2,s3⟩:=passS_spec al fs 0 false o (by rw [hol]; exact hE)
   refine ⟨_,h1 o hol,⟨k+1,by rw [s1,hk]; rfl,fun h=>?_⟩,?_⟩
   · rw [s1]
     have:=s3 h
     rw [this,this]
   · simp only [μ]
     have hle:∀ v,v < N→(gt (passP al 0 fs o) v).toNat≤(gt o v).toNat:=fun v _=>by
      have:=pass_le al fs 0 o (by rw [hol]; exact hE) v
      omega
     rw [s1]
     cases hc:(passS al 0 fs (false,o)).1 with
     | false =>
       have:=sm_le (f:=fun v=>(gt (passP al 0 fs o) v).toNat) (g:=fun v=>(gt o v).toNat) N hle
       simp only [Bool.false_eq_true,if_false,if_true]; omega
     | true =>
       have:∃ w,w < N∧(gt (passP al 0 fs o) w).toNat < (gt o w).toNat:=by
        rcases s2 hc with h | ⟨w,hw,h⟩
        · cases h
        · refine ⟨w,by omega,?_⟩
          have h4:=(hrng (k+1) w (by omega)).1
          have e:rep (passP al 0 fs) (k+1) (initP N)=passP al 0 fs o:=by rw [hk]; rfl
          rw [e] at h4
          omega
       have:=sm_lt (f:=fun v=>(gt (passP al 0 fs o) v).toNat) (g:=fun v=>(gt o v).toNat) N hle this
       simp only [if_true]; omega
end Vs

namespace Vs
open Go
theorem p_ContI (xs:List Int) (v:Int) (hl:xs.length≤1048576):M_ae xs v=some (decide (v∈xs)):=by
 unfold M_ae M_em
 rw [iter_findI (f:=M_au xs v) xs (fun _ x=>v==x) (fun i _=>(i:Int)) () (fun i x hx _=>by
  have hlt:=(List.getElem?_eq_some_iff.1 hx).1
  have h1:decide ((i:Int) < xs.length)=true:=by simp [hlt]
  simp only [M_au,h1,cond_true,geti_nat,hx,Option.bind_some]
  rw [w64_eq (by omega) (by omega)]
  cases v==x <;> rfl) (by simp [M_au]) (by omega)]
 cases e:findI (fun _ x=>v==x) xs with
 | none =>
   have:=findI_none.1 e
   have h:¬ v∈xs:=fun hm=>by
    obtain ⟨i,hi⟩:=List.getElem?_of_mem hm
    have:=this i v hi
    simp at this
   rw [decide_eq_false h]; rfl
 | some q =>
   obtain ⟨i,x⟩:=q
   obtain ⟨h1,h2,_⟩:=findI_some.1 e
   have h:v∈xs:=by
    have:=eq_of_beq h2
    rw [this]; exact List.mem_of_getElem? h1
   rw [decide_eq_true h]; simp
theorem p_init1 (n:TNetwork) (hN:n.Nodes.length≤1048576):iter (M_af n) N0 (0,[])=some (initP n.Nodes.length):=by
 rw [← initP_eq n.Nodes]
 exact iter_foldI (f:=M_af n) n.Nodes (fun i (l:List Int)=>((i:Int),l)) (fun i _ l=>l++[(i:Int)]) id (fun i l=>l.length=i) (fun i l x hx hI=>by
  have hlt:=(List.getElem?_eq_some_iff.1 hx).1
  have h1:decide ((i:Int) < n.Nodes.length)=true:=by simp [hlt]
  refine ⟨by simp [hI],?_⟩
  simp only [M_af,h1,cond_true,bnd,hI]
  rw [grd_t (by omega),w64_eq (by omega) (by omega)]
  rfl) (fun l hI=>by simp [M_af]) [] rfl (by omega)
theorem p_init2 (n:TNetwork) (hN:n.Nodes.length≤1048576):iter (M_ah n) N0 (0,[])=some (initP n.Nodes.length):=by
 rw [← initP_eq n.Nodes]
 exact iter_foldI (f:=M_ah n) n.Nodes (fun i (l:List Int)=>((i:Int),l)) (fun i _ l=>l++[(i:Int)]) id (fun i l=>l.length=i) (fun i l x hx hI=>by
  have hlt:=(List.getElem?_eq_some_iff.1 hx).1
  have h1:decide ((i:Int) < n.Nodes.length)=true:=by simp [hlt]
  refine ⟨by simp [hI],?_⟩
  simp only [M_ah,h1,cond_true,bnd,hI]
  rw [grd_t (by omega),w64_eq (by omega) (by omega)]
  rfl) (fun l hI=>by simp [M_ah]) [] rfl (by omega)
def EdI (fs:List TFiber) (N:Nat):Prop:=∀ f∈fs,0≤f.A∧f.A < N∧0≤f.B∧f.B < N
theorem EdI.ed {fs:List TFiber} {N:Nat} (h:EdI fs N):Ed fs N:=fun f hf=>by have:=h f hf; omega
def alL (gone:List Int) (i:Nat):Bool:=!decide ((i:Int)∈gone)
theorem p_pass (n:TNetwork) (gone:List Int) (o:List Int) (hE:EdI n.Fibers o.length) (hF:n.Fibers.length≤1048576) (hg:gone.length≤1048576) :
 iter (M_f n gone) N0 (0,o)=some (passP (alL gone) 0 n.Fibers o):=by
 rw [← foldI_pass]
 refine iter_foldI (f:=M_f n gone) n.Fibers (fun i (l:List Int)=>((i:Int),l)) (fun i f o=>one (alL gone) i f o) id (fun _ l=>l.length=o.length) (fun i l f hf hI=>?_) (fun l hI=>by simp [M_f]) o rfl (by omega)
 have hlt:=(List.getElem?_eq_some_iff.1 hf).1
 have h1:decide ((i:Int) < n.Fibers.length)=true:=by simp [hlt]
 refine ⟨by rw [one_len]; exact hI,?_⟩
 have hEf:=hE f (List.mem_of_getElem? hf)
 rw [← hI] at hEf
 simp only [M_f,h1,cond_true,geti_nat,hf,Option.bind_some,p_ContI gone i hg,w64_eq (n:=(i:Int)+1) (by omega) (by omega)]
 unfold one
 rcases bt (alL gone i) with e | e
 · have e':(!decide ((i:Int)∈gone))=true:=e
   rw [e',cond_true,grd_t ⟨hEf.1,hEf.2.1⟩,grd_t ⟨hEf.2.2.1,hEf.2.2.2⟩]
   simp only [Option.bind_some,gt_at (show f.A.toNat < l.length by omega),gt_at (show f.B.toNat < l.length by omega),bnd,e,if_true]
   rw [List.getElem?_eq_getElem (by simp; omega)]
   rfl
 · have e':(!decide ((i:Int)∈gone))=false:=e
   rw [e',cond_false,e]; rfl
theorem p_components (n:TNetwork) (gone:List Int) (hE:EdI n.Fibers n.Nodes.length) (hN:n.Nodes.length≤1048576) (hF:n.Fibers.length≤1048576) (hg:gone.length≤1048576) :
 M_bp n gone=some (labels (alL gone) n.Fibers n.Nodes.length):=by
 unfold M_bp
 rw [p_init1 n hN]
 simp only [Option.bind_some]
 have:iter (M_ag n gone) N0 (0,initP n.Nodes.length)=some (labels (alL gone) n.Fibers n.Nodes.length):=by
  unfold labels
  rw [← foldI_rep (passP (alL gone) 0 n.Fibers) n.Nodes 0 (initP n.Nodes.length)]
  refine iter_foldI (f:=M_ag n gone) n.Nodes (fun i (l:List Int)=>((i:Int),l)) (fun _ _ o=>passP (alL gone) 0 n.Fibers o) id (fun _ l=>l.length=n.Nodes.length) (fun i l x hx hI=>?_) (fun l hI=>by simp [M_ag]) _ (initP_len _) (by omega)
  have hlt:=(List.getElem?_eq_some_iff.1 hx).1
  have h1:decide ((i:Int) < n.Nodes.length)=true:=by simp [hlt]
  refine ⟨by rw [pass_len]; exact hI,?_⟩
  simp only [M_ag,h1,cond_true]
  rw [p_pass n gone l (by rw [hI]; exact hE) hF hg,w64_eq (by omega) (by omega)]
  rfl
 rw [this]; rfl
def alM (g:Int) (i:Nat):Bool:=!(bits .and .i64 (Int.fdiv g (2 ^ (min i (IntKind.bits .i64)))) 1==1)
theorem p_passS (n:TNetwork) (g:Int) (o:List Int) (hE:EdI n.Fibers o.length) (hF:n.Fibers.length≤1048576) :
 iter (M_g n g) N0 (false,0,o)=some (passS (alM g) 0 n.Fibers (false,o)):=by
 rw [← foldI_passS]
 refine iter_foldI (f:=M_g n g) n.Fibers (fun i (p:Bool×List Int)=>(p.1,(i:Int),p.2)) (fun i (f:TFiber) (p:Bool×List Int)=>if alM g i&&!(gt p.2 f.A.toNat==gt p.2 f.B.toNat) then (true,relax p.2 f.A.toNat f.B.toNat) else p) id (fun _ p=>p.2.length=o.length) (fun i p f hf hI=>?_) (fun l hI=>by simp [M_g]) (false,o) rfl (by omega)
 have hlt:=(List.getElem?_eq_some_iff.1 hf).1
 have h1:decide ((i:Int) < n.Fibers.length)=true:=by simp [hlt]
 refine ⟨by split <;> simp [relax_len,hI],?_⟩
 have hEf:=hE f (List.mem_of_getElem? hf)
 rw [← hI] at hEf
 have gA:=gt_at (o:=p.2) (show f.A.toNat < p.2.length by omega)
 have gB:=gt_at (o:=p.2) (show f.B.toNat < p.2.length by omega)
 simp only [M_g,h1,cond_true,geti_nat,hf,Option.bind_some,w64_eq (n:=(i:Int)+1) (by omega) (by omega),w64u_eq (n:=(i:Int)) (by omega) (by omega),Int.toNat_natCast]
 rw [grd_t (by omega),grd_t ⟨hEf.1,hEf.2.1⟩,grd_t ⟨hEf.2.2.1,hEf.2.2.2⟩]
 simp only [Option.bind_some,gA,gB,bnd]
 have eb:(bits .and .i64 (Int.fdiv g (2 ^ (min i (IntKind.bits .i64)))) 1==1)=!alM g i:=by simp [alM]
 rw [eb]
 rcases bt (alM g i) with e | e
 · simp only [e,Bool.not_true,cond_false,Option.bind_some,Bool.true_and]
   rcases bt (gt p.2 f.A.toNat==gt p.2 f.B.toNat) with e2 | e2
   · simp only [e2,cond_true,Bool.not_true,Bool.false_eq_true,if_false]
     rfl
   · simp only [e2,cond_false,Bool.not_false,if_true]
     have hm:M_bq (gt p.2 f.A.toNat) (gt p.2 f.B.toNat)=some (mn (gt p.2 f.A.toNat) (gt p.2 f.B.toNat)):=by
      have hne:gt p.2 f.A.toNat ≠ gt p.2 f.B.toNat:=by simpa using e2
      unfold M_bq mn
      by_cases h2:gt p.2 f.A.toNat < gt p.2 f.B.toNat
      · rw [decide_eq_true h2,cond_true,if_neg (by omega)]
      · rw [decide_eq_false h2,cond_false,if_pos (by omega)]
     simp only [hm,Option.bind_some]
     rw [List.getElem?_eq_getElem (by simp; omega)]
     rfl
 · simp only [e,Bool.not_false,cond_true,Option.bind_some,Bool.false_and,Bool.false_eq_true,if_false]
   rfl
theorem p_l6Labels (n:TNetwork) (g:Int) (hE:EdI n.Fibers n.Nodes.length) (hN0:0 < n.Nodes.length) (hN:n.Nodes.length≤1048576) (hF:n.Fibers.length≤1048576) :
 M_cm n g=some (labels (alM g) n.Fibers n.Nodes.length):=by
 unfold M_cm
 rw [p_init2 n hN]
 simp only [Option.bind_some]
 rw [fix_loop (al:=alM g) (fs:=n.Fibers) (N:=n.Nodes.length) (f:=M_az n g) hE.ed hN0 hN (fun o ho=>by
  simp only [M_az,cond_true]
  rw [p_passS n g o (by rw [ho]; exact hE) hF]
  rfl) (fun o=>by simp [M_az])]
 rfl
end Vs

namespace Vs
open Go
theorem reps_len (al:Nat→Bool) (fs:List TFiber) (N k:Nat):(rep (passP al 0 fs) k (initP N)).length=N:=by rw [rep_len,initP_len]
theorem reps_rng {al:Nat→Bool} {fs:List TFiber} {N:Nat} (hE:Ed fs N):∀ t v,v < N→0≤gt (rep (passP al 0 fs) t (initP N)) v∧gt (rep (passP al 0 fs) t (initP N)) v < N:=by
 intro t
 induction t with
 | zero=>intro v hv; rw [rep,gt_init N v hv]; omega
 | succ t ih =>
   intro v hv
   exact pass_rng fs 0 _ (by rw [reps_len]; exact hE) (fun v hv=>ih v (by rw [reps_len] at hv; exact hv)) v (by rw [reps_len]; exact hv)
theorem reps_fix {al:Nat→Bool} {fs:List TFiber} {N:Nat} (hE:Ed fs N):∃ k,passP al 0 fs (rep (passP al 0 fs) k (initP N))=rep (passP al 0 fs) k (initP N):=by
 apply Classical.byContradiction
 intro hno
 have hne:∀ k,passP al 0 fs (rep (passP al 0 fs) k (initP N)) ≠ rep (passP al 0 fs) k (initP N):=fun k h=>hno ⟨k,h⟩
 let M:Nat→Nat:=fun k=>sm (fun v=>(gt (rep (passP al 0 fs) k (initP N)) v).toNat) N
 have hdec:∀ k,M (k+1) < M k:=by
  intro k
  have hle:∀ v,gt (rep (passP al 0 fs) (k+1) (initP N)) v≤gt (rep (passP al 0 fs) k (initP N)) v:=fun v=>pass_le al fs 0 _ (by rw [reps_len]; exact hE) v
  refine sm_lt N (fun v hv=>by have:=hle v; omega) ?_
  apply Classical.byContradiction
  intro hall
  refine hne k (gt_ext (by rw [pass_len]) fun v=>?_)
  by_cases hv:v < N
  · have h1:=hle v
    have h2:=(reps_rng (al:=al) hE (k+1) v hv).1
    have h3:¬ (gt (rep (passP al 0 fs) (k+1) (initP N)) v).toNat < (gt (rep (passP al 0 fs) k (initP N)) v).toNat:=fun h=>hall ⟨v,hv,h⟩
    show gt (rep (passP al 0 fs) (k+1) (initP N)) v=_
    omega
  · have l1:=reps_len al fs N (k+1)
    have l2:=reps_len al fs N k
    show gt (rep (passP al 0 fs) (k+1) (initP N)) v=_
    unfold gt
    rw [List.getD_eq_getElem?_getD,List.getD_eq_getElem?_getD,List.getElem?_eq_none (by omega),List.getElem?_eq_none (by omega)]
 have:∀ k,M k+k≤M 0:=by
  intro k
  induction k with
  | zero=>omega
  | succ k ih=>have:=hdec k; omega
 have:=this (M 0+1)
 omega
theorem labels_len (al:Nat→Bool) (fs:List TFiber) (N:Nat):(labels al fs N).length=N:=reps_len al fs N N
theorem labels_fix {al:Nat→Bool} {fs:List TFiber} {N:Nat} (hE:Ed fs N) (hN:0 < N):passP al 0 fs (labels al fs N)=labels al fs N:=by
 obtain ⟨k,hk⟩:=reps_fix (al:=al) hE
 rw [conv hE hN rfl hk]
 exact hk
theorem labels_flat {al:Nat→Bool} {fs:List TFiber} {N:Nat} (hE:Ed fs N) (hN:0 < N):Flat al 0 fs (gt (labels al fs N)) :=
 pass_fix fs 0 _ (by rw [labels_len]; exact hE) fun v=>by rw [labels_fix hE hN]
theorem labels_clo {al:Nat→Bool} {fs:List TFiber} {N:Nat} (hE:Ed fs N) {X:Nat→Prop} (hX:Clo al 0 fs X) (v:Nat) (hv:v < N):X v↔X (gt (labels al fs N) v).toNat:=by
 have:∀ t v,v < N→(X v↔X (gt (rep (passP al 0 fs) t (initP N)) v).toNat):=by
  intro t
  induction t with
  | zero=>intro v hv; rw [rep,gt_init N v hv]; simp
  | succ t ih =>
    intro v hv
    exact pass_clo fs 0 _ (by rw [reps_len]; exact hE) hX (fun v hv=>ih v (by rw [reps_len] at hv; exact hv)) v (by rw [reps_len]; exact hv)
 exact this N v hv
theorem labels_mono {al al':Nat→Bool} {fs:List TFiber} {N:Nat} (hE:Ed fs N) (hN:0 < N) (h:∀ i,al' i=true→al i=true) {a b:Nat} (ha:a < N) (hb:b < N)
 (e:gt (labels al' fs N) a=gt (labels al' fs N) b):gt (labels al fs N) a=gt (labels al fs N) b:=by
 have hf:=labels_flat (al:=al) hE hN
 have hX:Clo al' 0 fs (fun v=>gt (labels al fs N) v=gt (labels al fs N) a):=fun j f hj hal=>by
  show gt (labels al fs N) f.A.toNat=_↔gt (labels al fs N) f.B.toNat=_
  rw [hf j f hj (h _ hal)]
 have h1:=labels_clo hE hX a ha
 have h2:=labels_clo hE hX b hb
 rw [e] at h1
 exact (h2.2 (h1.1 rfl)).symm
end Vs

namespace Vs
open Go
def otherP (f:TFiber) (v:Int):Int:=if v=f.A then f.B else if v=f.B then f.A else -1
def othI (n:TNetwork) (e v:Int):Int:=match n.Fibers[e.toNat]? with | some f=>otherP f v | none=>-1
def badE (n:TNetwork) (ring:List Int) (i:Nat) (e:Int):Bool:=!wi e 0 ((n.Fibers.length:Int) - 1)||(ring.take i).any fun x=>x==e
def stS (n:TNetwork) (ring:List Int) (i:Nat) (e:Int) (p:Int×List Int):(Int×List Int) ⊕ ((Int×List Int) ⊕ (List Int×Bool)) :=
 if badE n ring i e||p.2.any (·==p.1) then .inr (.inr (p.2,false)) else if othI n e p.1 < 0 then .inr (.inr (p.2++[p.1],false)) else .inl (othI n e p.1,p.2++[p.1])
def stI (n:TNetwork) (ring:List Int) (i:Nat) (e:Int) (p:Int×List Int):(Int×List Int) ⊕ ((Int×List Int) ⊕ (List Int×Int×Bool)) :=
 if badE n ring i e then .inr (.inr ([],0,false)) else if othI n e p.1 < 0 then .inr (.inr ([],0,false)) else .inl (othI n e p.1,p.2++[p.1])
def wkS (n:TNetwork) (ring:List Int) (i:Nat) (ys:List Int) (p:Int×List Int):=walkL (stS n ring) (fun a=>.inl a) i ys p
def wkI (n:TNetwork) (ring:List Int) (i:Nat) (ys:List Int) (p:Int×List Int):=walkL (stI n ring) (fun a=>.inl a) i ys p
theorem wkI_pre (n:TNetwork) (ring:List Int):∀ (ys:List Int) (i:Nat) (p q:Int×List Int),wkI n ring i ys p=.inl q→∃ t,q.2=p.2++t
 | [], _, p, q, h => by
   unfold wkI walkL at h
   cases h; exact ⟨[],by simp⟩
 | e :: ys, i, p, q, h => by
   unfold wkI at h
   rw [walkL] at h
   unfold stI at h
   split at h
   · rename_i a he
     split at he
     · cases he
     · split at he
       · cases he
       · cases he
         obtain ⟨t,ht⟩:=wkI_pre n ring ys (i+1) _ q h
         exact ⟨[p.1]++t,by rw [ht]; simp⟩
   · rename_i b he
     split at he
     · cases he; cases h
     · split at he
       · cases he; cases h
       · cases he
theorem wk_iff (n:TNetwork) (ring:List Int):∀ (ys:List Int) (i:Nat) (p q:Int×List Int),p.2.Nodup→(wkS n ring i ys p=.inl q↔wkI n ring i ys p=.inl q∧q.2.Nodup)
 | [], i, p, q, hp => by
   unfold wkS wkI walkL
   constructor
   · intro h; cases h; exact ⟨rfl,hp⟩
   · rintro ⟨h,_⟩; cases h; rfl
 | e :: ys, i, p, q, hp => by
   have eS:wkS n ring i (e::ys) p=match stS n ring i e p with | .inl a=>wkS n ring (i+1) ys a | .inr b=>b:=by
    unfold wkS; rw [walkL]; cases stS n ring i e p <;> rfl
   have eI:wkI n ring i (e::ys) p=match stI n ring i e p with | .inl a=>wkI n ring (i+1) ys a | .inr b=>b:=by
    unfold wkI; rw [walkL]; cases stI n ring i e p <;> rfl
   rw [eS,eI]
   unfold stS stI
   by_cases hb:badE n ring i e=true
   · simp [hb]
   · by_cases ho:othI n e p.1 < 0
     · by_cases hv:p.2.any (·==p.1)=true <;> simp [hb,ho,hv]
     · by_cases hv:p.2.any (·==p.1)=true
       · have hm:p.1∈p.2:=by
          obtain ⟨x,hx,hxe⟩:=List.any_eq_true.1 hv
          rw [← eq_of_beq hxe]; exact hx
         simp only [hb,ho,hv,Bool.or_true,if_true,if_false,Bool.false_eq_true]
         constructor
         · intro h; cases h
         · rintro ⟨h,hq⟩
           obtain ⟨t,ht⟩:=wkI_pre n ring ys (i+1) _ q h
           rw [ht] at hq
           have h1:=(List.nodup_append.1 hq).1
           have h2:=(List.nodup_append.1 h1).2.2
           exact (h2 p.1 hm p.1 (by simp) rfl).elim
       · have hm:p.1 ∉ p.2:=fun h=>hv (List.any_eq_true.2 ⟨p.1,h,by simp⟩)
         simp only [hb,ho,hv,Bool.or_self,if_false,Bool.false_eq_true]
         exact wk_iff n ring ys (i+1) _ q (List.nodup_append.2 ⟨hp,by simp,fun a ha b hb'=>by
          simp only [List.mem_singleton] at hb'
          subst hb'
          intro e; subst e; exact hm ha⟩)
end Vs

namespace Vs
open Go
theorem p_l1Has (l:List Int) (x:Int) (hl:l.length≤1048576):M_be l x=some (l.any fun y=>y==x):=by
 unfold M_be
 rw [iter_any (f:=M_bd l x) l (fun y=>y==x) (.inr true) (.inl ()) (fun i y hy=>by
  have hlt:=(List.getElem?_eq_some_iff.1 hy).1
  have h1:decide ((i:Int) < l.length)=true:=by simp [hlt]
  simp only [M_bd,h1,cond_true,geti_nat,hy,Option.bind_some]
  rw [w64_eq (by omega) (by omega)]
  cases y==x <;> rfl) (by simp [M_bd]) (by omega)]
 cases l.any fun y=>y==x <;> rfl
theorem geti_fib {n:TNetwork} {e:Int} (h:wi e 0 ((n.Fibers.length:Int) - 1)=true):∃ f,geti n.Fibers e=some f∧n.Fibers[e.toNat]?=some f:=by
 rw [wi_iff] at h
 have hlt:e.toNat < n.Fibers.length:=by omega
 refine ⟨n.Fibers[e.toNat],?_,List.getElem?_eq_getElem hlt⟩
 have h3:=geti_nat n.Fibers e.toNat
 rw [Int.toNat_of_nonneg h.1] at h3
 rw [h3]
 exact List.getElem?_eq_getElem hlt
theorem p_l2Other (n:TNetwork) (e v:Int) (h:wi e 0 ((n.Fibers.length:Int) - 1)=true):M_cd n e v=some (othI n e v):=by
 obtain ⟨f,h1,h2⟩:=geti_fib h
 unfold M_cd othI otherP
 rw [h1,h2]
 simp only [Option.bind_some]
 by_cases a:v=f.A
 · rw [show (v==f.A)=true from by simpa using a,cond_true,if_pos a]
 · rw [show (v==f.A)=false from by simpa using a,cond_false,if_neg a]
   by_cases b:v=f.B
   · rw [show (v==f.B)=true from by simpa using b,cond_true,if_pos b]
   · rw [show (v==f.B)=false from by simpa using b,cond_false,if_neg b]
theorem p_walkL (n:TNetwork) (ring:List Int) (fr:Int) (hF:n.Fibers.length≤1048576) (hr:ring.length≤1048576):iter (M_y n ring) N0 (fr,0,[])=some (wkS n ring 0 ring (fr,[])):=by
 refine iter_list (f:=M_y n ring) ring (fun i (p:Int×List Int)=>(p.1,(i:Int),p.2)) (stS n ring) (fun a=>.inl a) (fun i p=>p.2.length=i) (fun i p e he hI=>?_) (fun p hI=>by simp [M_y]) (fr,[]) rfl (by omega)
 have hlt:=(List.getElem?_eq_some_iff.1 he).1
 have h1:decide ((i:Int) < ring.length)=true:=by simp [hlt]
 have hf:M_y n ring (p.1,(i:Int),p.2)=some (match stS n ring i e p with | .inl a=>.inl (a.1,((i+1:Nat):Int),a.2) | .inr b=>.inr b):=by
  simp only [M_y,h1,cond_true,geti_nat,he,Option.bind_some,p_l1In,slT_nat ring i (by omega),p_l1Has (ring.take i) e (by simp; omega),p_l1Has p.2 p.1 (by omega),w64_eq (n:=(n.Fibers.length:Int) - 1) (by omega) (by omega),w64_eq (n:=(i:Int)+1) (by omega) (by omega),bnd]
  unfold stS badE
  rcases bt (wi e 0 ((n.Fibers.length:Int) - 1)) with e1 | e1
  · rcases bt ((ring.take i).any fun x=>x==e) with e2 | e2
    · simp [e1,e2]
    · rcases bt (p.2.any fun y=>y==p.1) with e3 | e3
      · simp [e1,e2,e3]
      · simp only [e1,e2,e3,Bool.not_true,cond_false,Option.bind_some,Bool.or_self,Bool.false_eq_true,if_false,p_l2Other n e p.1 e1]
        rw [grd_t (by omega)]
        by_cases h3:othI n e p.1 < 0
        · simp [h3]
        · simp [h3]
  · simp [e1]
 cases hs:stS n ring i e p with
 | inl a =>
   left
   rw [hs] at hf
   refine ⟨a,rfl,?_,hf⟩
   unfold stS at hs
   split at hs
   · cases hs
   · split at hs
     · cases hs
     · cases hs; simp [hI]
 | inr b =>
   right
   rw [hs] at hf
   exact ⟨b,rfl,hf⟩
end Vs

namespace Vs
open Go
theorem p_otherEnd (f:TFiber) (v:Int):M_bu f v=some (otherP f v):=by
 unfold M_bu otherP
 by_cases a:v=f.A
 · rw [show (v==f.A)=true from by simpa using a,cond_true,if_pos a]
 · rw [show (v==f.A)=false from by simpa using a,cond_false,if_neg a]
   by_cases b:v=f.B
   · rw [show (v==f.B)=true from by simpa using b,cond_true,if_pos b]
   · rw [show (v==f.B)=false from by simpa using b,cond_false,if_neg b]
theorem any_mem (l:List Int) (e:Int):decide (e∈l)=l.any fun x=>x==e:=by
 rw [Bool.eq_iff_iff,decide_eq_true_iff,List.any_eq_true]
 constructor
 · intro h; exact ⟨e,h,by simp⟩
 · rintro ⟨x,hx,he⟩; rw [← eq_of_beq he]; exact hx
theorem p_followL (n:TNetwork) (ring:List Int) (fr:Int) (hF:n.Fibers.length≤1048576) (hr:ring.length≤1048576):iter (M_v n ring) N0 (fr,0,[])=some (wkI n ring 0 ring (fr,[])):=by
 refine iter_list (f:=M_v n ring) ring (fun i (p:Int×List Int)=>(p.1,(i:Int),p.2)) (stI n ring) (fun a=>.inl a) (fun i p=>p.2.length=i) (fun i p e he hI=>?_) (fun p hI=>by simp [M_v]) (fr,[]) rfl (by omega)
 have hlt:=(List.getElem?_eq_some_iff.1 he).1
 have h1:decide ((i:Int) < ring.length)=true:=by simp [hlt]
 have hf:M_v n ring (p.1,(i:Int),p.2)=some (match stI n ring i e p with | .inl a=>.inl (a.1,((i+1:Nat):Int),a.2) | .inr b=>.inr b):=by
  simp only [M_v,h1,cond_true,geti_nat,he,Option.bind_some,p_within,slT_nat ring i (by omega),p_ContI (ring.take i) e (by simp; omega),w64_eq (n:=(n.Fibers.length:Int) - 1) (by omega) (by omega),w64_eq (n:=(i:Int)+1) (by omega) (by omega),bnd,any_mem]
  unfold stI badE
  rcases bt (wi e 0 ((n.Fibers.length:Int) - 1)) with e1 | e1
  · rcases bt ((ring.take i).any fun x=>x==e) with e2 | e2
    · simp [e1,e2]
    · obtain ⟨f,g1,g2⟩:=geti_fib e1
      have ho:othI n e p.1=otherP f p.1:=by unfold othI; rw [g2]
      simp only [e1,e2,Bool.not_true,cond_false,Option.bind_some,Bool.or_self,Bool.false_eq_true,if_false,g1,p_otherEnd,ho]
      rw [grd_t (by omega)]
      by_cases h3:otherP f p.1 < 0
      · simp [h3]
      · simp [h3]
  · simp [e1]
 cases hs:stI n ring i e p with
 | inl a =>
   left
   rw [hs] at hf
   refine ⟨a,rfl,?_,hf⟩
   unfold stI at hs
   split at hs
   · cases hs
   · split at hs
     · cases hs
     · cases hs; simp [hI]
 | inr b =>
   right
   rw [hs] at hf
   exact ⟨b,rfl,hf⟩
end Vs

namespace Vs
open Go
theorem netOk_bR {n:TNetwork} (h:netOk n=true):2≤n.Nodes.length∧n.Nodes.length≤8∧n.Fibers.length≤14:=by
 unfold netOk at h
 simp only [Bool.and_eq_true,decide_eq_true_eq,wi_iff] at h
 omega
theorem netOk_fibR {n:TNetwork} (h:netOk n=true) {i:Nat} {f:TFiber} (hf:n.Fibers[i]?=some f):FibOk n.Nodes.length f:=by
 unfold netOk at h
 simp only [Bool.and_eq_true,Bool.not_eq_true'] at h
 have:=anyI_false.1 h.1.1.2 i f hf
 unfold fibBad at this
 simp only [Bool.or_eq_false_iff] at this
 exact fib1_ok this.1
theorem wkS_cons (n:TNetwork) (ring:List Int) (i:Nat) (e:Int) (ys:List Int) (p:Int×List Int):wkS n ring i (e::ys) p=match stS n ring i e p with | .inl a=>wkS n ring (i+1) ys a | .inr b=>b:=by
 unfold wkS; rw [walkL]; cases stS n ring i e p <;> rfl
theorem wkI_cons (n:TNetwork) (ring:List Int) (i:Nat) (e:Int) (ys:List Int) (p:Int×List Int):wkI n ring i (e::ys) p=match stI n ring i e p with | .inl a=>wkI n ring (i+1) ys a | .inr b=>b:=by
 unfold wkI; rw [walkL]; cases stI n ring i e p <;> rfl
theorem wkS_bad (n:TNetwork) (ring:List Int):∀ (ys:List Int) (i:Nat) (p:Int×List Int) (x:List Int×Bool),wkS n ring i ys p=.inr x→x.2=false
 | [],i,p,x,h=>by unfold wkS walkL at h; cases h
 | e :: ys, i, p, x, h => by
   rw [wkS_cons] at h
   unfold stS at h
   by_cases h1:(badE n ring i e||p.2.any (·==p.1))=true
   · rw [if_pos h1] at h; cases h; rfl
   · rw [if_neg h1] at h
     by_cases h2:othI n e p.1 < 0
     · rw [if_pos h2] at h; cases h; rfl
     · rw [if_neg h2] at h; exact wkS_bad n ring ys (i+1) _ x h
theorem wkI_bad (n:TNetwork) (ring:List Int):∀ (ys:List Int) (i:Nat) (p:Int×List Int) (x:List Int×Int×Bool),wkI n ring i ys p=.inr x→x=([],0,false)
 | [],i,p,x,h=>by unfold wkI walkL at h; cases h
 | e :: ys, i, p, x, h => by
   rw [wkI_cons] at h
   unfold stI at h
   by_cases h1:badE n ring i e=true
   · rw [if_pos h1] at h; cases h; rfl
   · rw [if_neg h1] at h
     by_cases h2:othI n e p.1 < 0
     · rw [if_pos h2] at h; cases h; rfl
     · rw [if_neg h2] at h; exact wkI_bad n ring ys (i+1) _ x h
theorem wkI_ok (n:TNetwork) (ring:List Int):∀ (ys:List Int) (i:Nat) (p q:Int×List Int),wkI n ring i ys p=.inl q→∀ j e,ys[j]?=some e→badE n ring (i+j) e=false
 | [],i,p,q,_,j,e,h=>by simp at h
 | y :: ys, i, p, q, h, j, e, hj => by
   rw [wkI_cons] at h
   unfold stI at h
   by_cases h1:badE n ring i y=true
   · rw [if_pos h1] at h; cases h
   · rw [if_neg h1] at h
     by_cases h2:othI n y p.1 < 0
     · rw [if_pos h2] at h; cases h
     · rw [if_neg h2] at h
       cases j with
       | zero=>simp at hj; subst hj; simpa using h1
       | succ j =>
         have:=wkI_ok n ring ys (i+1) _ q h j e (by simpa using hj)
         rw [show i+(j+1)=i+1+j by omega]; exact this
theorem badE_wi {n:TNetwork} {ring:List Int} {i:Nat} {e:Int} (h:badE n ring i e=false):wi e 0 ((n.Fibers.length:Int) - 1)=true∧e ∉ ring.take i:=by
 unfold badE at h
 simp only [Bool.or_eq_false_iff,Bool.not_eq_false'] at h
 refine ⟨h.1,fun hm=>?_⟩
 have:=h.2
 rw [← any_mem] at this
 simp [hm] at this
theorem nodup_of {xs:List Int} (h:∀ j e,xs[j]?=some e→e ∉ xs.take j):xs.Nodup:=by
 rw [List.nodup_iff_pairwise_ne,List.pairwise_iff_getElem]
 intro i j hi hj hij e
 refine h j xs[j] (List.getElem?_eq_getElem hj) ?_
 rw [← e]
 have h2:(xs.take j)[i]?=some xs[i]:=by rw [List.getElem?_take,if_pos hij]; exact List.getElem?_eq_getElem hi
 exact List.mem_of_getElem? h2
theorem nodup_take {xs:List Int} (h:xs.Nodup) {j:Nat} {e:Int} (hj:xs[j]?=some e):e ∉ xs.take j:=by
 intro hm
 obtain ⟨i,hi⟩:=List.getElem?_of_mem hm
 rw [List.getElem?_take] at hi
 split at hi
 · rename_i hij
   obtain ⟨h1,h2⟩:=List.getElem?_eq_some_iff.1 hi
   obtain ⟨h3,h4⟩:=List.getElem?_eq_some_iff.1 hj
   have:=(List.pairwise_iff_getElem.1 (List.nodup_iff_pairwise_ne.1 h)) i j h1 h3 hij
   exact this (h2.trans h4.symm)
 · cases hi
theorem wkI_nodup {n:TNetwork} {ring:List Int} {p q:Int×List Int} (h:wkI n ring 0 ring p=.inl q):ring.Nodup :=
 nodup_of fun j e hj=>by
  have:=wkI_ok n ring ring 0 p q h j e hj
  rw [Nat.zero_add] at this
  exact (badE_wi this).2
theorem wkI_two {n:TNetwork} {ring:List Int} {e0 e1:Int} {t:List Int} (hr:ring=e0::e1::t) {v:Int} {q:Int×List Int} (h:wkI n ring 0 ring (v,[])=.inl q) :
 wi e0 0 ((n.Fibers.length:Int) - 1)=true∧0≤othI n e0 v∧∃ s,q.2=v::othI n e0 v::s:=by
 have hb:=wkI_ok n ring ring 0 _ q h 0 e0 (by rw [hr]; rfl)
 have h1:=h
 conv at h1=>lhs; arg 4; rw [hr]
 rw [wkI_cons] at h1
 unfold stI at h1
 rw [if_neg (by rw [hb]; simp)] at h1
 by_cases h2:othI n e0 v < 0
 · rw [if_pos h2] at h1; cases h1
 · rw [if_neg h2] at h1
   simp only at h1
   rw [wkI_cons] at h1
   unfold stI at h1
   by_cases h3:badE n ring (0+1) e1=true
   · rw [if_pos h3] at h1; cases h1
   · rw [if_neg h3] at h1
     simp only at h1
     by_cases h4:othI n e1 (othI n e0 v) < 0
     · rw [if_pos h4] at h1; cases h1
     · rw [if_neg h4] at h1
       obtain ⟨s,hs⟩:=wkI_pre n ring t _ _ q h1
       exact ⟨(badE_wi hb).1,by omega,s,by rw [hs]; simp⟩
def startA (n:TNetwork) (ring:List Int):Int:=match ring[0]? with
 | some e => match n.Fibers[e.toNat]? with
   | some f=>f.A
   | none=>-1
 | none=>-1
def difB (a b:List Int):Option (Nat×Int×Int):=findI (fun _ q=>q.1 != q.2) (a.zip b)
def lexB (a b:List Int):Bool:=match difB a b with
 | some q=>decide (q.2.1 < q.2.2)
 | none=>false
def ringP (n:TNetwork) (ring:List Int):Option (List Int):=if 2≤ring.length then (match wkI n ring 0 ring (startA n ring,[]) with
 | .inl q=>if q.1=startA n ring∧q.2.Nodup∧(∀ x∈q.2,startA n ring≤x)∧lexB ring ring.reverse=true then some q.2 else none
 | .inr _=>none) else none
def okS (n:TNetwork) (ring:List Int) (v:Int):Bool:=match wkS n ring 0 ring (v,[]) with
 | .inl q=>decide (q.1=v)&&decide (1 < ring.length)
 | .inr _=>false
def ndS (n:TNetwork) (ring:List Int) (v:Int):List Int:=match wkS n ring 0 ring (v,[]) with
 | .inl q=>q.2
 | .inr x=>x.1
theorem okS_iff {n:TNetwork} {ring:List Int} {v:Int}:okS n ring v=true↔wkI n ring 0 ring (v,[])=.inl (v,ndS n ring v)∧(ndS n ring v).Nodup∧2≤ring.length:=by
 unfold okS ndS
 cases h:wkS n ring 0 ring (v,[]) with
 | inl q =>
   obtain ⟨h1,h2⟩:=(wk_iff n ring ring 0 (v,[]) q List.nodup_nil).1 h
   simp only [Bool.and_eq_true,decide_eq_true_eq]
   constructor
   · rintro ⟨rfl,h4⟩; exact ⟨h1,h2,h4⟩
   · rintro ⟨h3,_,h4⟩
     rw [h1] at h3
     have h5:=congrArg Prod.fst (Sum.inl.inj h3)
     exact ⟨h5,by omega⟩
 | inr x =>
   simp only [Bool.false_eq_true,false_iff]
   rintro ⟨h3,h4,_⟩
   have:=(wk_iff n ring ring 0 (v,[]) (v,x.1) List.nodup_nil).2 ⟨h3,h4⟩
   rw [h] at this; cases this
theorem difB_swap (a b:List Int):difB b a=(difB a b).map fun q=>(q.1,q.2.2,q.2.1):=by
 unfold difB
 have z:∀ (i:Nat) (x:Int×Int),(b.zip a)[i]?=some x↔(a.zip b)[i]?=some (x.2,x.1):=by
  intro i x
  rw [List.getElem?_zip_eq_some,List.getElem?_zip_eq_some]; exact And.comm
 cases h:findI (fun _ q=>q.1 != q.2) (a.zip b) with
 | none =>
   have:=findI_none.1 h
   simp only [Option.map_none]
   rw [findI_none]
   intro i x hx
   have:=this i _ ((z i x).1 hx)
   simp only [bne_eq_false_iff_eq] at this ⊢
   exact this.symm
 | some q =>
   obtain ⟨i,u,v⟩:=q
   obtain ⟨h1,h2,h3⟩:=findI_some.1 h
   simp only [Option.map_some]
   rw [findI_some]
   refine ⟨(z i (v,u)).2 h1,?_,fun j y hj hy=>?_⟩
   · simp only [bne_iff_ne,ne_eq] at h2 ⊢; exact fun e=>h2 e.symm
   · have:=h3 j _ hj ((z j y).1 hy)
     simp only [bne_eq_false_iff_eq] at this ⊢
     exact this.symm
theorem lexB_swap {a b:List Int} (h:(difB a b).isSome=true):lexB a b=!lexB b a:=by
 unfold lexB
 rw [difB_swap a b]
 cases hd:difB a b with
 | none=>rw [hd] at h; cases h
 | some q =>
   obtain ⟨h1,h2,h3⟩:=findI_some.1 (show findI (fun _ q=>q.1 != q.2) (a.zip b)=some (q.1,q.2) from hd)
   simp only [bne_iff_ne,ne_eq] at h2
   simp only [Option.map_some]
   rw [← decide_not]
   exact decide_eq_decide.2 (by omega)
theorem dif_rev {ring:List Int} (h:ring.Nodup) (hl:2≤ring.length):(difB ring ring.reverse).isSome=true:=by
 cases hd:difB ring ring.reverse with
 | some q=>rfl
 | none =>
   exfalso
   have h0:0 < ring.length:=by omega
   have hz:(ring.zip ring.reverse)[0]?=some (ring[0],ring[ring.length - 1]):=by
    rw [List.getElem?_zip_eq_some]
    refine ⟨List.getElem?_eq_getElem h0,?_⟩
    rw [List.getElem?_reverse h0,Nat.sub_zero]
    exact List.getElem?_eq_getElem (by omega)
   have:=findI_none.1 (show findI (fun _ q=>q.1 != q.2) (ring.zip ring.reverse)=none from hd) 0 _ hz
   simp only [bne_eq_false_iff_eq] at this
   exact (List.pairwise_iff_getElem.1 (List.nodup_iff_pairwise_ne.1 h)) 0 (ring.length - 1) h0 (by omega) (by omega) this
theorem start_two {n:TNetwork} (hn:netOk n=true) {ring:List Int} {v:Int} (h:okS n ring v=true):∃ e0 f,ring[0]?=some e0∧n.Fibers[e0.toNat]?=some f∧startA n ring=f.A∧FibOk n.Nodes.length f∧(v=f.A∨v=f.B) ∧
 ∃ s,ndS n ring v=v::otherP f v::s:=by
 obtain ⟨h1,h2,h3⟩:=okS_iff.1 h
 match hr:ring,h3 with
 | e0 :: e1 :: t, _ =>
   rw [← hr] at h1
   obtain ⟨g1,g2,s,g3⟩:=wkI_two hr h1
   obtain ⟨f,_,g4⟩:=geti_fib g1
   have g5:=netOk_fibR hn g4
   refine ⟨e0,f,rfl,g4,?_,g5,?_,s,?_⟩
   · unfold startA
     simp only [List.getElem?_cons_zero,g4]
   · unfold othI otherP at g2
     rw [g4] at g2
     simp only at g2
     by_cases a:v=f.A
     · exact .inl a
     · rw [if_neg a] at g2
       by_cases b:v=f.B
       · exact .inr b
       · rw [if_neg b] at g2; omega
   · rw [← hr]
     have e:othI n e0 v=otherP f v:=by unfold othI; rw [g4]
     rw [← e]; exact g3
theorem ringP_some {n:TNetwork} {ring l:List Int}:ringP n ring=some l↔okS n ring (startA n ring)=true∧ndS n ring (startA n ring)=l∧(∀ x∈l,startA n ring≤x)∧lexB ring ring.reverse=true:=by
 unfold ringP
 constructor
 · intro h
   split at h
   · rename_i h2
     split at h
     · rename_i q hq
       split at h
       · rename_i hc
         cases h
         obtain ⟨c1,c2,c3,c4⟩:=hc
         have hS:=(wk_iff n ring ring 0 (startA n ring,[]) q List.nodup_nil).2 ⟨hq,c2⟩
         refine ⟨?_,?_,c3,c4⟩
         · unfold okS; rw [hS]; simp only [Bool.and_eq_true,decide_eq_true_eq]; exact ⟨c1,by omega⟩
         · unfold ndS; rw [hS]
       · cases h
     · cases h
   · cases h
 · rintro ⟨h1,rfl,h3,h4⟩
   obtain ⟨g1,g2,g3⟩:=okS_iff.1 h1
   rw [if_pos g3,g1]
   simp only
   rw [if_pos (by exact ⟨by simp,g2,h3,h4⟩)]
end Vs

namespace Vs
open Go
theorem p_l17Walk (n:TNetwork) (ring:List Int) (v:Int) (hF:n.Fibers.length≤1048576) (hr:ring.length≤1048576):M_ed n ring v=some (ndS n ring v,okS n ring v):=by
 unfold M_ed
 rw [p_walkL n ring v hF hr]
 unfold ndS okS
 cases h:wkS n ring 0 ring (v,[]) with
 | inl q =>
   simp only [Option.bind_some]
   by_cases e:q.1=v
   · have e1:(q.1==v)=true:=by simpa using e
     have e2:decide (1 < (ring.length:Int))=decide (1 < ring.length):=decide_eq_decide.2 (by omega)
     simp [e,e2]
   · have e1:(q.1==v)=false:=by simpa using e
     simp [e,e1]
 | inr x =>
   have:=wkS_bad n ring ring 0 _ x h
   simp only [Option.bind_some]
   obtain ⟨x1,x2⟩:=x
   simp only at this; subst this; rfl
theorem walkL_push:∀ (xs:List Int) (i:Nat) (a:List Int),walkL (fun _ x (a:List Int)=>(.inl (a++[x]):List Int ⊕ List Int)) (fun a=>a) i xs a=a++xs
 | [],i,a=>by simp [walkL]
 | x::xs,i,a=>by simp only [walkL]; rw [walkL_push xs (i+1)]; simp
theorem p_l17Back (ring:List Int) (hr:ring.length≤1048576):M_dy ring=some ring.reverse:=by
 unfold M_dy
 rw [w64_eq (by omega) (by omega)]
 have:=iter_list (f:=M_bf ring) ring.reverse (fun i (a:List Int)=>((ring.length:Int) - 1 - (i:Int),a)) (fun _ x a=>.inl (a++[x])) (fun a=>a) (fun i a=>a.length=i) (fun i a x hx hI=>by
  have hlt:=(List.getElem?_eq_some_iff.1 hx).1
  rw [List.length_reverse] at hlt
  rw [List.getElem?_reverse hlt] at hx
  have h1:decide (0≤(ring.length:Int) - 1 - (i:Int))=true:=decide_eq_true (by omega)
  refine .inl ⟨_,rfl,by simp [hI],?_⟩
  have e:(ring.length:Int) - 1 - (i:Int)=((ring.length - 1 - i:Nat):Int):=by omega
  rw [e] at h1
  simp only [M_bf,h1,cond_true,e,geti_nat,hx,Option.bind_some,bnd]
  rw [grd_t (by omega),w64_eq (by omega) (by omega)]
  simp only [Option.bind_some]
  rw [show ((ring.length - 1 - i:Nat):Int) - 1=(ring.length:Int) - 1 - ((i+1:Nat):Int) by omega]) (fun a _=>by
  have h1:decide (0≤(ring.length:Int) - 1 - (ring.reverse.length:Int))=false:=decide_eq_false (by rw [List.length_reverse]; omega)
  simp only [M_bf,h1,cond_false]) [] rfl (by rw [List.length_reverse]; omega)
 rw [walkL_push] at this
 have e:(ring.length:Int) - 1 - ((0:Nat):Int)=(ring.length:Int) - 1:=by omega
 rw [e] at this
 rw [this]; rfl
theorem zip_len {a b:List Int} (h:a.length=b.length):(a.zip b).length=a.length:=by simp [h]
theorem p_l17Less (a b:List Int) (h:a.length=b.length) (hl:a.length≤1048576):M_bw a b=some (lexB a b):=by
 unfold M_bw
 have e:((a.length:Int) != (b.length:Int))=false:=by rw [h]; simp
 rw [e,cond_false]
 rw [iter_findI (f:=M_bg a b) (a.zip b) (fun _ q=>q.1 != q.2) (fun _ q=>decide (q.1 < q.2)) () (fun i q hq _=>by
  obtain ⟨h1,h2⟩:=List.getElem?_zip_eq_some.1 hq
  have hlt:=(List.getElem?_eq_some_iff.1 h1).1
  have h3:decide ((i:Int) < a.length)=true:=by simp [hlt]
  simp only [M_bg,h3,cond_true,geti_nat,h1,h2,Option.bind_some]
  rw [w64_eq (by omega) (by omega)]
  cases q.1 != q.2 <;> rfl) (by rw [zip_len h]; simp [M_bg]) (by rw [zip_len h]; omega)]
 unfold lexB difB
 cases findI (fun _ q=>q.1 != q.2) (a.zip b) <;> rfl
theorem p_CompareI (a b:List Int) (h:a.length=b.length) (hl:a.length≤1048576):∃ r,M_by a b=some r∧decide (r < 0)=lexB a b:=by
 unfold M_by
 rw [iter_findI (f:=M_w a b) (a.zip b) (fun _ q=>q.1 != q.2) (fun _ q=>cmpI q.1 q.2) () (fun i q hq _=>by
  obtain ⟨h1,h2⟩:=List.getElem?_zip_eq_some.1 hq
  have hlt:=(List.getElem?_eq_some_iff.1 h1).1
  have h3:decide ((i:Int) < a.length)=true:=by simp [hlt]
  have h4:decide ((b.length:Int)≤(i:Int))=false:=by simp; omega
  simp only [M_w,h3,h4,cond_true,cond_false,geti_nat,h1,h2,Option.bind_some,p_cmp]
  rw [w64_eq (by omega) (by omega)]
  by_cases e:q.1=q.2
  · have e1:(cmpI q.1 q.2 != 0)=false:=by rw [cmpI_zero.2 e]; rfl
    have e2:(q.1 != q.2)=false:=by rw [e]; simp
    rw [e1,e2]; rfl
  · have e1:(cmpI q.1 q.2 != 0)=true:=bne_iff_ne.2 fun e'=>e (cmpI_zero.1 e')
    have e2:(q.1 != q.2)=true:=bne_iff_ne.2 e
    rw [e1,e2]; rfl) (by rw [zip_len h]; simp [M_w]) (by rw [zip_len h]; omega)]
 unfold lexB difB
 cases hf:findI (fun _ q=>q.1 != q.2) (a.zip b) with
 | none =>
   have e:decide ((a.length:Int) < (b.length:Int))=false:=by rw [h]; simp
   exact ⟨0,by simp only [Option.bind_some,e,cond_false],rfl⟩
 | some q =>
   refine ⟨cmpI q.2.1 q.2.2,rfl,?_⟩
   unfold cmpI
   by_cases h1:q.2.1 < q.2.2
   · simp [h1]
   · by_cases h2:q.2.2 < q.2.1 <;> simp [h1,h2]
theorem nd_len {n:TNetwork} {ring:List Int} {v:Int} (hF:n.Fibers.length≤1048576) (hr:ring.length≤1048576) (h:okS n ring v=true):(ndS n ring v).length=ring.length:=by
 obtain ⟨h1,_,_⟩:=okS_iff.1 h
 have key:∀ (ys:List Int) (i:Nat) (p q:Int×List Int),wkI n ring i ys p=.inl q→q.2.length=p.2.length+ys.length:=by
  intro ys
  induction ys with
  | nil=>intro i p q h; unfold wkI walkL at h; cases h; simp
  | cons e ys ih =>
    intro i p q h
    rw [wkI_cons] at h
    unfold stI at h
    by_cases h1:badE n ring i e=true
    · rw [if_pos h1] at h; cases h
    · rw [if_neg h1] at h
      by_cases h2:othI n e p.1 < 0
      · rw [if_pos h2] at h; cases h
      · rw [if_neg h2] at h
        have:=ih (i+1) _ q h
        simp only [List.length_append,List.length_cons,List.length_nil] at this ⊢
        omega
 have:=key ring 0 _ _ h1
 simpa using this
theorem first_start {n:TNetwork} (hn:netOk n=true) {ring:List Int} {i:Nat} {x:ByteArray} (h:findI (fun i (_:ByteArray)=>okS n ring (i:Int)) n.Nodes=some (i,x)) :
 ((i:Int)=startA n ring∧okS n ring (startA n ring)=true)∨(okS n ring (startA n ring)=false∧¬ ∀ y∈ndS n ring (i:Int),(i:Int)≤y):=by
 obtain ⟨h1,h2,h3⟩:=findI_some.1 h
 obtain ⟨e0,f,g1,g2,g3,g4,g5,s,g6⟩:=start_two hn h2
 obtain ⟨a0,ab,bm,_⟩:=g4
 rcases g5 with g5 | g5
 · left; rw [g3,← g5]; exact ⟨rfl,h2⟩
 · right
   have hlt:f.A.toNat < i:=by omega
   have hil:=(List.getElem?_eq_some_iff.1 h1).1
   have:=h3 f.A.toNat n.Nodes[f.A.toNat] hlt (List.getElem?_eq_getElem (by omega))
   rw [Int.toNat_of_nonneg a0] at this
   refine ⟨by rw [g3]; exact this,fun hall=>?_⟩
   have hm:otherP f (i:Int)∈ndS n ring (i:Int):=by rw [g6]; simp
   have:=hall _ hm
   have e:otherP f (i:Int)=f.A:=by
    unfold otherP
    rw [if_neg (by omega),if_pos g5]
   omega
theorem start_in {n:TNetwork} (hn:netOk n=true) {ring:List Int} (h:okS n ring (startA n ring)=true):∃ q,findI (fun i (_:ByteArray)=>okS n ring (i:Int)) n.Nodes=some q:=by
 cases e:findI (fun i (_:ByteArray)=>okS n ring (i:Int)) n.Nodes with
 | some q=>exact ⟨q,rfl⟩
 | none =>
   obtain ⟨e0,f,g1,g2,g3,g4,_⟩:=start_two hn h
   obtain ⟨a0,ab,bm,_⟩:=g4
   have hl:f.A.toNat < n.Nodes.length:=by omega
   have:=findI_none.1 e f.A.toNat _ (List.getElem?_eq_getElem hl)
   rw [Int.toNat_of_nonneg a0,← g3,h] at this; cases this
end Vs

namespace Vs
open Go
theorem p_followed (n:TNetwork) (v:Int) (ring:List Int) (hF:n.Fibers.length≤1048576) (hr:ring.length≤1048576):M_dk n v ring=some (match wkI n ring 0 ring (v,[]) with | .inl q=>(q.2,q.1,true) | .inr _=>([],0,false)):=by
 unfold M_dk
 rw [p_followL n ring v hF hr]
 cases h:wkI n ring 0 ring (v,[]) with
 | inl q=>rfl
 | inr x=>rw [wkI_bad n ring ring 0 _ x h]; rfl
theorem walkL_min:∀ (xs:List Int) (i:Nat) (m:Int),∃ r,walkL (fun _ y (m:Int)=>(.inl (if y < m then y else m):Int ⊕ Int)) (fun m=>m) i xs m=r∧(r=m∨r∈xs)∧r≤m∧∀ x∈xs,r≤x
 | [],i,m=>⟨m,by simp [walkL],.inl rfl,Int.le_refl _,by simp⟩
 | y :: xs, i, m => by
   obtain ⟨r,h1,h2,h3,h4⟩:=walkL_min xs (i+1) (if y < m then y else m)
   refine ⟨r,by simp only [walkL]; exact h1,?_,?_,?_⟩
   · rcases h2 with h2 | h2
     · by_cases e:y < m
       · rw [if_pos e] at h2; right; rw [h2]; simp
       · rw [if_neg e] at h2; exact .inl h2
     · exact .inr (List.mem_cons_of_mem _ h2)
   · split at h3 <;> omega
   · intro x hx
     rcases List.mem_cons.1 hx with rfl | hx
     · split at h3 <;> omega
     · exact h4 x hx
theorem p_MinI (xs:List Int) (h0:0 < xs.length) (hl:xs.length≤1048576):∃ m,M_dl xs=some m∧m∈xs∧∀ x∈xs,m≤x:=by
 cases xs with
 | nil=>simp at h0
 | cons x t =>
   simp only [List.length_cons] at hl
   have:=iter_list (f:=M_ba (x::t)) t (fun i (m:Int)=>(m,((i+1:Nat):Int))) (fun _ y (m:Int)=>.inl (if y < m then y else m)) (fun m=>m) (fun _ _=>True) (fun i m y hy _=>by
    have hlt:=(List.getElem?_eq_some_iff.1 hy).1
    have h1:decide (((i+1:Nat):Int) < ((x::t).length:Int))=true:=by simp; omega
    refine .inl ⟨_,rfl,trivial,?_⟩
    have hy':(x::t)[i+1]?=some y:=by simpa using hy
    simp only [M_ba,h1,cond_true,geti_nat,hy',Option.bind_some]
    rw [w64_eq (by omega) (by omega)]
    rfl) (fun m _=>by simp [M_ba]) x trivial (by omega)
   obtain ⟨r,h1,h2,h3,h4⟩:=walkL_min t 0 x
   refine ⟨r,?_,?_,?_⟩
   · unfold M_dl
     have e2:decide (((x::t).length:Int) < 1)=false:=by simp; omega
     rw [e2,cond_false]
     have e3:geti (x::t) 0=some x:=geti_nat (x::t) 0
     rw [e3]
     simp only [Option.bind_some]
     have e:((0+1:Nat):Int)=1:=rfl
     simp only [e] at this
     rw [this,h1]; rfl
   · rcases h2 with rfl | h2
     · simp
     · exact List.mem_cons_of_mem _ h2
   · intro y hy
     rcases List.mem_cons.1 hy with rfl | hy
     · exact h3
     · exact h4 y hy
theorem p_CloneI (xs:List Int) (hl:xs.length≤1048576):M_cj xs=some xs:=by
 unfold M_cj
 rw [grd_t (by omega)]
 cases xs with
 | nil=>rfl
 | cons x t=>rfl
theorem iter_swap {α:Type} {f:Int×Int×List α→Option ((Int×Int×List α) ⊕ (List α))} (xs:List α)
 (h1:∀ (i j:Nat) (l:List α) x y,i < j→l.length=xs.length→l[i]?=some x→l[j]?=some y→f ((i:Int),(j:Int),l)=some (.inl (((i+1:Nat):Int),(j:Int) - 1,(l.set i y).set j x)))
 (h2:∀ (i j:Int) (l:List α),j≤i→f (i,j,l)=some (.inr l)) (hl:xs.length < 18446744073709551615):iter f N0 (0,(xs.length:Int) - 1,xs)=some xs.reverse:=by
 obtain ⟨b,hb,h3⟩:=iter_inv (f:=f) (fun s=>∃ i:Nat,s.1=i∧s.2.1=(xs.length:Int) - 1 - i∧2 * i≤xs.length+1∧s.2.2.length=xs.length∧∀ k:Nat,k < xs.length→s.2.2[k]?=if k < i∨xs.length - 1 - k < i then xs[xs.length - 1 - k]? else xs[k]?)
  (fun s=>xs.length - s.1.toNat) (fun b=>b=xs.reverse) (fun s hI=>by
  obtain ⟨i',j',l⟩:=s
  obtain ⟨i,e1,e2,e3,e4,e5⟩:=hI
  simp only at e1 e2 e4 e5
  subst e1; subst e2
  by_cases h:(i:Int) < (xs.length:Int) - 1 - i
  · left
    have hi:i < xs.length:=by omega
    have hj:xs.length - 1 - i < xs.length:=by omega
    have g1:=e5 i hi
    rw [if_neg (by omega),List.getElem?_eq_getElem hi] at g1
    have g2:=e5 (xs.length - 1 - i) hj
    rw [if_neg (by omega),List.getElem?_eq_getElem hj] at g2
    have hf:=h1 i (xs.length - 1 - i) l _ _ (by omega) e4 g1 g2
    rw [show ((xs.length - 1 - i:Nat):Int)=(xs.length:Int) - 1 - i by omega] at hf
    refine ⟨_,hf,⟨i+1,rfl,by simp only; omega,by omega,by simp [e4],fun k hk=>?_⟩,by simp only [Int.toNat_natCast]; omega⟩
    simp only
    rw [List.getElem?_set]
    by_cases c1:xs.length - 1 - i=k
    · rw [if_pos c1,if_pos (by simp; omega),if_pos (by omega),show xs.length - 1 - k=i by omega,List.getElem?_eq_getElem hi]
    · rw [if_neg c1,List.getElem?_set]
      by_cases c2:i=k
      · rw [if_pos c2,if_pos (by omega),if_pos (by omega),← c2,List.getElem?_eq_getElem hj]
      · rw [if_neg c2,e5 k hk]
        by_cases c3:k < i∨xs.length - 1 - k < i
        · rw [if_pos c3,if_pos (by omega)]
        · rw [if_neg c3,if_neg (by omega)]
  · right
    refine ⟨_,h2 _ _ l (by omega),?_⟩
    apply List.ext_getElem?
    intro k
    by_cases hk:k < xs.length
    · rw [e5 k hk,List.getElem?_reverse hk]
      split
      · rfl
      · congr 1; omega
    · rw [List.getElem?_eq_none (by omega),List.getElem?_eq_none (by simp; omega)]) N0 (0,(xs.length:Int) - 1,xs) ⟨0,rfl,by simp,by omega,rfl,fun k hk=>by rw [if_neg (by omega)]⟩ (N0_lt (by simp; omega))
 rw [hb,h3]
theorem p_ReverseI (xs:List Int) (hl:xs.length≤1048576):M_dm xs=some xs.reverse:=by
 unfold M_dm
 rw [w64_eq (by omega) (by omega),iter_swap (f:=M_ai) xs (fun i j l x y hij hll hx hy=>by
  have hi:=(List.getElem?_eq_some_iff.1 hx).1
  have hj:=(List.getElem?_eq_some_iff.1 hy).1
  have e1:decide ((i:Int) < (j:Int))=true:=decide_eq_true (by omega)
  have e3:(l.set i y)[j]?=some y:=by rw [List.getElem?_set,if_neg (by omega)]; exact hy
  simp only [M_ai,e1,cond_true,Int.toNat_natCast,hx,hy,Option.bind_some,bnd,e3]
  rw [grd_t (by omega),grd_t (by omega),w64_eq (by omega) (by omega),w64_eq (by omega) (by omega)]
  rfl) (fun i j l h=>by
  have e1:decide (i < j)=false:=decide_eq_false (by omega)
  simp only [M_ai,e1,cond_false]) (by omega)]
 rfl
theorem p_aroundL1 (r:List Int×Int×Bool) (hl:r.1.length≤1048576):iter (M_aj r) N0 0=some (if r.1.Nodup then .inl () else .inr ([],false)):=by
 rw [iter_anyI (f:=M_aj r) r.1 (fun i v=>decide (v∈r.1.take i)) (.inr ([],false)) (.inl ()) (fun i v hv _=>by
  have hlt:=(List.getElem?_eq_some_iff.1 hv).1
  have h1:decide ((i:Int) < r.1.length)=true:=by simp [hlt]
  simp only [M_aj,h1,cond_true,Int.toNat_natCast,hv]
  rw [grd_t (by omega),grd_t ⟨trivial,by omega,trivial,by omega⟩]
  simp only [Option.bind_some,bnd,subT_drop,List.drop_zero,p_ContI (r.1.take i) v (by simp; omega)]
  rw [w64_eq (by omega) (by omega)]
  cases decide (v∈r.1.take i) <;> rfl) (by simp [M_aj]) (by omega)]
 by_cases h:r.1.Nodup
 · rw [if_pos h]
   have:anyI (fun i v=>decide (v∈r.1.take i)) r.1=false:=anyI_false.2 fun i v hv=>by simpa using nodup_take h hv
   rw [this]; rfl
 · rw [if_neg h]
   have:anyI (fun i v=>decide (v∈r.1.take i)) r.1=true:=by
    cases e:anyI (fun i v=>decide (v∈r.1.take i)) r.1 with
    | true=>rfl
    | false =>
      exfalso
      exact h (nodup_of fun i v hv=>by simpa using anyI_false.1 e i v hv)
   rw [this]; rfl
theorem ringP_none {n:TNetwork} {ring:List Int} (h:∀ q,wkI n ring 0 ring (startA n ring,[])=.inl q→q.1=startA n ring→q.2.Nodup→(∀ x∈q.2,startA n ring≤x)→lexB ring ring.reverse=true→2≤ring.length→False):ringP n ring=none:=by
 cases hp:ringP n ring with
 | none=>rfl
 | some l =>
   obtain ⟨h1,h2,h3,h4⟩:=ringP_some.1 hp
   obtain ⟨g1,g2,g3⟩:=okS_iff.1 h1
   rw [h2] at g1 g2
   exact (h _ g1 rfl g2 h3 h4 g3).elim
theorem p_around (n:TNetwork) (ring:List Int) (hF:n.Fibers.length≤1048576) (hr:ring.length≤1048576):∃ l,M_bz n ring=some (l,(ringP n ring).isSome)∧∀ r,ringP n ring=some r→l=r:=by
 unfold M_bz
 match ring,hr with
 | [],_=>exact ⟨[],rfl,fun r h=>by simp [ringP] at h⟩
 | [e0],_=>exact ⟨[],rfl,fun r h=>by simp [ringP] at h⟩
 | e0 :: e1 :: t, hr =>
   have hlen:2≤(e0::e1::t).length:=by simp
   generalize hR:e0::e1::t=ring at *
   have hg:geti ring 0=some e0:=by rw [← hR]; exact geti_nat (e0::e1::t) 0
   have h2:decide ((ring.length:Int) < 2)=false:=decide_eq_false (by omega)
   simp only [h2,cond_false,hg,Option.bind_some,p_within]
   rw [w64_eq (by omega) (by omega)]
   rcases bt (wi e0 0 ((n.Fibers.length:Int) - 1)) with hw | hw
   · obtain ⟨f,g1,g2⟩:=geti_fib hw
     have hs:startA n ring=f.A:=by
      unfold startA
      rw [← hR]
      simp only [List.getElem?_cons_zero,g2]
     simp only [hw,Bool.not_true,cond_false,g1,Option.bind_some,p_followed n f.A ring hF hr]
     rw [← hs]
     cases hwk:wkI n ring 0 ring (startA n ring,[]) with
     | inr x =>
       have:ringP n ring=none:=ringP_none fun q hq=>by rw [hwk] at hq; cases hq
       rw [this]
       exact ⟨[],rfl,fun r h=>by cases h⟩
     | inl q =>
       simp only [Bool.not_true,cond_false]
       have hql:q.2.length=ring.length∧startA n ring∈q.2:=by
        obtain ⟨_,_,s,hs2⟩:=wkI_two hR.symm hwk
        refine ⟨?_,by rw [hs2]; simp⟩
        have key:∀ (ys:List Int) (i:Nat) (p q:Int×List Int),wkI n ring i ys p=.inl q→q.2.length=p.2.length+ys.length:=by
         intro ys
         induction ys with
         | nil=>intro i p q h; unfold wkI walkL at h; cases h; simp
         | cons e ys ih =>
           intro i p q h
           rw [wkI_cons] at h
           unfold stI at h
           by_cases h1:badE n ring i e=true
           · rw [if_pos h1] at h; cases h
           · rw [if_neg h1] at h
             by_cases h2:othI n e p.1 < 0
             · rw [if_pos h2] at h; cases h
             · rw [if_neg h2] at h
               have:=ih (i+1) _ q h
               simp only [List.length_append,List.length_cons,List.length_nil] at this ⊢
               omega
        simpa using key ring 0 _ q hwk
       by_cases hq1:q.1=startA n ring
       · have e1:(q.1 != startA n ring)=false:=by rw [hq1]; simp
         obtain ⟨m,m1,m2,m3⟩:=p_MinI q.2 (by omega) (by omega)
         simp only [e1,cond_false,m1,Option.bind_some]
         by_cases hm:m=startA n ring
         · have e2:(m != startA n ring)=false:=by rw [hm]; simp
           simp only [e2,cond_false,p_aroundL1 (q.2,q.1,true) (by simp only; omega),Option.bind_some]
           by_cases hnd:q.2.Nodup
           · rw [if_pos hnd]
             simp only [p_CloneI ring hr,p_ReverseI ring hr,Option.bind_some,bnd]
             have e3:subT ring.reverse 0 ring.length=ring.reverse:=by
              have:=subT_all ring.reverse
              rwa [List.length_reverse] at this
             obtain ⟨c,c1,c2⟩:=p_CompareI ring ring.reverse (by simp) hr
             simp only [e3,c1,c2,Option.bind_some]
             refine ⟨q.2,?_,?_⟩
             · congr 2
               cases hx:lexB ring ring.reverse with
               | true =>
                 have:ringP n ring=some q.2:=by
                  unfold ringP
                  rw [if_pos hlen,hwk]
                  simp only
                  rw [if_pos ⟨hq1,hnd,fun x hx=>by rw [← hm]; exact m3 x hx,hx⟩]
                 rw [this]; rfl
               | false =>
                 have:ringP n ring=none:=ringP_none fun _ _ _ _ _ hx'=>by rw [hx] at hx'; cases hx'
                 rw [this]; rfl
             · intro r hrp
               obtain ⟨h1,h2,_⟩:=ringP_some.1 hrp
               obtain ⟨g1,_⟩:=okS_iff.1 h1
               rw [hwk] at g1
               have:=congrArg Prod.snd (Sum.inl.inj g1)
               rw [← h2]; exact this
           · rw [if_neg hnd]
             have:ringP n ring=none:=ringP_none fun q' hq' _ hnd'=>by rw [hwk] at hq'; cases hq'; exact (hnd hnd').elim
             rw [this]
             exact ⟨[],rfl,fun r h=>by cases h⟩
         · have e2:(m != startA n ring)=true:=bne_iff_ne.2 hm
           have:ringP n ring=none:=ringP_none fun q' hq' _ _ hall=>by
            rw [hwk] at hq'; cases hq'
            have h5:=hall m m2
            have h6:=m3 _ hql.2
            omega
           rw [this]
           simp only [e2,cond_true]
           exact ⟨[],rfl,fun r h=>by cases h⟩
       · have e1:(q.1 != startA n ring)=true:=bne_iff_ne.2 hq1
         have:ringP n ring=none:=ringP_none fun q' hq' hq1'=>by rw [hwk] at hq'; cases hq'; exact (hq1 hq1').elim
         rw [this]
         simp only [e1,cond_true,Option.bind_some]
         exact ⟨[],rfl,fun r h=>by cases h⟩
   · have:ringP n ring=none:=ringP_none fun q hq _ _ _ _ _=>by
      have:=(wkI_two hR.symm hq).1
      rw [hw] at this; cases this
     rw [this]
     simp only [hw,Bool.not_false,cond_true,Option.bind_some]
     exact ⟨[],rfl,fun r h=>by cases h⟩
end Vs

namespace Vs
open Go
theorem p_l17Nodes (n:TNetwork) (ring l:List Int) (hn:netOk n=true) (hr:ring.length≤1048576) (hp:ringP n ring=some l):M_ee n ring=some l:=by
 obtain ⟨b1,b2,b3⟩:=netOk_bR hn
 obtain ⟨h1,h2,_⟩:=ringP_some.1 hp
 unfold M_ee
 rw [iter_findI (f:=M_bh n ring) n.Nodes (fun i _=>okS n ring (i:Int)) (fun i _=>ndS n ring (i:Int)) () (fun i x hx _=>by
  have hlt:=(List.getElem?_eq_some_iff.1 hx).1
  have h1:decide ((i:Int) < n.Nodes.length)=true:=by simp [hlt]
  simp only [M_bh,h1,cond_true,p_l17Walk n ring i (by omega) hr,Option.bind_some]
  rw [w64_eq (by omega) (by omega)]
  cases okS n ring (i:Int) <;> rfl) (by simp [M_bh]) (by omega)]
 cases hf:findI (fun i (_:ByteArray)=>okS n ring (i:Int)) n.Nodes with
 | none=>obtain ⟨q,hq⟩:=start_in hn h1; rw [hf] at hq; cases hq
 | some q =>
   obtain ⟨i,x⟩:=q
   rcases first_start hn hf with ⟨e1,e2⟩ | ⟨e1,e2⟩
   · simp only [Option.bind_some,e1,h2]
   · rw [h1] at e1; cases e1
end Vs

namespace Vs
open Go
def gz (l:List Int) (p:Nat):Int:=(l[p]?).getD 0
theorem gz_at {l:List Int} {p:Nat} (h:p < l.length):l[p]?=some (gz l p):=by
 unfold gz; rw [List.getElem?_eq_getElem h]; rfl
theorem gz_set {l:List Int} {p q:Nat} {x:Int} (h:p < l.length):gz (l.set p x) q=if q=p then x else gz l q:=by
 unfold gz
 rw [List.getElem?_set]
 by_cases e:p=q
 · rw [if_pos e,if_pos h,if_pos e.symm]; rfl
 · rw [if_neg e,if_neg (Ne.symm e)]
theorem p_Less (x y:Int):M_dr x y=some (decide (x < y)):=by
 unfold M_dr M_bs; simp
theorem perm_swap {l:List Int} {i j:Nat} (hi:i < l.length) (hj:j < l.length):((l.set i (gz l j)).set j (gz l i)).Perm l:=by
 by_cases e:i=j
 · subst e
   have:(l.set i (gz l i)).set i (gz l i)=l:=by
    apply List.ext_getElem?
    intro k
    rw [List.getElem?_set,List.getElem?_set]
    by_cases h:i=k
    · subst h; simp [hi]; unfold gz; rw [List.getElem?_eq_getElem hi]; rfl
    · simp [h]
   rw [this]
 · have g1:gz l j=l[j]:=by unfold gz; rw [List.getElem?_eq_getElem hj]; rfl
   have g2:gz l i=l[i]:=by unfold gz; rw [List.getElem?_eq_getElem hi]; rfl
   rw [g1,g2]
   exact List.set_set_perm hi hj
def SrtI (i j:Nat) (l:List Int):Prop:=(∀ p q,p < q→q≤i→p ≠ j→q ≠ j→gz l p≤gz l q)∧∀ q,j < q→q≤i→gz l j≤gz l q
def SrtB (n:Nat) (l:List Int):Prop:=∀ p q,p < q→q < n→gz l p≤gz l q
theorem p_sortL2 (n i:Nat) (l0:List Int) (hl:l0.length=n) (hn:n≤1048576) (hi:i < n) (hs:SrtB i l0) :
 ∃ l,iter (M_n 0) N0 ((i:Int),l0)=some l∧l.Perm l0∧SrtB (i+1) l:=by
 refine iter_inv (f:=M_n 0) (fun s=>∃ j:Nat,s.1=j∧j≤i∧s.2.length=n∧s.2.Perm l0∧SrtI i j s.2) (fun s=>s.1.toNat) (fun l=>l.Perm l0∧SrtB (i+1) l) (fun s hI=>?_) N0 ((i:Int),l0)
  ⟨i,rfl,Nat.le_refl _,hl,List.Perm.refl _,fun p q h1 h2 h3 h4=>hs p q h1 (by omega),fun q h1 h2=>by omega⟩ (N0_lt (by simp; omega))
 obtain ⟨j',l⟩:=s
 obtain ⟨j,rfl,hj,hll,hp,hA,hB⟩:=hI
 simp only at hll hp hA hB
 by_cases h0:0 < j
 · have e1:decide ((0:Int) < (j:Int))=true:=decide_eq_true (by omega)
   have ew:IntKind.wrap .i64 ((j:Int) - 1)=((j - 1:Nat):Int):=by rw [w64_eq (by omega) (by omega)]; omega
   have g1:l[j]?=some (gz l j):=gz_at (by omega)
   have g2:l[j - 1]?=some (gz l (j - 1)):=gz_at (by omega)
   have d1:grd (0≤(j:Int)∧(j:Int) < (l.length:Int))=some ():=grd_t (by omega)
   have d2:grd (0≤((j - 1:Nat):Int)∧((j - 1:Nat):Int) < (l.length:Int))=some ():=grd_t (by omega)
   by_cases hlt:gz l j < gz l (j - 1)
   · left
     have e2:decide (gz l j < gz l (j - 1))=true:=decide_eq_true hlt
     have g3:(l.set j (gz l (j - 1)))[j - 1]?=some (gz l (j - 1)):=by
      rw [List.getElem?_set,if_neg (by omega)]; exact g2
     refine ⟨(((j - 1:Nat):Int),(l.set j (gz l (j - 1))).set (j - 1) (gz l j)),?_,⟨j - 1,rfl,by omega,by simp [hll],?_,?_,?_⟩,?_⟩
     · simp only [M_n,e1,cond_true,Int.toNat_natCast,ew,d1,d2,g1,g2,p_Less,e2,Option.bind_some,bnd,g3]
     · exact (perm_swap (by omega) (by omega)).trans hp
     · intro p q h1 h2 h3 h4
       simp only at *
       rw [gz_set (by simp; omega),gz_set (by omega),gz_set (by simp; omega),gz_set (by omega),if_neg h3,if_neg h4]
       by_cases c1:p=j
       · rw [if_pos c1,if_neg (by omega)]; exact hA (j - 1) q (by omega) h2 (by omega) (by omega)
       · rw [if_neg c1]
         by_cases c2:q=j
         · rw [if_pos c2]; exact hA p (j - 1) (by omega) (by omega) c1 (by omega)
         · rw [if_neg c2]; exact hA p q h1 h2 c1 c2
     · intro q h1 h2
       simp only at *
       rw [gz_set (by simp; omega),if_pos rfl,gz_set (by simp; omega),if_neg (by omega),gz_set (by omega)]
       by_cases c2:q=j
       · rw [if_pos c2]; omega
       · rw [if_neg c2]; exact hB q (by omega) h2
     · simp only [Int.toNat_natCast]; omega
   · right
     have e2:decide (gz l j < gz l (j - 1))=false:=decide_eq_false hlt
     refine ⟨l,?_,hp,?_⟩
     · simp only [M_n,e1,cond_true,Int.toNat_natCast,ew,d1,d2,g1,g2,Option.bind_some,p_Less,e2,cond_false]
     · intro p q h1 h2
       by_cases c1:p=j
       · rw [c1]; exact hB q (by omega) (by omega)
       · by_cases c2:q=j
         · rw [c2]
           by_cases c3:p=j - 1
           · rw [c3]; omega
           · have:=hA p (j - 1) (by omega) (by omega) c1 (by omega); omega
         · exact hA p q h1 (by omega) c1 c2
 · right
   have e1:decide ((0:Int) < (j:Int))=false:=decide_eq_false (by omega)
   refine ⟨l,by simp only [M_n,e1,cond_false,Option.bind_some],hp,fun p q h1 h2=>?_⟩
   by_cases c1:p=j
   · rw [c1]; exact hB q (by omega) (by omega)
   · exact hA p q h1 (by omega) c1 (by omega)
theorem p_sortI (n:Nat) (xs:List Int) (hl:xs.length=n) (hn:n≤1048576):∃ l,M_ds 0 (n:Int) xs=some l∧l.Perm xs∧SrtB n l:=by
 unfold M_ds
 obtain ⟨l,h1,h2,h3⟩:=iter_inv (f:=M_ak 0 (n:Int)) (fun s=>∃ i:Nat,s.1=i∧1≤i∧i≤n+1∧s.2.length=n∧s.2.Perm xs∧SrtB i s.2) (fun s=>n+1 - s.1.toNat) (fun l=>l.Perm xs∧SrtB n l) (fun s hI=>by
  obtain ⟨i',l⟩:=s
  obtain ⟨i,rfl,h0,hi,hll,hp,hs⟩:=hI
  simp only at hll hp hs
  by_cases h:i < n
  · left
    have e1:decide ((i:Int) < (n:Int))=true:=decide_eq_true (by omega)
    obtain ⟨l',g1,g2,g3⟩:=p_sortL2 n i l hll hn h hs
    refine ⟨(((i+1:Nat):Int),l'),?_,⟨i+1,rfl,by omega,by omega,by rw [g2.length_eq]; exact hll,g2.trans hp,g3⟩,by simp only [Int.toNat_natCast]; omega⟩
    simp only [M_ak,e1,cond_true,g1,Option.bind_some]
    rw [w64_eq (by omega) (by omega)]; rfl
  · right
    have e1:decide ((i:Int) < (n:Int))=false:=decide_eq_false (by omega)
    exact ⟨l,by simp only [M_ak,e1,cond_false],hp,fun p q h1 h2=>hs p q h1 (by omega)⟩) N0 (((1:Nat):Int),xs) ⟨1,rfl,by omega,by omega,hl,List.Perm.refl _,fun p q h1 h2=>by omega⟩ (N0_lt (by simp; omega))
 refine ⟨l,?_,h2,h3⟩
 have e:IntKind.wrap .i64 ((0:Int)+1)=((1:Nat):Int):=by rw [w64_eq (by omega) (by omega)]; rfl
 rw [e,h1]; rfl
theorem bitsLen12:∀ n:Fin 13,(M_dq (IntKind.wrap .u64 (n.val:Int))).isSome=true:=by decide +kernel
theorem p_SortI (xs:List Int) (h:xs.length≤12):∃ l,M_dt xs=some l∧l.Perm xs∧l.Pairwise (·≤·):=by
 obtain ⟨l,h1,h2,h3⟩:=p_sortI xs.length xs rfl (by omega)
 refine ⟨l,?_,h2,?_⟩
 · have hb:=bitsLen12 ⟨xs.length,by omega⟩
   simp only at hb
   unfold M_dt
   cases hx:M_dq (IntKind.wrap .u64 (xs.length:Int)) with
   | none=>rw [hx] at hb; cases hb
   | some r =>
     simp only [Option.bind_some]
     unfold M_eo
     have hN:N0=(N0 - 1)+1:=by unfold N0; omega
     rw [hN,iter]
     have e1:decide (IntKind.wrap .i64 ((xs.length:Int) - 0)≤12)=true:=by rw [w64_eq (by omega) (by omega)]; exact decide_eq_true (by omega)
     simp only [M_bo,e1,cond_true,h1,Option.bind_some]
 · rw [List.pairwise_iff_getElem]
   intro i j hi hj hij
   have:=h3 i j hij (by rw [← h2.length_eq]; exact hj)
   unfold gz at this
   rw [List.getElem?_eq_getElem hi,List.getElem?_eq_getElem hj] at this
   exact this
theorem rise_eq:∀ (xs ys:List Int),xs.Pairwise (· < ·)→ys.Pairwise (· < ·)→(∀ x,x∈xs↔x∈ys)→xs=ys
 | [],[],_,_,_=>rfl
 | [],y::ys,_,_,h=>by have:=(h y).2 (by simp); cases this
 | x::xs,[],_,_,h=>by have:=(h x).1 (by simp); cases this
 | x :: xs, y :: ys, hx, hy, h => by
   rw [List.pairwise_cons] at hx hy
   have e:x=y:=by
    have h1:=(h x).1 (by simp)
    have h2:=(h y).2 (by simp)
    rcases List.mem_cons.1 h1 with h1 | h1
    · exact h1
    · rcases List.mem_cons.1 h2 with h2 | h2
      · exact h2.symm
      · have:=hx.1 y h2; have:=hy.1 x h1; omega
   subst e
   congr 1
   refine rise_eq xs ys hx.2 hy.2 fun z=>?_
   have:=h z
   constructor
   · intro hz
     rcases List.mem_cons.1 (this.1 (List.mem_cons_of_mem _ hz)) with e | e
     · subst e; have:=hx.1 z hz; omega
     · exact e
   · intro hz
     rcases List.mem_cons.1 (this.2 (List.mem_cons_of_mem _ hz)) with e | e
     · subst e; have:=hy.1 z hz; omega
     · exact e
theorem sorted_lt {l:List Int} (h:l.Pairwise (·≤·)) (hn:l.Nodup):l.Pairwise (· < ·):=by
 rw [List.pairwise_iff_getElem] at h ⊢
 rw [List.nodup_iff_pairwise_ne,List.pairwise_iff_getElem] at hn
 intro i j hi hj hij
 have a:=h i j hi hj hij
 have b:=hn i j hi hj hij
 omega
end Vs

namespace Vs
open Go
def filI {α:Type} (p:Nat→α→Bool):Nat→List α→List Int
 | _,[]=>[]
 | i,x::xs=>if p i x then (i:Int)::filI p (i+1) xs else filI p (i+1) xs
theorem filI_cons {α:Type} (p:Nat→α→Bool) (i:Nat) (x:α) (xs:List α):filI p i (x::xs)=if p i x then (i:Int)::filI p (i+1) xs else filI p (i+1) xs:=rfl
theorem filI_len {α:Type} (p:Nat→α→Bool):∀ (xs:List α) (i:Nat),(filI p i xs).length≤xs.length
 | [],i=>by simp [filI]
 | x :: xs, i => by
   have:=filI_len p xs (i+1)
   rw [filI_cons]; split <;> simp <;> omega
theorem filI_mem {α:Type} (p:Nat→α→Bool):∀ (xs:List α) (i:Nat) (y:Int),y∈filI p i xs↔∃ j x,xs[j]?=some x∧p (i+j) x=true∧y=((i+j:Nat):Int)
 | [],i,y=>by simp [filI]
 | x :: xs, i, y => by
   have ih:=filI_mem p xs (i+1) y
   rw [filI_cons]
   constructor
   · intro h
     by_cases e:p i x=true
     · rw [if_pos e] at h
       rcases List.mem_cons.1 h with h | h
       · exact ⟨0,x,rfl,by simpa using e,by simpa using h⟩
       · obtain ⟨j,z,h1,h2,h3⟩:=ih.1 h
         exact ⟨j+1,z,by simpa using h1,by rw [show i+(j+1)=i+1+j by omega]; exact h2,by rw [h3]; congr 1; omega⟩
     · rw [if_neg e] at h
       obtain ⟨j,z,h1,h2,h3⟩:=ih.1 h
       exact ⟨j+1,z,by simpa using h1,by rw [show i+(j+1)=i+1+j by omega]; exact h2,by rw [h3]; congr 1; omega⟩
   · rintro ⟨j,z,h1,h2,h3⟩
     cases j with
     | zero =>
       simp at h1; subst h1
       rw [if_pos (by simpa using h2)]
       rw [h3]; simp
     | succ j =>
       have:y∈filI p (i+1) xs:=ih.2 ⟨j,z,by simpa using h1,by rw [show i+1+j=i+(j+1) by omega]; exact h2,by rw [h3]; congr 1; omega⟩
       split
       · exact List.mem_cons_of_mem _ this
       · exact this
theorem filI_lt {α:Type} (p:Nat→α→Bool):∀ (xs:List α) (i:Nat),(filI p i xs).Pairwise (· < ·)
 | [],i=>by simp [filI]
 | x :: xs, i => by
   rw [filI_cons]
   split
   · rw [List.pairwise_cons]
     refine ⟨fun y hy=>?_,filI_lt p xs (i+1)⟩
     obtain ⟨j,_,_,_,rfl⟩:=(filI_mem p xs (i+1) y).1 hy
     omega
   · exact filI_lt p xs (i+1)
theorem walkL_fil {α:Type} (p:Nat→α→Bool):∀ (xs:List α) (i:Nat) (a:List Int),walkL (fun i x (a:List Int)=>(.inl (if p i x then a++[(i:Int)] else a):List Int ⊕ List Int)) (fun a=>a) i xs a=a++filI p i xs
 | [],i,a=>by simp [walkL,filI]
 | x :: xs, i, a => by
   simp only [walkL]
   rw [walkL_fil p xs (i+1),filI_cons]
   split <;> simp
theorem walkL_fil2 {α:Type} (p q:Nat→α→Bool):∀ (xs:List α) (i:Nat) (a:List Int×List Int),walkL (fun i x (a:List Int×List Int)=>(.inl (if p i x then (a.1++[(i:Int)],a.2) else if q i x then (a.1,a.2++[(i:Int)]) else a):(List Int×List Int) ⊕ (List Int×List Int))) (fun a=>a) i xs a =
 (a.1++filI p i xs,a.2++filI (fun i x=>!p i x&&q i x) i xs)
 | [],i,a=>by simp [walkL,filI]
 | x :: xs, i, a => by
   simp only [walkL]
   rw [walkL_fil2 p q xs (i+1),filI_cons,filI_cons]
   by_cases h1:p i x=true
   · simp [h1]
   · by_cases h2:q i x=true <;> simp [h1,h2]
def ownB (ring:List Int) (i:Nat) (_:TFiber):Bool:=decide ((i:Int)∈ring)
def crsB (nd:List Int) (_:Nat) (f:TFiber):Bool:=decide (f.A∈nd)&&decide (f.B∈nd)
def ownP (n:TNetwork) (ring:List Int):List Int:=filI (ownB ring) 0 n.Fibers
def crsP (n:TNetwork) (ring nd:List Int):List Int:=filI (fun i f=>!ownB ring i f&&crsB nd i f) 0 n.Fibers
theorem p_l17Protected (n:TNetwork) (ring l:List Int) (hn:netOk n=true) (hr:ring.length≤1048576) (hl:l.length≤1048576) (hp:ringP n ring=some l):M_ef n ring=some (ownP n ring,crsP n ring l):=by
 obtain ⟨b1,b2,b3⟩:=netOk_bR hn
 unfold M_ef
 rw [p_l17Nodes n ring l hn hr hp]
 simp only [Option.bind_some]
 have:=iter_list (f:=M_h n ring l) n.Fibers (fun i (a:List Int×List Int)=>((i:Int),a.1,a.2)) (fun i f a=>.inl (if ownB ring i f then (a.1++[(i:Int)],a.2) else if crsB l i f then (a.1,a.2++[(i:Int)]) else a)) (fun a=>a) (fun i a=>a.1.length≤i∧a.2.length≤i) (fun i a f hf hI=>by
  have hlt:=(List.getElem?_eq_some_iff.1 hf).1
  have h1:decide ((i:Int) < n.Fibers.length)=true:=by simp [hlt]
  refine .inl ⟨_,rfl,?_,?_⟩
  · split
    · simp only [List.length_append,List.length_cons,List.length_nil]; omega
    · split
      · simp only [List.length_append,List.length_cons,List.length_nil]; omega
      · omega
  · simp only [M_h,h1,cond_true,p_l1Has ring (i:Int) hr,← any_mem,Option.bind_some,geti_nat,hf,p_l1Has l _ hl,bnd]
    rw [w64_eq (by omega) (by omega),grd_t (by omega),grd_t (by omega)]
    unfold ownB crsB
    by_cases e1:(i:Int)∈ring
    · simp [e1]
    · by_cases e2:f.A∈l
      · by_cases e3:f.B∈l <;> simp [e1,e2,e3]
      · simp [e1,e2]) (fun a _=>by simp [M_h]) ([],[]) ⟨Nat.le_refl _,Nat.le_refl _⟩ (by omega)
 rw [walkL_fil2] at this
 have e:((0:Nat):Int)=0:=rfl
 simp only [e,List.nil_append] at this
 rw [this]; rfl
theorem nodup_le:∀ (m:Nat) (l:List Int),l.Nodup→(∀ x∈l,0≤x∧x < (m:Int))→l.length≤m
 | 0, l, _, h => by
   cases l with
   | nil=>simp
   | cons x l=>have:=h x (by simp); omega
 | m + 1, l, hn, h => by
   by_cases hm:(m:Int)∈l
   · have:=nodup_le m (l.erase (m:Int)) (hn.erase _) (fun x hx=>by
      have h1:=(hn.mem_erase_iff).1 hx
      have:=h x h1.2
      have h3:=h1.1
      omega)
     rw [List.length_erase_of_mem hm] at this
     omega
   · have:=nodup_le m l hn (fun x hx=>by
      have:=h x hx
      have:x ≠ (m:Int):=fun e=>hm (e ▸ hx)
      omega)
     omega
theorem wkI_rng {n:TNetwork} (hn:netOk n=true) (ring:List Int):∀ (ys:List Int) (i:Nat) (p q:Int×List Int),(0≤p.1∧p.1 < n.Nodes.length)→(∀ x∈p.2,0≤x∧x < (n.Nodes.length:Int))→wkI n ring i ys p=.inl q→∀ x∈q.2,0≤x∧x < (n.Nodes.length:Int)
 | [],i,p,q,_,hp2,h=>by unfold wkI walkL at h; cases h; exact hp2
 | e :: ys, i, p, q, hp1, hp2, h => by
   rw [wkI_cons] at h
   unfold stI at h
   by_cases h1:badE n ring i e=true
   · rw [if_pos h1] at h; cases h
   · rw [if_neg h1] at h
     by_cases h2:othI n e p.1 < 0
     · rw [if_pos h2] at h; cases h
     · rw [if_neg h2] at h
       refine wkI_rng hn ring ys (i+1) _ q ?_ ?_ h
       · have hw:=(badE_wi (by simpa using h1)).1
         obtain ⟨f,_,g2⟩:=geti_fib hw
         obtain ⟨a0,ab,bm,_⟩:=netOk_fibR hn g2
         simp only
         unfold othI at h2 ⊢
         rw [g2] at h2 ⊢
         simp only at h2 ⊢
         unfold otherP at h2 ⊢
         split
         · omega
         · rename_i c1
           split
           · omega
           · rename_i c2
             rw [if_neg c1,if_neg c2] at h2; omega
       · intro x hx
         simp only [List.mem_append,List.mem_singleton] at hx
         rcases hx with hx | rfl
         · exact hp2 x hx
         · exact hp1
theorem ring_facts {n:TNetwork} (hn:netOk n=true) {ring l:List Int} (hr:ring.length≤1048576) (hp:ringP n ring=some l):ring.Nodup∧ring.length≤8∧2≤ring.length∧l.length≤8∧∀ e∈ring,0≤e∧e < (n.Fibers.length:Int):=by
 obtain ⟨b1,b2,b3⟩:=netOk_bR hn
 obtain ⟨h1,h2,_⟩:=ringP_some.1 hp
 obtain ⟨g1,g2,g3⟩:=okS_iff.1 h1
 obtain ⟨e0,f,k1,k2,k3,k4,_⟩:=start_two hn h1
 obtain ⟨a0,ab,bm,_⟩:=k4
 have hrng:=wkI_rng hn ring ring 0 _ _ (by simp only; rw [k3]; omega) (by simp) g1
 have hle:=nodup_le n.Nodes.length _ g2 hrng
 have hlen:=nd_len (by omega) hr h1
 refine ⟨wkI_nodup g1,by omega,g3,by rw [← h2]; omega,fun e he=>?_⟩
 obtain ⟨j,hj⟩:=List.getElem?_of_mem he
 have:=wkI_ok n ring ring 0 _ _ g1 j e hj
 have:=wi_iff.1 (badE_wi this).1
 omega
theorem p_protected (n:TNetwork) (ring l:List Int) (hn:netOk n=true) (hr:ring.length≤1048576) (hp:ringP n ring=some l):M_du n ring=some (ownP n ring,crsP n ring l):=by
 obtain ⟨b1,b2,b3⟩:=netOk_bR hn
 obtain ⟨r1,r2,r3,r4,r5⟩:=ring_facts hn hr hp
 unfold M_du
 obtain ⟨ys,s1,s2,s3⟩:=p_SortI ring (by omega)
 obtain ⟨l',a1,a2⟩:=p_around n ring (by omega) hr
 have:=a2 l hp
 subst this
 simp only [p_CloneI ring hr,s1,a1,Option.bind_some,bnd]
 have:=iter_list (f:=M_x n ring (l',(ringP n ring).isSome)) n.Fibers (fun i (a:List Int)=>((i:Int),a)) (fun i f a=>.inl (if !ownB ring i f&&crsB l' i f then a++[(i:Int)] else a)) (fun a=>a) (fun i a=>a.length≤i) (fun i a f hf hI=>by
  have hlt:=(List.getElem?_eq_some_iff.1 hf).1
  have h1:decide ((i:Int) < n.Fibers.length)=true:=by simp [hlt]
  refine .inl ⟨_,rfl,?_,?_⟩
  · split
    · simp only [List.length_append,List.length_cons,List.length_nil]; omega
    · omega
  · simp only [M_x,h1,cond_true,geti_nat,hf,Option.bind_some,p_ContI ring (i:Int) hr,p_ContI l' _ (show l'.length≤1048576 by omega),bnd]
    rw [w64_eq (by omega) (by omega),grd_t (by omega)]
    unfold ownB crsB
    by_cases e1:(i:Int)∈ring
    · simp [e1]
    · by_cases e2:f.A∈l'
      · by_cases e3:f.B∈l' <;> simp [e1,e2,e3]
      · simp [e1,e2]) (fun a _=>by simp [M_x]) [] (Nat.le_refl _) (by omega)
 rw [walkL_fil (fun i f=>!ownB ring i f&&crsB l' i f)] at this
 have e:((0:Nat):Int)=0:=rfl
 simp only [e,List.nil_append] at this
 rw [this]
 simp only [Option.bind_some]
 have e1:subT ys 0 ring.length=ys:=by rw [← s2.length_eq]; exact subT_all ys
 have e2:ys=ownP n ring:=by
  refine rise_eq _ _ (sorted_lt s3 (s2.nodup_iff.2 r1)) (filI_lt _ _ _) fun x=>?_
  rw [s2.mem_iff]
  unfold ownP
  rw [filI_mem]
  constructor
  · intro hx
    have:=r5 x hx
    have hlt:x.toNat < n.Fibers.length:=by omega
    refine ⟨x.toNat,n.Fibers[x.toNat],List.getElem?_eq_getElem hlt,?_,by omega⟩
    unfold ownB
    rw [Nat.zero_add,Int.toNat_of_nonneg (by omega)]; simpa using hx
  · rintro ⟨j,f,h1,h2,rfl⟩
    unfold ownB at h2
    simpa using h2
 rw [e1,e2]; rfl
theorem own_len (n:TNetwork) (ring:List Int):(ownP n ring).length≤n.Fibers.length:=filI_len _ _ _
theorem crs_len (n:TNetwork) (ring l:List Int):(crsP n ring l).length≤n.Fibers.length:=filI_len _ _ _
theorem own_rng {n:TNetwork} {ring:List Int} {x:Int} (h:x∈ownP n ring):0≤x∧x < n.Fibers.length:=by
 obtain ⟨j,f,h1,_,rfl⟩:=(filI_mem _ _ _ _).1 h
 have:=(List.getElem?_eq_some_iff.1 h1).1
 omega
theorem crs_rng {n:TNetwork} {ring l:List Int} {x:Int} (h:x∈crsP n ring l):0≤x∧x < n.Fibers.length:=by
 obtain ⟨j,f,h1,_,rfl⟩:=(filI_mem _ _ _ _).1 h
 have:=(List.getElem?_eq_some_iff.1 h1).1
 omega
end Vs

namespace Vs
open Go
theorem ringl_len {n:TNetwork} (hn:netOk n=true) {ring l:List Int} (hr:ring.length≤1048576) (hp:ringP n ring=some l):l.length≤1048576:=by
 have:=(ring_facts hn hr hp).2.2.2.1
 omega
end Vs

namespace Vs
open Go
def stepD (n:TNetwork) (s:Int) (D:Int→List Int→List Int→List (List Int)) (a:Int) (p q:List Int) (i:Nat):List (List Int) :=
 if othI n (i:Int) a < s∨(i:Int)∈p then []
 else if othI n (i:Int) a=s then (if 2≤(p++[(i:Int)]).length∧lexB (p++[(i:Int)]) (p++[(i:Int)]).reverse=true then [p++[(i:Int)]] else [])
 else if othI n (i:Int) a∈q then [] else D (othI n (i:Int) a) (p++[(i:Int)]) (q++[othI n (i:Int) a])
def bodyD (n:TNetwork) (s:Int) (D:Int→List Int→List Int→List (List Int)) (a:Int) (p q:List Int):List (List Int):=(List.range n.Fibers.length).flatMap (stepD n s D a p q)
def dfsD (n:TNetwork) (s:Int):Nat→Int→List Int→List Int→List (List Int)
 | 0=>bodyD n s (fun _ _ _=>[])
 | k+1=>bodyD n s (dfsD n s k)
theorem wkI_app (n:TNetwork) (ring:List Int) (ys:List Int):∀ (xs:List Int) (i:Nat) (p q:Int×List Int),wkI n ring i xs p=.inl q→wkI n ring i (xs++ys) p=wkI n ring (i+xs.length) ys q
 | [], i, p, q, h => by
   unfold wkI walkL at h
   cases h; rfl
 | e :: xs, i, p, q, h => by
   rw [List.cons_append,wkI_cons]
   rw [wkI_cons] at h
   split at h
   · rename_i a he
     rw [wkI_app n ring ys xs (i+1) a q h,List.length_cons,show i+1+xs.length=i+(xs.length+1) by omega]
   · rename_i b he
     subst h
     unfold stI at he
     split at he
     · cases he
     · split at he <;> cases he
structure InvD (n:TNetwork) (s a:Int) (p q:List Int):Prop where
 wk:∃ q0,q=q0++[a]∧∀ suf,wkI n (p++suf) 0 p (s,[])=.inl (a,q0)
 nd:q.Nodup
 ge:∀ x∈q,s≤x
 st:p ≠ []→startA n p=s
 len:p.length+1=q.length
 s0:0≤s
 rg:∀ x∈q,0≤x∧x < n.Nodes.length
theorem wi_nat {n:TNetwork} {i:Nat} (hi:i < n.Fibers.length):wi (i:Int) 0 ((n.Fibers.length:Int) - 1)=true:=by
 unfold wi; simp; omega
theorem stI_ok {n:TNetwork} {p suf:List Int} {i:Nat} {a:Int} {q0:List Int} (hi:i < n.Fibers.length) (hp:(i:Int) ∉ p) (h0:0≤othI n (i:Int) a) :
 stI n (p++suf) p.length (i:Int) (a,q0)=.inl (othI n (i:Int) a,q0++[a]):=by
 have hb:badE n (p++suf) p.length (i:Int)=false:=by
  unfold badE
  rw [wi_nat hi,List.take_left,← any_mem]
  simp [hp]
 unfold stI
 simp only [hb,Bool.false_eq_true,if_false]
 rw [if_neg (by omega)]
theorem InvD.walk {n:TNetwork} {s a:Int} {p q:List Int} (h:InvD n s a p q) {i:Nat} (hi:i < n.Fibers.length) (hp:(i:Int) ∉ p) (h0:0≤othI n (i:Int) a) (suf:List Int) :
 wkI n (p++[(i:Int)]++suf) 0 (p++[(i:Int)]) (s,[])=.inl (othI n (i:Int) a,q):=by
 obtain ⟨q0,hq,hw⟩:=h.wk
 rw [List.append_assoc,wkI_app n _ _ p 0 _ _ (hw _),Nat.zero_add,wkI_cons,stI_ok hi hp h0]
 unfold wkI walkL
 rw [hq]
theorem oth_rng {n:TNetwork} (hn:netOk n=true) {i:Nat} (hi:i < n.Fibers.length) {a:Int} (h0:0≤othI n (i:Int) a) :
 othI n (i:Int) a < n.Nodes.length∧∃ f,n.Fibers[i]?=some f∧f.A < f.B∧(a=f.A∧othI n (i:Int) a=f.B∨a=f.B∧othI n (i:Int) a=f.A):=by
 have hf:n.Fibers[i]?=some n.Fibers[i]:=List.getElem?_eq_getElem hi
 have hk:=netOk_fibR hn hf
 have:=hk.a0; have:=hk.ab; have:=hk.bm
 unfold othI at h0 ⊢
 rw [Int.toNat_natCast,hf] at h0 ⊢
 simp only at h0 ⊢
 unfold otherP at h0 ⊢
 refine ⟨?_,n.Fibers[i],rfl,this |> fun _=>hk.ab,?_⟩
 · split
   · omega
   · split <;> omega
 · by_cases h1:a=n.Fibers[i].A
   · left; rw [if_pos h1]; exact ⟨h1,rfl⟩
   · rw [if_neg h1] at h0 ⊢
     by_cases h2:a=n.Fibers[i].B
     · right; rw [if_pos h2]; exact ⟨h2,rfl⟩
     · rw [if_neg h2] at h0; omega
theorem startA_app {n:TNetwork} {p:List Int} (hp:p ≠ []) (x:List Int):startA n (p++x)=startA n p:=by
 cases p with
 | nil=>exact absurd rfl hp
 | cons y p=>rfl
theorem InvD.ext {n:TNetwork} (hn:netOk n=true) {s a:Int} {p q:List Int} (h:InvD n s a p q) {i:Nat} (hi:i < n.Fibers.length) (hp:(i:Int) ∉ p) (h0:¬ othI n (i:Int) a < s) (h1:othI n (i:Int) a ≠ s)
 (h2:othI n (i:Int) a ∉ q):InvD n s (othI n (i:Int) a) (p++[(i:Int)]) (q++[othI n (i:Int) a]):=by
 have hs:=h.s0
 obtain ⟨r1,f,r2,r3,r4⟩:=oth_rng hn hi (a:=a) (by omega)
 refine ⟨⟨q,rfl,h.walk hi hp (by omega)⟩,?_,?_,fun _=>?_,by simp [h.len],hs,?_⟩
 · rw [List.nodup_append]
   exact ⟨h.nd,by simp,fun x hx y hy e=>by rw [List.mem_singleton] at hy; subst hy; subst e; exact h2 hx⟩
 · intro x hx
   rw [List.mem_append] at hx
   rcases hx with hx | hx
   · exact h.ge x hx
   · rw [List.mem_singleton] at hx; omega
 · cases p with
   | cons y p=>rw [startA_app (by simp)]; exact h.st (by simp)
   | nil =>
     obtain ⟨q0,hq,hw⟩:=h.wk
     have:=hw []
     unfold wkI walkL at this
     have ha:s=a:=by injection this with e; injection e
     unfold startA
     simp only [List.nil_append,List.getElem?_cons_zero,Int.toNat_natCast,r2]
     omega
 · intro x hx
   rw [List.mem_append] at hx
   rcases hx with hx | hx
   · exact h.rg x hx
   · rw [List.mem_singleton] at hx; omega
theorem InvD.close {n:TNetwork} {s a:Int} {p q:List Int} (h:InvD n s a p q) {i:Nat} (hi:i < n.Fibers.length) (hp:(i:Int) ∉ p) (h1:othI n (i:Int) a=s) :
 ringP n (p++[(i:Int)])=if 2≤(p++[(i:Int)]).length∧lexB (p++[(i:Int)]) (p++[(i:Int)]).reverse=true then some q else none:=by
 have hs:=h.s0
 unfold ringP
 by_cases hl:2≤(p++[(i:Int)]).length
 · have hne:p ≠ []:=by
    intro e; rw [e] at hl; simp at hl
   have hw:=h.walk hi hp (by omega) []
   rw [List.append_nil,h1] at hw
   rw [if_pos hl,startA_app hne,h.st hne,hw]
   simp only [true_and,hl]
   by_cases hx:lexB (p++[(i:Int)]) (p++[(i:Int)]).reverse=true
   · rw [if_pos ⟨h.nd,h.ge,hx⟩,if_pos hx]
   · rw [if_neg (fun e=>hx e.2.2),if_neg hx]
 · rw [if_neg hl,if_neg (fun e=>hl e.1)]
theorem InvD.init {n:TNetwork} {v:Nat} (hv:v < n.Nodes.length):InvD n (v:Int) (v:Int) [] [(v:Int)] :=
 ⟨⟨[],rfl,fun _=>rfl⟩,by simp,by simp,fun h=>absurd rfl h,rfl,by omega,by simp; omega⟩
theorem InvD.le {n:TNetwork} {s a:Int} {p q:List Int} (h:InvD n s a p q):q.length≤n.Nodes.length:=nodup_le _ q h.nd h.rg
theorem InvD.nodup {n:TNetwork} {s a:Int} {p q:List Int} (h:InvD n s a p q):p.Nodup:=by
 obtain ⟨q0,hq,hw⟩:=h.wk
 have:=hw []
 rw [List.append_nil] at this
 exact wkI_nodup this
theorem flat_split {α:Type} (f:Nat→List α) {i F:Nat} (h:i≤F):∃ R,(List.range F).flatMap f=(List.range i).flatMap f++R:=by
 obtain ⟨d,rfl⟩:=Nat.exists_eq_add_of_le h
 rw [List.range_add,List.flatMap_append]
 exact ⟨_,rfl⟩
theorem flat_succ {α:Type} (f:Nat→List α) (i:Nat):(List.range (i+1)).flatMap f=(List.range i).flatMap f++f i:=by
 rw [List.range_succ,List.flatMap_append]; simp
theorem flat_len {α:Type} (f:Nat→List α) (c:Nat):∀ (i:Nat),(∀ j,j < i→(f j).length≤c)→((List.range i).flatMap f).length≤i * c
 | 0,_=>by simp
 | i + 1, h => by
   rw [flat_succ,List.length_append,Nat.succ_mul]
   have:=flat_len f c i fun j hj=>h j (by omega)
   have:=h i (by omega)
   omega
theorem stepD_len {n:TNetwork} {s:Int} {D:Int→List Int→List Int→List (List Int)} {c:Nat} (hc:1≤c) (hD:∀ a p q,(D a p q).length≤c) (a:Int) (p q:List Int) (i:Nat):(stepD n s D a p q i).length≤c:=by
 unfold stepD
 split
 · simp
 · split
   · split <;> simp; omega
   · split
     · simp
     · exact hD _ _ _
theorem dfsD_len {n:TNetwork} {s:Int} (hF:n.Fibers.length≤14):∀ (k:Nat) (a:Int) (p q:List Int),(dfsD n s k a p q).length≤14 ^ (k+1)
 | 0, a, p, q => by
   unfold dfsD bodyD
   have:=flat_len (stepD n s (fun _ _ _=>[]) a p q) 1 n.Fibers.length fun j _=>stepD_len (by omega) (fun _ _ _=>by simp) a p q j
   omega
 | k + 1, a, p, q => by
   unfold dfsD bodyD
   have h1:1≤14 ^ (k+1):=Nat.pow_pos (by omega)
   have:=flat_len (stepD n s (dfsD n s k) a p q) (14 ^ (k+1)) n.Fibers.length fun j _=>stepD_len h1 (dfsD_len hF k) a p q j
   have h2:n.Fibers.length * 14 ^ (k+1)≤14 * 14 ^ (k+1):=Nat.mul_le_mul_right _ hF
   rw [Nat.pow_succ 14 (k+1)]
   omega
end Vs

namespace Vs
open Go
def lessB (a b:List Int):Bool:=if a.length=b.length then lexB a b else decide (a.length < b.length)
theorem p_l17LessG (a b:List Int) (hl:a.length≤1048576):M_bw a b=some (lessB a b):=by
 unfold lessB
 by_cases h:a.length=b.length
 · rw [if_pos h]; exact p_l17Less a b h hl
 · rw [if_neg h]
   unfold M_bw
   have e:((a.length:Int) != (b.length:Int))=true:=bne_iff_ne.2 (by omega)
   rw [e,cond_true]
   congr 1
   by_cases h2:a.length < b.length <;> simp [h2] <;> omega
theorem find_shift {α:Type} (p:Nat→α→Bool) (hp:∀ i j y,p i y=p j y):∀ (xs:List α) (k:Nat),((xs.zipIdx (k+1)).find? fun q=>p q.2 q.1)=((xs.zipIdx k).find? fun q=>p q.2 q.1).map fun q=>(q.1,q.2+1)
 | [],k=>rfl
 | x :: xs, k => by
   rw [List.zipIdx_cons,List.zipIdx_cons,List.find?_cons,List.find?_cons]
   simp only [hp (k+1) k x]
   cases p k x with
   | true=>rfl
   | false=>exact find_shift p hp xs (k+1)
theorem findI_cons {α:Type} (p:Nat→α→Bool) (x:α) (xs:List α) (hp:∀ i j y,p i y=p j y) :
 findI p (x::xs)=if p 0 x then some (0,x) else (findI p xs).map fun q=>(q.1+1,q.2):=by
 unfold findI
 rw [List.zipIdx_cons,List.find?_cons]
 by_cases h:p 0 x=true
 · simp [h]
 · simp only [Bool.not_eq_true] at h
   simp only [h,Bool.false_eq_true,if_false]
   rw [find_shift p hp xs 0,Option.map_map,Option.map_map]
   rfl
theorem lexB_cons (x y:Int) (a b:List Int):lexB (x::a) (y::b)=if x=y then lexB a b else decide (x < y):=by
 unfold lexB difB
 rw [List.zip_cons_cons,findI_cons _ _ _ (fun _ _ _=>rfl)]
 by_cases h:x=y
 · simp only [h,bne_self_eq_false,Bool.false_eq_true,if_false,if_true]
   cases findI (fun _ (q:Int×Int)=>q.1 != q.2) (a.zip b) <;> rfl
 · have:(x != y)=true:=bne_iff_ne.2 h
   simp only [this,if_true,if_neg h]
theorem lexB_irr:∀ a:List Int,lexB a a=false
 | []=>rfl
 | x::a=>by rw [lexB_cons,if_pos rfl]; exact lexB_irr a
theorem lexB_trans:∀ a b c:List Int,a.length=b.length→b.length=c.length→lexB a b=true→lexB b c=true→lexB a c=true
 | [],[],[],_,_,h,_=>h
 | x :: a, y :: b, z :: c, h1, h2, h3, h4 => by
   rw [lexB_cons] at h3 h4 ⊢
   by_cases e1:x=y
   · rw [if_pos e1] at h3
     by_cases e2:y=z
     · rw [if_pos e2] at h4
       rw [if_pos (e1.trans e2)]
       exact lexB_trans a b c (by simpa using h1) (by simpa using h2) h3 h4
     · rw [if_neg e2] at h4
       rw [if_neg (by omega)]
       simp only [decide_eq_true_eq] at h4 ⊢; omega
   · rw [if_neg e1] at h3
     simp only [decide_eq_true_eq] at h3
     by_cases e2:y=z
     · rw [if_neg (by omega)]; simp only [decide_eq_true_eq]; omega
     · rw [if_neg e2] at h4
       simp only [decide_eq_true_eq] at h4
       rw [if_neg (by omega)]; simp only [decide_eq_true_eq]; omega
theorem lexB_tot:∀ a b:List Int,a.length=b.length→lexB a b=false→lexB b a=false→a=b
 | [],[],_,_,_=>rfl
 | x :: a, y :: b, h, h1, h2 => by
   rw [lexB_cons] at h1 h2
   by_cases e:x=y
   · rw [if_pos e] at h1
     rw [if_pos e.symm] at h2
     rw [e,lexB_tot a b (by simpa using h) h1 h2]
   · rw [if_neg e] at h1
     rw [if_neg (Ne.symm e)] at h2
     simp only [decide_eq_false_iff_not] at h1 h2; omega
theorem lessB_irr (a:List Int):lessB a a=false:=by
 unfold lessB; rw [if_pos rfl]; exact lexB_irr a
theorem lessB_trans {a b c:List Int} (h1:lessB a b=true) (h2:lessB b c=true):lessB a c=true:=by
 unfold lessB at *
 by_cases e1:a.length=b.length
 · rw [if_pos e1] at h1
   by_cases e2:b.length=c.length
   · rw [if_pos e2] at h2
     rw [if_pos (e1.trans e2)]
     exact lexB_trans a b c e1 e2 h1 h2
   · rw [if_neg e2] at h2
     rw [if_neg (by omega)]; simp only [decide_eq_true_eq] at h2 ⊢; omega
 · rw [if_neg e1] at h1
   simp only [decide_eq_true_eq] at h1
   by_cases e2:b.length=c.length
   · rw [if_neg (by omega)]; simp only [decide_eq_true_eq]; omega
   · rw [if_neg e2] at h2
     simp only [decide_eq_true_eq] at h2
     rw [if_neg (by omega)]; simp only [decide_eq_true_eq]; omega
theorem lessB_tot {a b:List Int} (h1:lessB a b=false) (h2:lessB b a=false):a=b:=by
 unfold lessB at *
 by_cases e:a.length=b.length
 · rw [if_pos e] at h1
   rw [if_pos e.symm] at h2
   exact lexB_tot a b e h1 h2
 · rw [if_neg e] at h1
   rw [if_neg (Ne.symm e)] at h2
   simp only [decide_eq_false_iff_not] at h1 h2; omega
theorem lessB_ntrans {a b c:List Int} (h1:lessB a b=false) (h2:lessB b c=false):lessB a c=false:=by
 cases h:lessB a c with
 | false=>rfl
 | true =>
   -- c≤b≤a < c
   cases h3:lessB b a with
   | true=>rw [lessB_trans h3 h] at h2; cases h2
   | false=>rw [lessB_tot h1 h3] at h; rw [h] at h2; cases h2
def insR (l:List (List Int)) (r:List Int):List (List Int):=l.takeWhile (fun x=>lessB x r)++[r]++l.dropWhile (fun x=>lessB x r)
def putR (l:List (List Int)) (r:List Int):List (List Int):=if l.length≤60 then insR l r else l
def putsR (l:List (List Int)) (rs:List (List Int)):List (List Int):=rs.foldl putR l
theorem insR_perm (l:List (List Int)) (r:List Int):(insR l r).Perm (r::l):=by
 unfold insR
 have h:l.takeWhile (fun x=>lessB x r)++l.dropWhile (fun x=>lessB x r)=l:=List.takeWhile_append_dropWhile
 rw [List.append_assoc]
 refine List.perm_middle.trans ?_
 show (r::(l.takeWhile (fun x=>lessB x r)++l.dropWhile (fun x=>lessB x r))).Perm (r::l)
 rw [h]
theorem insR_len (l:List (List Int)) (r:List Int):(insR l r).length=l.length+1:=(insR_perm l r).length_eq
theorem insR_srt {l:List (List Int)} {r:List Int} (h:l.Pairwise fun a b=>lessB b a=false):(insR l r).Pairwise fun a b=>lessB b a=false:=by
 induction l with
 | nil=>simp [insR]
 | cons x l ih =>
   rw [List.pairwise_cons] at h
   unfold insR
   by_cases hx:lessB x r=true
   · simp only [List.takeWhile_cons,List.dropWhile_cons,hx,if_true]
     show (x::insR l r).Pairwise _
     rw [List.pairwise_cons]
     refine ⟨fun y hy=>?_,ih h.2⟩
     have:=(insR_perm l r).mem_iff.1 hy
     rw [List.mem_cons] at this
     rcases this with e | e
     · rw [e]
       cases h':lessB r x with
       | false=>rfl
       | true=>rw [← lessB_trans hx h',lessB_irr]
     · exact h.1 y e
   · simp only [Bool.not_eq_true] at hx
     simp only [List.takeWhile_cons,List.dropWhile_cons,hx,Bool.false_eq_true,if_false]
     show (r::x::l).Pairwise _
     rw [List.pairwise_cons,List.pairwise_cons]
     refine ⟨fun y hy=>?_,h⟩
     rw [List.mem_cons] at hy
     rcases hy with e | e
     · rw [e]; exact hx
     · exact lessB_ntrans (h.1 y e) hx
theorem putR_len (l:List (List Int)) (r:List Int) (h:l.length≤61):(putR l r).length≤61:=by
 unfold putR
 split
 · rw [insR_len]; omega
 · exact h
theorem putsR_len:∀ (rs:List (List Int)) (l:List (List Int)),l.length≤61→(putsR l rs).length≤61
 | [],l,h=>h
 | r::rs,l,h=>putsR_len rs _ (putR_len l r h)
theorem putsR_full:∀ (rs:List (List Int)) (l:List (List Int)),60 < l.length→putsR l rs=l
 | [],l,h=>rfl
 | r :: rs, l, h => by
   show putsR (putR l r) rs=l
   have:putR l r=l:=by unfold putR; rw [if_neg (by omega)]
   rw [this]; exact putsR_full rs l h
theorem putsR_app (l xs ys:List (List Int)):putsR l (xs++ys)=putsR (putsR l xs) ys:=List.foldl_append
theorem putsR_spec:∀ (rs:List (List Int)) (l:List (List Int)),l.Pairwise (fun a b=>lessB b a=false)→l.length≤61→(putsR l rs).Pairwise (fun a b=>lessB b a=false) ∧
 (if l.length+rs.length≤61 then (putsR l rs).Perm (l++rs) else (putsR l rs).length=61)
 | [], l, h, hl => by
   refine ⟨h,?_⟩
   rw [if_pos (by simpa using hl),List.append_nil]; exact List.Perm.refl _
 | r :: rs, l, h, hl => by
   show (putsR (putR l r) rs).Pairwise _∧_
   by_cases h6:l.length≤60
   · have e:putR l r=insR l r:=by unfold putR; rw [if_pos h6]
     obtain ⟨h1,h2⟩:=putsR_spec rs (insR l r) (insR_srt h) (by rw [insR_len]; omega)
     rw [insR_len] at h2
     show (putsR (putR l r) rs).Pairwise _∧(if l.length+(rs.length+1)≤61 then (putsR (putR l r) rs).Perm _ else (putsR (putR l r) rs).length=61)
     rw [e]
     refine ⟨h1,?_⟩
     by_cases hc:l.length+(rs.length+1)≤61
     · rw [if_pos hc]
       rw [if_pos (by omega)] at h2
       refine h2.trans ?_
       exact ((insR_perm l r).append_right rs).trans List.perm_middle.symm
     · rw [if_neg hc]
       rw [if_neg (by omega)] at h2
       exact h2
   · have e:putR l r=l:=by unfold putR; rw [if_neg h6]
     show _∧(if l.length+(rs.length+1)≤61 then (putsR (putR l r) rs).Perm _ else (putsR (putR l r) rs).length=61)
     rw [e,putsR_full rs l (by omega)]
     exact ⟨h,by rw [if_neg (by omega)]; omega⟩
theorem srt_eq:∀ (xs ys:List (List Int)),xs.Perm ys→xs.Pairwise (fun a b=>lessB b a=false)→ys.Pairwise (fun a b=>lessB b a=false)→xs=ys
 | [],ys,h,_,_=>(List.nil_perm.1 h).symm
 | x::xs,[],h,_,_=>by have:=h.length_eq; simp at this
 | x :: xs, y :: ys, h, h1, h2 => by
   rw [List.pairwise_cons] at h1 h2
   have e:x=y:=by
    have m1:x∈y::ys:=h.mem_iff.1 List.mem_cons_self
    have m2:y∈x::xs:=h.mem_iff.2 List.mem_cons_self
    rw [List.mem_cons] at m1 m2
    rcases m1 with e | m1
    · exact e
    · rcases m2 with e | m2
      · exact e.symm
      · exact lessB_tot (h2.1 x m1) (h1.1 y m2)
   subst e
   rw [srt_eq xs ys (List.Perm.cons_inv h) h1.2 h2.2]
end Vs

namespace Vs
open Go
theorem subT_takeG {α:Type} (xs:List α) (k:Nat) (h:k≤xs.length):subT xs 0 k=xs.take k:=by
 unfold subT
 split
 · rename_i e; rw [e.2,List.take_length]
 · rw [List.drop_zero]
theorem subT_dropG {α:Type} (xs:List α) (k:Nat) (h:k≤xs.length):subT xs k (xs.length - k)=xs.drop k:=by
 unfold subT
 split
 · rename_i e; rw [e.1,List.drop_zero]
 · rw [List.take_of_length_le (by simp)]
theorem take_while {α:Type} (p:α→Bool):∀ (l:List α),l.take (l.takeWhile p).length=l.takeWhile p∧l.drop (l.takeWhile p).length=l.dropWhile p
 | []=>⟨rfl,rfl⟩
 | x :: l => by
   obtain ⟨h1,h2⟩:=take_while p l
   simp only [List.takeWhile_cons,List.dropWhile_cons]
   by_cases h:p x=true
   · simp [h,h1,h2]
   · simp only [Bool.not_eq_true] at h
     simp [h]
theorem tw_le {α:Type} (p:α→Bool) (l:List α):(l.takeWhile p).length≤l.length:=by
 rw [← (take_while p l).1,List.length_take]; omega
theorem tw_at {α:Type} (p:α→Bool):∀ (l:List α) (i:Nat),(∀ j y,j < i→l[j]?=some y→p y=true)→i≤l.length→(i=l.length∨∃ y,l[i]?=some y∧p y=false)→(l.takeWhile p).length=i
 | [],i,_,h,_=>by simp at h ⊢; omega
 | x :: l, 0, h1, h2, h3 => by
   rcases h3 with h3 | ⟨y,h3,h4⟩
   · simp at h3
   · simp at h3; subst h3; simp [List.takeWhile_cons,h4]
 | x :: l, i + 1, h1, h2, h3 => by
   have hx:=h1 0 x (by omega) rfl
   rw [List.takeWhile_cons,hx]
   simp only [if_true,List.length_cons]
   rw [tw_at p l i (fun j y hj hy=>h1 (j+1) y (by omega) (by simpa using hy)) (by simpa using h2) (by
    rcases h3 with h3 | ⟨y,h3,h4⟩
    · left; simpa using h3
    · right; exact ⟨y,by simpa using h3,h4⟩)]
theorem p_l17Put (l:List (List Int)) (r:List Int) (h:∀ x∈l,x.length≤1048576) (hl:l.length≤1000):M_dz l r=some (insR l r,l):=by
 unfold M_dz
 obtain ⟨b,hb,hq⟩:=iter_inv (f:=M_am l r) (fun s=>∃ i:Nat,s=(i:Int)∧i≤l.length∧∀ j y,j < i→l[j]?=some y→lessB y r=true) (fun s=>l.length - s.toNat) (fun b=>b=(((l.takeWhile fun x=>lessB x r).length:Nat):Int))
  (fun s ⟨i,e,h1,h2⟩=>by
   subst e
   unfold M_am
   by_cases hi:i < l.length
   · have e1:decide ((i:Int) < (l.length:Int))=true:=by simp [hi]
     have e2:l[i]?=some l[i]:=List.getElem?_eq_getElem hi
     rw [e1,cond_true,grd_t (by omega),Option.bind_some,Int.toNat_natCast,e2,Option.bind_some,p_l17LessG _ _ (h _ (List.getElem_mem hi)),Option.bind_some]
     cases hc:lessB l[i] r with
     | true =>
       left
       refine ⟨((i+1:Nat):Int),by rw [cond_true,w64_eq (by omega) (by omega)]; rfl,⟨i+1,rfl,by omega,fun j y hj hy=>?_⟩,by simp; omega⟩
       by_cases hji:j=i
       · subst hji; rw [e2] at hy; cases hy; exact hc
       · exact h2 j y (by omega) hy
     | false =>
       right
       exact ⟨_,rfl,by rw [tw_at _ l i h2 (by omega) (.inr ⟨_,e2,hc⟩)]⟩
   · have e1:decide ((i:Int) < (l.length:Int))=false:=by simp; omega
     right
     rw [e1]
     exact ⟨_,rfl,by rw [tw_at _ l i h2 h1 (.inl (by omega))]⟩) N0 0 ⟨0,rfl,by omega,fun j y hj=>by omega⟩ (N0_lt (by simp; omega))
 subst hq
 have hk:=tw_le (fun x=>lessB x r) l
 rw [hb,Option.bind_some,Int.toNat_natCast]
 rw [grd_t ⟨trivial,by omega,trivial,hk⟩,Option.bind_some]
 simp only [bnd]
 rw [subT_takeG _ _ hk,subT_dropG _ _ hk,(take_while _ l).1,(take_while _ l).2]
 rw [grd_t (by omega),Option.bind_some]
 rw [grd_t (by omega),Option.bind_some]
 rw [grd_t ⟨by omega,trivial,hk,trivial⟩,Option.bind_some]
 have hd:(l.dropWhile fun x=>lessB x r).length≤l.length:=by
  rw [← (take_while _ l).2,List.length_drop]; omega
 rw [grd_t (by simp; omega),Option.bind_some]
 rfl
theorem p_l1Own (l:List Int) (hl:l.length≤1048576):M_ck l=some l:=by
 unfold M_ck
 rw [grd_t (by omega),Option.bind_some]
def RcS (n:TNetwork) (s:Int) (D:Int→List Int→List Int→List (List Int)) (L:Nat) (rc:Int→Int→List ByteArray→List TFiber→List (List Int)→List Int→List Int→Option (List ByteArray×List TFiber×List (List Int)×List Int×List Int)):Prop :=
 ∀ a p q l,InvD n s a p q→q.length=L+1→l.length≤61→(∀ x∈l,x.length≤14)→rc s a n.Nodes n.Fibers l p q=some (n.Nodes,n.Fibers,putsR l (D a p q),p,q)
theorem ring_len {n:TNetwork} (hn:netOk n=true) {s a:Int} {p q:List Int} (h:InvD n s a p q):p.length+1≤8:=by
 have h1:=h.le
 have h2:=h.len
 have:=netOk_bR hn
 omega
theorem putsR_mem:∀ (rs l:List (List Int)) (x:List Int),x∈putsR l rs→x∈l∨x∈rs
 | [],l,x,h=>.inl h
 | r :: rs, l, x, h => by
   rcases putsR_mem rs (putR l r) x h with h | h
   · unfold putR at h
     split at h
     · rcases List.mem_cons.1 ((insR_perm l r).mem_iff.1 h) with h | h
       · right; rw [h]; exact List.mem_cons_self
       · exact .inl h
     · exact .inl h
   · exact .inr (List.mem_cons_of_mem _ h)
def OkD (n:TNetwork) (r:List Int):Prop:=(ringP n r).isSome=true∧r.length≤8
theorem bodyD_ok {n:TNetwork} (hn:netOk n=true) {s:Int} {D:Int→List Int→List Int→List (List Int)} {L:Nat} (hD:∀ a p q,InvD n s a p q→q.length=L+1→∀ r∈D a p q,OkD n r)
 {a:Int} {p q:List Int} (h:InvD n s a p q) (hq:q.length=L):∀ r∈bodyD n s D a p q,OkD n r:=by
 intro r hr
 unfold bodyD at hr
 rw [List.mem_flatMap] at hr
 obtain ⟨i,hi,hr⟩:=hr
 rw [List.mem_range] at hi
 unfold stepD at hr
 split at hr
 · cases hr
 · rename_i h1
   rw [not_or] at h1
   split at hr
   · rename_i h2
     split at hr
     · rename_i h3
       rw [List.mem_singleton] at hr
       subst hr
       refine ⟨by rw [h.close hi h1.2 h2,if_pos h3]; rfl,?_⟩
       have:=ring_len hn h
       simp; omega
     · cases hr
   · rename_i h2
     split at hr
     · cases hr
     · rename_i h3
       exact hD _ _ _ (h.ext hn hi h1.2 h1.1 h2 h3) (by simp [hq]) r hr
theorem dfsD_ok {n:TNetwork} (hn:netOk n=true) {s:Int}:∀ (k:Nat) {a:Int} {p q:List Int},InvD n s a p q→q.length+k=n.Nodes.length→∀ r∈dfsD n s k a p q,OkD n r
 | 0,a,p,q,h,hk=>bodyD_ok hn (L:=q.length) (fun _ _ _ _ _ _ hr=>by cases hr) h rfl
 | k+1,a,p,q,h,hk=>bodyD_ok hn (L:=q.length) (fun a' p' q' h' hq'=>dfsD_ok hn k h' (by omega)) h rfl
theorem spec_body {n:TNetwork} (hn:netOk n=true) {s:Int} {D:Int→List Int→List Int→List (List Int)} {L:Nat}
 {rc:Int→Int→List ByteArray→List TFiber→List (List Int)→List Int→List Int→Option (List ByteArray×List TFiber×List (List Int)×List Int×List Int)}
 (hrc:RcS n s D L rc) (hD:∀ a p q,InvD n s a p q→q.length=L+1→∀ r∈D a p q,OkD n r) {a:Int} {p q:List Int} (h:InvD n s a p q) (hq:q.length=L) (l0:List (List Int)) (hl0:l0.length≤61) (hx0:∀ x∈l0,x.length≤14) :
 M_ea rc s a n.Nodes n.Fibers l0 p q=some (n.Nodes,n.Fibers,putsR l0 (bodyD n s D a p q),p,q):=by
 unfold M_ea
 have hF:=(netOk_bR hn).2.2
 have hpl:=ring_len hn h
 have hql:=h.len
 obtain ⟨b,hb,hQ⟩:=iter_inv (f:=M_e s a p q rc) (fun t=>∃ i:Nat,t=((i:Int),n.Nodes,n.Fibers,putsR l0 ((List.range i).flatMap (stepD n s D a p q)))∧i≤n.Fibers.length) (fun t=>n.Fibers.length - t.1.toNat)
  (fun b=>b=(n.Nodes,n.Fibers,putsR l0 (bodyD n s D a p q)))
  (fun t ⟨i,e,hi⟩=>by
   subst e
   obtain ⟨l,hl⟩:∃ l,l=putsR l0 ((List.range i).flatMap (stepD n s D a p q)):=⟨_,rfl⟩
   have hll:l.length≤61:=by rw [hl]; exact putsR_len _ _ hl0
   have hlx:∀ x∈l,x.length≤14:=by
    intro x hx
    rw [hl] at hx
    rcases putsR_mem _ _ _ hx with hx | hx
    · exact hx0 x hx
    · obtain ⟨R,hR⟩:=flat_split (stepD n s D a p q) hi
      have:=(bodyD_ok hn hD h hq x (by unfold bodyD; rw [hR]; exact List.mem_append_left _ hx)).2
      omega
   have hnext:putsR l (stepD n s D a p q i)=putsR l0 ((List.range (i+1)).flatMap (stepD n s D a p q)):=by rw [flat_succ,putsR_app,hl]
   rw [← hl]
   unfold M_e
   by_cases hi2:i < n.Fibers.length
   · have e1:decide ((i:Int) < (n.Fibers.length:Int))=true:=by simp [hi2]
     simp only [e1,cond_true,Option.bind_some]
     by_cases h6:l.length≤60
     · have e2:decide ((l.length:Int)≤60)=true:=by simp; omega
       simp only [e2,cond_true]
       have e3:M_cd (⟨n.Nodes,n.Fibers⟩:TNetwork) (i:Int) a=some (othI n (i:Int) a):=p_l2Other n (i:Int) a (wi_nat hi2)
       have e4:M_be p (i:Int)=some (decide ((i:Int)∈p)):=by rw [p_l1Has _ _ (by omega),any_mem]
       have e5:M_be q (othI n (i:Int) a)=some (decide (othI n (i:Int) a∈q)):=by rw [p_l1Has _ _ (by omega),any_mem]
       have w1:IntKind.wrap .i64 ((i:Int)+1)=((i+1:Nat):Int):=by rw [w64_eq (by omega) (by omega)]; rfl
       have fin:∀ l',l'=putsR l (stepD n s D a p q i)→(∃ i':Nat,(((i+1:Nat):Int),n.Nodes,n.Fibers,l')=((i':Int),n.Nodes,n.Fibers,putsR l0 ((List.range i').flatMap (stepD n s D a p q)))∧i'≤n.Fibers.length) :=
        fun l' e=>⟨i+1,by rw [e,hnext],by omega⟩
       have fin2:∀ l',l'=putsR l (stepD n s D a p q i)→(n.Fibers.length - ((((i+1:Nat):Int),n.Nodes,n.Fibers,l'):Int×List ByteArray×List TFiber×List (List Int)).1.toNat < n.Fibers.length - (((i:Int),n.Nodes,n.Fibers,l):Int×List ByteArray×List TFiber×List (List Int)).1.toNat):=fun l' _=>by simp only [Int.toNat_natCast]; omega
       left
       simp only [e3,Option.bind_some,e4,w1]
       by_cases c1:othI n (i:Int) a < s
       · simp only [c1,decide_true,cond_true,Option.bind_some]
         have:l=putsR l (stepD n s D a p q i):=by unfold stepD; rw [if_pos (.inl c1)]; rfl
         exact ⟨_,rfl,fin l this,fin2 l this⟩
       · simp only [c1,decide_false,cond_false,Option.bind_some]
         by_cases c2:(i:Int)∈p
         · simp only [c2,decide_true,cond_true]
           have:l=putsR l (stepD n s D a p q i):=by unfold stepD; rw [if_pos (.inr c2)]; rfl
           exact ⟨_,rfl,fin l this,fin2 l this⟩
         · simp only [c2,decide_false,cond_false,p_l1Own p (by omega),Option.bind_some,bnd]
           rw [grd_t (by omega),Option.bind_some]
           have hne:¬ (othI n (i:Int) a < s∨(i:Int)∈p):=fun e=>e.elim c1 c2
           by_cases c3:othI n (i:Int) a=s
           · have e6:(othI n (i:Int) a==s)=true:=by rw [c3]; simp
             simp only [e6,cond_true]
             by_cases c4:2≤(p++[(i:Int)]).length
             · have e7:decide (1 < ((p++[(i:Int)]).length:Int))=true:=by rw [decide_eq_true_eq]; omega
               have hnd:(p++[(i:Int)]).Nodup:=by
                rw [List.nodup_append]
                exact ⟨h.nodup,by simp,fun x hx y hy e=>by rw [List.mem_singleton] at hy; subst hy; subst e; exact c2 hx⟩
               have e8:M_bw (p++[(i:Int)]).reverse (p++[(i:Int)])=some (!lexB (p++[(i:Int)]) (p++[(i:Int)]).reverse):=by
                rw [p_l17Less _ _ (by simp) (by simp; omega),← lexB_swap]
                rw [difB_swap]
                have:=dif_rev hnd c4
                cases hd:difB (p++[(i:Int)]) (p++[(i:Int)]).reverse with
                | none=>rw [hd] at this; cases this
                | some q=>rfl
               simp only [e7,cond_true,p_l17Back (p++[(i:Int)]) (by simp; omega),Option.bind_some,e8,Bool.not_not]
               by_cases c5:lexB (p++[(i:Int)]) (p++[(i:Int)]).reverse=true
               · simp only [c5,cond_true]
                 rw [p_l17Put l _ (fun x hx=>by have:=hlx x hx; omega) (by omega)]
                 simp only [Option.bind_some]
                 have:insR l (p++[(i:Int)])=putsR l (stepD n s D a p q i):=by
                  unfold stepD; rw [if_neg hne,if_pos c3,if_pos ⟨c4,c5⟩]
                  show _=putR l _
                  unfold putR; rw [if_pos h6]
                 exact ⟨_,rfl,fin _ this,fin2 _ this⟩
               · simp only [Bool.not_eq_true] at c5
                 simp only [c5,cond_false,Option.bind_some]
                 have:l=putsR l (stepD n s D a p q i):=by
                  unfold stepD; rw [if_neg hne,if_pos c3,if_neg (fun e=>by rw [c5] at e; exact Bool.noConfusion e.2)]; rfl
                 exact ⟨_,rfl,fin _ this,fin2 _ this⟩
             · have e7:decide (1 < ((p++[(i:Int)]).length:Int))=false:=by rw [decide_eq_false_iff_not]; omega
               simp only [e7,cond_false,Option.bind_some]
               have:l=putsR l (stepD n s D a p q i):=by
                unfold stepD; rw [if_neg hne,if_pos c3,if_neg (fun e=>c4 e.1)]; rfl
               exact ⟨_,rfl,fin _ this,fin2 _ this⟩
           · have e6:(othI n (i:Int) a==s)=false:=by simp [c3]
             simp only [e6,cond_false,e5,Option.bind_some]
             by_cases c4:othI n (i:Int) a∈q
             · simp only [c4,decide_true,Bool.not_true,cond_false]
               have:l=putsR l (stepD n s D a p q i):=by
                unfold stepD; rw [if_neg hne,if_neg c3,if_pos c4]; rfl
               exact ⟨_,rfl,fin _ this,fin2 _ this⟩
             · simp only [c4,decide_false,Bool.not_false,cond_true,p_l1Own q (by omega),Option.bind_some]
               rw [grd_t (by omega),Option.bind_some]
               rw [hrc _ _ _ l (h.ext hn hi2 c2 c1 c3 c4) (by simp [hq]) hll hlx,Option.bind_some]
               have:putsR l (D (othI n (i:Int) a) (p++[(i:Int)]) (q++[othI n (i:Int) a]))=putsR l (stepD n s D a p q i):=by
                unfold stepD; rw [if_neg hne,if_neg c3,if_neg c4]
               exact ⟨_,rfl,fin _ this,fin2 _ this⟩
     · have e2:decide ((l.length:Int)≤60)=false:=by simp; omega
       right
       simp only [e2,cond_false]
       refine ⟨_,rfl,?_⟩
       obtain ⟨R,hR⟩:=flat_split (stepD n s D a p q) hi
       have:putsR l0 (bodyD n s D a p q)=l:=by
        unfold bodyD; rw [hR,putsR_app,← hl,putsR_full _ _ (by omega)]
       rw [this]
   · have e1:decide ((i:Int) < (n.Fibers.length:Int))=false:=by simp; omega
     right
     simp only [e1,cond_false,Option.bind_some]
     refine ⟨_,rfl,?_⟩
     have:i=n.Fibers.length:=by omega
     rw [hl,this]; rfl) N0 (0,n.Nodes,n.Fibers,l0) ⟨0,rfl,by omega⟩ (N0_lt (by simp; omega))
 rw [hb,hQ]; rfl
theorem p_extend {n:TNetwork} (hn:netOk n=true) {s:Int}:∀ (k m:Nat),k < m→∀ {a:Int} {p q:List Int} (l:List (List Int)),InvD n s a p q→q.length+k=n.Nodes.length→l.length≤61→(∀ x∈l,x.length≤14) →
 M_ce m s a n.Nodes n.Fibers l p q=some (n.Nodes,n.Fibers,putsR l (dfsD n s k a p q),p,q)
 | 0, m + 1, _, a, p, q, l, h, hk, hl, hx => by
   show M_ea _ s a n.Nodes n.Fibers l p q=_
   exact spec_body hn (D:=fun _ _ _=>[]) (L:=q.length) (fun a' p' q' l' h' hq' _ _=>by have:=h'.le; omega) (fun _ _ _ _ _ _ hr=>by cases hr) h rfl l hl hx
 | k + 1, m + 1, hm, a, p, q, l, h, hk, hl, hx => by
   show M_ea _ s a n.Nodes n.Fibers l p q=_
   exact spec_body hn (D:=dfsD n s k) (L:=q.length) (fun a' p' q' l' h' hq' hl' hx'=>p_extend hn k m (by omega) l' h' (by omega) hl' hx') (fun a' p' q' h' hq'=>dfsD_ok hn k h' (by omega)) h rfl l hl hx
def ringsD (n:TNetwork):List (List Int):=(List.range n.Nodes.length).flatMap fun v:Nat=>dfsD n (v:Int) (n.Nodes.length - 1) (v:Int) [] [(v:Int)]
theorem ringsD_ok {n:TNetwork} (hn:netOk n=true):∀ r∈ringsD n,OkD n r:=by
 intro r hr
 unfold ringsD at hr
 rw [List.mem_flatMap] at hr
 obtain ⟨v,hv,hr⟩:=hr
 rw [List.mem_range] at hv
 exact dfsD_ok hn _ (InvD.init hv) (by simp; omega) r hr
theorem p_l17All (n:TNetwork) (hn:netOk n=true):M_eb n=some (putsR [] (ringsD n)):=by
 unfold M_eb
 have hN:=netOk_bR hn
 obtain ⟨b,hb,hQ⟩:=iter_inv (f:=M_bl n) (fun t=>∃ i:Nat,t=((i:Int),n.Nodes,n.Fibers,putsR [] ((List.range i).flatMap fun v:Nat=>dfsD n (v:Int) (n.Nodes.length - 1) (v:Int) [] [(v:Int)]))∧i≤n.Nodes.length) (fun t=>n.Nodes.length - t.1.toNat)
  (fun b=>b=(n.Nodes,n.Fibers,putsR [] (ringsD n)))
  (fun t ⟨i,e,hi⟩=>by
   subst e
   obtain ⟨l,hl⟩:∃ l,l=putsR [] ((List.range i).flatMap fun v:Nat=>dfsD n (v:Int) (n.Nodes.length - 1) (v:Int) [] [(v:Int)]):=⟨_,rfl⟩
   have hll:l.length≤61:=by rw [hl]; exact putsR_len _ _ (by simp)
   have hlx:∀ x∈l,x.length≤14:=by
    intro x hx
    rw [hl] at hx
    rcases putsR_mem _ _ _ hx with hx | hx
    · cases hx
    · obtain ⟨R,hR⟩:=flat_split (fun v:Nat=>dfsD n (v:Int) (n.Nodes.length - 1) (v:Int) [] [(v:Int)]) hi
      have:=(ringsD_ok hn x (by unfold ringsD; rw [hR]; exact List.mem_append_left _ hx)).2
      omega
   rw [← hl]
   unfold M_bl
   by_cases hi2:i < n.Nodes.length
   · have e1:decide ((i:Int) < (n.Nodes.length:Int))=true:=by simp [hi2]
     left
     simp only [e1,cond_true,bnd]
     rw [p_extend hn (n.Nodes.length - 1) N0 (N0_lt (by omega)) l (InvD.init hi2) (by simp; omega) hll hlx,Option.bind_some]
     refine ⟨_,rfl,⟨i+1,?_,by omega⟩,?_⟩
     · rw [w64_eq (by omega) (by omega),flat_succ,putsR_app,hl]; rfl
     · simp only [Int.toNat_natCast]
       rw [w64_eq (by omega) (by omega)]; omega
   · have e1:decide ((i:Int) < (n.Nodes.length:Int))=false:=by simp; omega
     right
     simp only [e1,cond_false]
     refine ⟨_,rfl,?_⟩
     have:i=n.Nodes.length:=by omega
     rw [hl,this]; rfl) N0 (0,n.Nodes,n.Fibers,[]) ⟨0,rfl,by omega⟩ (N0_lt (by simp; omega))
 rw [hb,hQ]; rfl
end Vs

namespace Vs
open Go
theorem bits64T:IntKind.bits .i64=64:=rfl
theorem ofNat64T (a:Nat):BitVec.ofInt 64 (a:Int)=BitVec.ofNat 64 a:=by
 apply BitVec.eq_of_toNat_eq
 simp [BitVec.toNat_ofInt]
theorem borT (a b:Nat) (ha:a < 2 ^ 62) (hb:b < 2 ^ 62):bits .or .i64 (a:Int) (b:Int)=((a ||| b:Nat):Int):=by
 have hab:a ||| b < 2 ^ 62:=Nat.or_lt_two_pow ha hb
 show IntKind.wrap .i64 ((BitVec.ofInt 64 (a:Int) ||| BitVec.ofInt 64 (b:Int)).toNat:Int)=_
 rw [ofNat64T,ofNat64T,BitVec.toNat_or,BitVec.toNat_ofNat,BitVec.toNat_ofNat,Nat.mod_eq_of_lt (by omega),Nat.mod_eq_of_lt (by omega),w64_eq (by omega) (by omega)]
theorem tbitV (m i:Nat) (hi:i < 64) (hm:m < 2 ^ 62):bits .and .i64 (Int.fdiv (m:Int) (2 ^ (min i (IntKind.bits .i64)))) 1=if m.testBit i then 1 else 0:=by
 have e1:min i (IntKind.bits .i64)=i:=by rw [bits64T]; omega
 have e2:Int.fdiv (m:Int) (2 ^ i)=((m / 2 ^ i:Nat):Int):=by
  rw [Int.fdiv_eq_ediv_of_nonneg _ (by exact_mod_cast Nat.zero_le (2 ^ i))]
  simp
 have hlt:m / 2 ^ i < 2 ^ 62:=Nat.lt_of_le_of_lt (Nat.div_le_self ..) hm
 rw [e1,e2]
 have e3:bits .and .i64 ((m / 2 ^ i:Nat):Int) 1=((m / 2 ^ i % 2:Nat):Int):=by
  show IntKind.wrap .i64 ((BitVec.ofInt 64 ((m / 2 ^ i:Nat):Int) &&& BitVec.ofInt 64 ((1:Nat):Int)).toNat:Int)=_
  rw [ofNat64T,ofNat64T,BitVec.toNat_and,BitVec.toNat_ofNat,BitVec.toNat_ofNat,Nat.mod_eq_of_lt (by omega),Nat.mod_eq_of_lt (by omega),Nat.and_one_is_mod,w64_eq (by omega) (by omega)]
 rw [e3,Nat.testBit_eq_decide_div_mod_eq]
 have:=Nat.mod_two_eq_zero_or_one (m / 2 ^ i)
 rcases this with h | h <;> rw [h] <;> simp
theorem tbit0 (m i:Nat) (hi:i < 64) (hm:m < 2 ^ 62):(bits .and .i64 (Int.fdiv (m:Int) (2 ^ (min i (IntKind.bits .i64)))) 1==0)=!m.testBit i:=by
 rw [tbitV m i hi hm]
 cases m.testBit i <;> rfl
theorem shl1T (x:Nat) (hx:x < 62):IntKind.wrap .i64 (1 * 2 ^ (min x (IntKind.bits .i64)))=((2 ^ x:Nat):Int):=by
 have e1:min x (IntKind.bits .i64)=x:=by rw [bits64T]; omega
 have h:2 ^ x < 2 ^ 62:=Nat.pow_lt_pow_right (by omega) hx
 have e2:((1:Int) * 2 ^ x)=((2 ^ x:Nat):Int):=by simp
 have key:∀ q:Nat,q < 2 ^ 62→IntKind.wrap .i64 (q:Int)=(q:Int):=fun q hq=>w64_eq (by omega) (by omega)
 rw [e1,e2,key _ h]
def bitGT (_:Nat) (x:Int) (m:Int):Int:=bits .or .i64 m (IntKind.wrap .i64 (1 * 2 ^ (min (Int.toNat x) (IntKind.bits .i64))))
def maskPT (l:List Int):Int:=foldI bitGT 0 l 0
theorem p_l6MaskT (l:List Int) (h0:∀ x∈l,0≤x∧x < 1048576) (hl:l.length≤1048576):M_cl l=some (maskPT l):=by
 unfold M_cl
 have:iter (M_an l) N0 (0,0)=some (maskPT l):=by
  refine iter_foldI (f:=M_an l) l (fun i (a:Int)=>(a,(i:Int))) bitGT id (fun _ _=>True) (fun i a x hx _=>?_) (fun a _=>by simp [M_an]) 0 trivial (by omega)
  have hlt:=(List.getElem?_eq_some_iff.1 hx).1
  have h1:decide ((i:Int) < l.length)=true:=by simp [hlt]
  have h2:=h0 x (List.mem_of_getElem? hx)
  have h3:IntKind.wrap .u64 x=x:=w64u_eq h2.1 (by omega)
  simp only [M_an,h1,cond_true,geti_nat,hx,Option.bind_some,h3,grd_t h2.1]
  rw [w64_eq (n:=(i:Int)+1) (by omega) (by omega)]
  exact ⟨trivial,rfl⟩
 rw [this]; rfl
theorem mask_specT:∀ (g:List Int) (k:Nat) (m:Nat),(∀ x∈g,0≤x∧x < 62)→m < 2 ^ 62→∃ m':Nat,foldI bitGT k g (m:Int)=(m':Int)∧m' < 2 ^ 62∧∀ i,m'.testBit i=(m.testBit i||decide ((i:Int)∈g))
 | [],_,m,_,hm=>⟨m,rfl,hm,fun i=>by simp⟩
 | x :: g, k, m, hg, hm => by
   have hx:=hg x List.mem_cons_self
   have hp:2 ^ x.toNat < 2 ^ 62:=Nat.pow_lt_pow_right (by omega) (by omega)
   have e:bitGT k x (m:Int)=((m ||| 2 ^ x.toNat:Nat):Int):=by
    unfold bitGT
    rw [shl1T x.toNat (by omega),borT m _ hm hp]
   obtain ⟨m',h1,h2,h3⟩:=mask_specT g (k+1) (m ||| 2 ^ x.toNat) (fun y hy=>hg y (List.mem_cons_of_mem _ hy)) (Nat.or_lt_two_pow hm hp)
   refine ⟨m',by rw [foldI,e]; exact h1,h2,fun i=>?_⟩
   rw [h3,Nat.testBit_or,Nat.testBit_two_pow,Bool.or_assoc]
   congr 1
   by_cases h:x.toNat=i
   · have:x=(i:Int):=by omega
     simp [this]
   · have:¬ ((i:Int)=x):=by omega
     simp [h,this]
theorem maskP_specT (g:List Int) (hg:∀ x∈g,0≤x∧x < 62):∃ m:Nat,maskPT g=(m:Int)∧m < 2 ^ 62∧∀ i,m.testBit i=decide ((i:Int)∈g):=by
 obtain ⟨m,h1,h2,h3⟩:=mask_specT g 0 0 hg (by decide)
 exact ⟨m,h1,h2,fun i=>by rw [h3]; simp⟩
end Vs

namespace Vs
open Go
def BitS (m:Nat) (q:List Int):Prop:=m < 2 ^ 62∧∀ i:Nat,m.testBit i=decide ((i:Int)∈q)
def RcI (n:TNetwork) (s:Int) (D:Int→List Int→List Int→List (List Int)) (L B:Nat) (rc:Int→Int→Int→List Int→TNetwork→List (List Int)→Option (TNetwork×List (List Int))):Prop :=
 ∀ a p q (m:Nat) l,InvD n s a p q→q.length=L+1→BitS m q→l.length≤B→rc s a (m:Int) p n l=some (n,l++D a p q)
theorem p_oth (n:TNetwork) {i:Nat} (hi:i < n.Fibers.length) (a:Int):((geti n.Fibers (i:Int)).bind fun y=>M_bu y a)=some (othI n (i:Int) a):=by
 rw [geti_nat,List.getElem?_eq_getElem hi,Option.bind_some,p_otherEnd]
 unfold othI
 rw [Int.toNat_natCast,List.getElem?_eq_getElem hi]
theorem impl_body {n:TNetwork} (hn:netOk n=true) {s:Int} {D:Int→List Int→List Int→List (List Int)} {L B:Nat} (hB:B≤1000000000000)
 {rc:Int→Int→Int→List Int→TNetwork→List (List Int)→Option (TNetwork×List (List Int))}
 (hrc:RcI n s D L B rc) {c:Nat} (hc:1≤c) (hD:∀ a p q,(D a p q).length≤c) {a:Int} {p q:List Int} (h:InvD n s a p q) (hq:q.length=L) {m:Nat} (hm:BitS m q) (l0:List (List Int)) (hl0:l0.length+14 * c≤B) :
 M_dn rc s a (m:Int) p n l0=some (n,l0++bodyD n s D a p q):=by
 unfold M_dn
 have hN:=netOk_bR hn
 have hF:=hN.2.2
 have hpl:=ring_len hn h
 obtain ⟨b,hb,hQ⟩:=iter_inv (f:=M_c s a (m:Int) p n rc) (fun t=>∃ i:Nat,t=((i:Int),n,l0++(List.range i).flatMap (stepD n s D a p q))∧i≤n.Fibers.length) (fun t=>n.Fibers.length - t.1.toNat)
  (fun b=>b=(n,l0++bodyD n s D a p q))
  (fun t ⟨i,e,hi⟩=>by
   subst e
   obtain ⟨l,hl⟩:∃ l,l=l0++(List.range i).flatMap (stepD n s D a p q):=⟨_,rfl⟩
   have hll:l.length≤B:=by
    rw [hl,List.length_append]
    have:=flat_len (stepD n s D a p q) c i fun j _=>stepD_len hc hD a p q j
    have h2:i * c≤14 * c:=Nat.mul_le_mul_right _ (by omega)
    omega
   have hnext:l++stepD n s D a p q i=l0++(List.range (i+1)).flatMap (stepD n s D a p q):=by rw [flat_succ,hl,List.append_assoc]
   rw [← hl]
   unfold M_c
   by_cases hi2:i < n.Fibers.length
   · have e1:decide ((i:Int) < (n.Fibers.length:Int))=true:=by simp [hi2]
     have hg:geti n.Fibers (i:Int)=some n.Fibers[i]:=by rw [geti_nat,List.getElem?_eq_getElem hi2]
     have e3:M_bu n.Fibers[i] a=some (othI n (i:Int) a):=by
      have:=p_oth n hi2 a
      rwa [hg,Option.bind_some] at this
     have e4:M_ae p (i:Int)=some (decide ((i:Int)∈p)):=p_ContI _ _ (by omega)
     have w1:IntKind.wrap .i64 ((i:Int)+1)=((i+1:Nat):Int):=by rw [w64_eq (by omega) (by omega)]; rfl
     have fin:∀ l',l'=l++stepD n s D a p q i→(∃ i':Nat,(((i+1:Nat):Int),n,l')=((i':Int),n,l0++(List.range i').flatMap (stepD n s D a p q))∧i'≤n.Fibers.length) :=
      fun l' e=>⟨i+1,by rw [e,hnext],by omega⟩
     have fin2:∀ l':List (List Int),(n.Fibers.length - ((((i+1:Nat):Int),n,l'):Int×TNetwork×List (List Int)).1.toNat < n.Fibers.length - (((i:Int),n,l):Int×TNetwork×List (List Int)).1.toNat):=fun l'=>by simp only [Int.toNat_natCast]; omega
     left
     simp only [e1,cond_true,hg,Option.bind_some,e3,e4,w1]
     by_cases c1:othI n (i:Int) a < s
     · simp only [c1,decide_true,cond_true,Option.bind_some]
       have:l=l++stepD n s D a p q i:=by unfold stepD; rw [if_pos (.inl c1),List.append_nil]
       exact ⟨_,rfl,fin l this,fin2 l⟩
     · simp only [c1,decide_false,cond_false,Option.bind_some]
       by_cases c2:(i:Int)∈p
       · simp only [c2,decide_true,cond_true]
         have:l=l++stepD n s D a p q i:=by unfold stepD; rw [if_pos (.inr c2),List.append_nil]
         exact ⟨_,rfl,fin l this,fin2 l⟩
       · simp only [c2,decide_false,cond_false,bnd]
         rw [grd_t (by omega),Option.bind_some]
         have hne:¬ (othI n (i:Int) a < s∨(i:Int)∈p):=fun e=>e.elim c1 c2
         have hs:=h.s0
         obtain ⟨ho,_⟩:=oth_rng hn hi2 (a:=a) (by omega)
         by_cases c3:othI n (i:Int) a=s
         · have e6:(othI n (i:Int) a==s)=true:=by rw [c3]; simp
           simp only [e6,cond_true]
           obtain ⟨w,hw,_⟩:=p_around n (p++[(i:Int)]) (by omega) (by simp; omega)
           rw [hw,Option.bind_some]
           rw [h.close hi2 c2 c3]
           by_cases c4:2≤(p++[(i:Int)]).length∧lexB (p++[(i:Int)]) (p++[(i:Int)]).reverse=true
           · rw [if_pos c4]
             simp only [Option.isSome_some,cond_true]
             rw [grd_t (by omega),Option.bind_some]
             have:l++[p++[(i:Int)]]=l++stepD n s D a p q i:=by
              unfold stepD; rw [if_neg hne,if_pos c3,if_pos c4]
             exact ⟨_,rfl,fin _ this,fin2 _⟩
           · rw [if_neg c4]
             simp only [Option.isSome_none,cond_false]
             have:l=l++stepD n s D a p q i:=by
              unfold stepD; rw [if_neg hne,if_pos c3,if_neg c4,List.append_nil]
             exact ⟨_,rfl,fin _ this,fin2 _⟩
         · have e6:(othI n (i:Int) a==s)=false:=by simp [c3]
           obtain ⟨x,hx⟩:∃ x:Nat,othI n (i:Int) a=(x:Int):=⟨(othI n (i:Int) a).toNat,by omega⟩
           have hx8:x < 8:=by omega
           simp only [e6,cond_false]
           rw [grd_t (by omega),Option.bind_some]
           rw [hx,Int.toNat_natCast,tbit0 m x (by omega) hm.1,hm.2 x,← hx]
           by_cases c4:othI n (i:Int) a∈q
           · simp only [c4,decide_true,Bool.not_true,cond_false]
             have:l=l++stepD n s D a p q i:=by
              unfold stepD; rw [if_neg hne,if_neg c3,if_pos c4,List.append_nil]
             exact ⟨_,rfl,fin _ this,fin2 _⟩
           · simp only [c4,decide_false,Bool.not_false,cond_true]
             rw [Option.bind_some,shl1T x (by omega),borT m _ hm.1 (Nat.pow_lt_pow_right (by omega) (by omega))]
             have hb':BitS (m ||| 2 ^ x) (q++[othI n (i:Int) a]):=by
              refine ⟨Nat.or_lt_two_pow hm.1 (Nat.pow_lt_pow_right (by omega) (by omega)),fun j=>?_⟩
              rw [Nat.testBit_or,Nat.testBit_two_pow,hm.2 j]
              by_cases hj:x=j
              · subst hj; simp [hx]
              · have:¬ ((j:Int)=othI n (i:Int) a):=by omega
                simp [hj,this]
             rw [hrc _ _ _ _ l (h.ext hn hi2 c2 c1 c3 c4) (by simp [hq]) hb' hll,Option.bind_some]
             have:l++D (othI n (i:Int) a) (p++[(i:Int)]) (q++[othI n (i:Int) a])=l++stepD n s D a p q i:=by
              unfold stepD; rw [if_neg hne,if_neg c3,if_neg c4]
             exact ⟨_,rfl,fin _ this,fin2 _⟩
   · have e1:decide ((i:Int) < (n.Fibers.length:Int))=false:=by simp; omega
     right
     simp only [e1,cond_false]
     refine ⟨_,rfl,?_⟩
     have:i=n.Fibers.length:=by omega
     rw [hl,this]; rfl) N0 (0,n,l0) ⟨0,by simp,by omega⟩ (N0_lt (by simp; omega))
 rw [hb,hQ]; rfl
theorem p_ext {n:TNetwork} (hn:netOk n=true) {s:Int}:∀ (k f:Nat),k < f→∀ {a:Int} {p q:List Int} {m:Nat} (l:List (List Int)),InvD n s a p q→q.length+k=n.Nodes.length→BitS m q→l.length+2 * 14 ^ (k+1)≤1000000000000 →
 M_cc f s a (m:Int) p n l=some (n,l++dfsD n s k a p q)
 | 0, f + 1, _, a, p, q, m, l, h, hk, hm, hl => by
   show M_dn _ s a (m:Int) p n l=_
   exact impl_body hn (D:=fun _ _ _=>[]) (L:=q.length) (B:=l.length+14 * 1) (by omega) (fun a' p' q' m' l' h' hq' _ _=>by have:=h'.le; omega) (Nat.le_refl 1) (fun _ _ _=>by simp) h rfl hm l (Nat.le_refl _)
 | k + 1, f + 1, hf, a, p, q, m, l, h, hk, hm, hl => by
   show M_dn _ s a (m:Int) p n l=_
   have h1:1≤14 ^ (k+1):=Nat.pow_pos (by omega)
   rw [Nat.pow_succ 14 (k+1)] at hl
   exact impl_body hn (D:=dfsD n s k) (L:=q.length) (B:=l.length+14 * 14 ^ (k+1)) (by omega) (fun a' p' q' m' l' h' hq' hm' hl'=>p_ext hn k f (by omega) l' h' (by omega) hm' (by omega)) h1 (dfsD_len (netOk_bR hn).2.2 k) h rfl hm l (Nat.le_refl _)
theorem bitS_one (v:Nat) (hv:v < 62):BitS (2 ^ v) [(v:Int)]:=by
 refine ⟨Nat.pow_lt_pow_right (by omega) hv,fun i=>?_⟩
 rw [Nat.testBit_two_pow]
 by_cases h:v=i
 · simp [h]
 · have:¬ ((i:Int)=v):=by omega
   simp [h,this]
theorem p_rings1 (n:TNetwork) (hn:netOk n=true):iter (M_bb n) N0 (0,n,[])=some (ringsD n):=by
 have hN:=netOk_bR hn
 have hE:∀ k,k < n.Nodes.length→14 ^ (k+1)≤14 ^ 8:=fun k hk=>Nat.pow_le_pow_right (by omega) (by omega)
 obtain ⟨C,h8,hC⟩:∃ C:Nat,14 ^ 8≤C∧C≤2000000000:=⟨14 ^ 8,Nat.le_refl _,by simp⟩
 obtain ⟨b,hb,hQ⟩:=iter_inv (f:=M_bb n) (fun t=>∃ i:Nat,t=((i:Int),n,(List.range i).flatMap fun v:Nat=>dfsD n (v:Int) (n.Nodes.length - 1) (v:Int) [] [(v:Int)])∧i≤n.Nodes.length) (fun t=>n.Nodes.length - t.1.toNat)
  (fun b=>b=ringsD n)
  (fun t ⟨i,e,hi⟩=>by
   subst e
   unfold M_bb
   by_cases hi2:i < n.Nodes.length
   · have e1:decide ((i:Int) < (n.Nodes.length:Int))=true:=by simp [hi2]
     left
     simp only [e1,cond_true]
     have hlen:((List.range i).flatMap fun v:Nat=>dfsD n (v:Int) (n.Nodes.length - 1) (v:Int) [] [(v:Int)]).length≤16000000000:=by
      have h3:∀ v:Nat,(dfsD n (v:Int) (n.Nodes.length - 1) (v:Int) [] [(v:Int)]).length≤C:=fun v=>by
       have:=dfsD_len (n:=n) (s:=(v:Int)) hN.2.2 (n.Nodes.length - 1) (v:Int) [] [(v:Int)]
       have:=hE (n.Nodes.length - 1) (by omega)
       omega
      have:=flat_len (fun v:Nat=>dfsD n (v:Int) (n.Nodes.length - 1) (v:Int) [] [(v:Int)]) C i fun j _=>h3 j
      have h5:i * C≤8 * C:=Nat.mul_le_mul_right _ (by omega)
      omega
     have hp:=p_ext hn (s:=(i:Int)) (n.Nodes.length - 1) (N0+1) (by have:=N0_lt (n:=n.Nodes.length) (by omega); omega) (m:=2 ^ i) ((List.range i).flatMap fun v:Nat=>dfsD n (v:Int) (n.Nodes.length - 1) (v:Int) [] [(v:Int)]) (InvD.init hi2) (by simp; omega) (bitS_one i (by omega)) (by
      have:=hE (n.Nodes.length - 1) (by omega)
      omega)
     have hs:M_en (i:Int) (i:Int) ((2 ^ i:Nat):Int) [] n ((List.range i).flatMap fun v:Nat=>dfsD n (v:Int) (n.Nodes.length - 1) (v:Int) [] [(v:Int)])=_:=hp
     rw [grd_t (by omega),Option.bind_some,Int.toNat_natCast,shl1T i (by omega),hs,Option.bind_some]
     refine ⟨_,rfl,⟨i+1,?_,by omega⟩,?_⟩
     · rw [w64_eq (by omega) (by omega),flat_succ]; rfl
     · simp only [Int.toNat_natCast]
       rw [w64_eq (by omega) (by omega)]; omega
   · have e1:decide ((i:Int) < (n.Nodes.length:Int))=false:=by simp; omega
     right
     simp only [e1,cond_false]
     refine ⟨_,rfl,?_⟩
     have:i=n.Nodes.length:=by omega
     rw [this]; rfl) N0 (0,n,[]) ⟨0,rfl,by omega⟩ (N0_lt (by simp; omega))
 rw [hb,hQ]
theorem ringsD_len {n:TNetwork} (hn:netOk n=true):(ringsD n).length≤16000000000:=by
 have hN:=netOk_bR hn
 obtain ⟨C,h8,hC⟩:∃ C:Nat,14 ^ 8≤C∧C≤2000000000:=⟨14 ^ 8,Nat.le_refl _,by simp⟩
 have h3:∀ v:Nat,(dfsD n (v:Int) (n.Nodes.length - 1) (v:Int) [] [(v:Int)]).length≤C:=fun v=>by
  have:=dfsD_len (n:=n) (s:=(v:Int)) hN.2.2 (n.Nodes.length - 1) (v:Int) [] [(v:Int)]
  have:14 ^ (n.Nodes.length - 1+1)≤14 ^ 8:=Nat.pow_le_pow_right (by omega) (by omega)
  omega
 have:=flat_len (fun v:Nat=>dfsD n (v:Int) (n.Nodes.length - 1) (v:Int) [] [(v:Int)]) C n.Nodes.length fun j _=>h3 j
 have h5:n.Nodes.length * C≤8 * C:=Nat.mul_le_mul_right _ hN.2.1
 unfold ringsD
 omega
theorem p_CompareT (a b:List Int) (hl:a.length≤1048576):∃ r,M_by a b=some r:=by
 unfold M_by
 obtain ⟨x,hx,_⟩:=iter_inv (f:=M_w a b) (fun t=>∃ i:Nat,t=(i:Int)∧i≤a.length) (fun t=>a.length - t.toNat) (fun _=>True)
  (fun t ⟨i,e,hi⟩=>by
   subst e
   unfold M_w
   by_cases h1:i < a.length
   · have e1:decide ((i:Int) < (a.length:Int))=true:=by simp [h1]
     rw [e1,cond_true,geti_nat,List.getElem?_eq_getElem h1,Option.bind_some]
     by_cases h2:b.length≤i
     · have e2:decide ((b.length:Int)≤(i:Int))=true:=by simp [h2]
       right
       rw [e2]
       exact ⟨_,rfl,trivial⟩
     · have e2:decide ((b.length:Int)≤(i:Int))=false:=by simp; omega
       rw [e2,cond_false,geti_nat,List.getElem?_eq_getElem (by omega:i < b.length),Option.bind_some,p_cmp,Option.bind_some]
       cases (cmpI a[i] (b[i]'(by omega)) != 0) with
       | true=>right; exact ⟨_,rfl,trivial⟩
       | false =>
         left
         refine ⟨_,rfl,⟨i+1,by rw [w64_eq (by omega) (by omega)]; rfl,by omega⟩,?_⟩
         rw [w64_eq (by omega) (by omega)]
         simp only [Int.toNat_natCast]; omega
   · have e1:decide ((i:Int) < (a.length:Int))=false:=by simp; omega
     right
     rw [e1]
     exact ⟨_,rfl,trivial⟩) N0 0 ⟨0,rfl,by omega⟩ (N0_lt (by simp; omega))
 rw [hx,Option.bind_some]
 cases x with
 | inr v=>exact ⟨v,rfl⟩
 | inl u =>
   cases decide ((a.length:Int) < (b.length:Int)) with
   | true=>exact ⟨_,rfl⟩
   | false=>exact ⟨_,rfl⟩
theorem p_Or2 (x y:Int):M_cb [x,y]=some (if x=0 then y else x):=by
 unfold M_cb
 have key:=iter_findI (f:=M_m [x,y]) [x,y] (fun _ x=>x != 0) (fun _ x=>x) () (fun i z hz _=>by
  have hlt:=(List.getElem?_eq_some_iff.1 hz).1
  have h1:decide ((i:Int) < (([x,y]:List Int).length:Int))=true:=by simp only [decide_eq_true_eq]; omega
  simp only [M_m,h1,cond_true,geti_nat,hz,Option.bind_some]
  rw [w64_eq (by omega) (by simp at hlt; omega)]
  cases z != 0 <;> rfl) (by simp [M_m]) (by simp)
 rw [key]
 by_cases h1:x=0
 · by_cases h2:y=0
   · subst h1; subst h2; rfl
   · have:(y != 0)=true:=bne_iff_ne.2 h2
     simp [findI,h1,this]
 · have:(x != 0)=true:=bne_iff_ne.2 h1
   simp [findI,h1,this]
theorem p_c2 (a b:List Int) (ha:a.length≤1048576) (hb:b.length≤1048576):∃ r,M_ca a b=some r∧decide (r < 0)=lessB a b:=by
 unfold M_ca
 obtain ⟨r,hr⟩:=p_CompareT a b ha
 simp only [p_cmp,Option.bind_some,hr,bnd,p_Or2]
 refine ⟨_,rfl,?_⟩
 unfold lessB
 by_cases h:a.length=b.length
 · rw [if_pos h]
   obtain ⟨r',h1,h2⟩:=p_CompareI a b h ha
   rw [hr] at h1
   cases h1
   rw [if_pos (by rw [h]; unfold cmpI; simp),h2]
 · rw [if_neg h]
   unfold cmpI
   by_cases h2:a.length < b.length
   · have e1:(a.length:Int) < (b.length:Int):=by omega
     simp [e1,h2]
   · have e1:¬ (a.length:Int) < (b.length:Int):=by omega
     have e2:(b.length:Int) < (a.length:Int):=by omega
     simp [e1,e2,h2]
def cfR (a b:List Int):Int:=(M_ca a b).getD 0
theorem p_rings (n:TNetwork) (hn:netOk n=true):∃ ys,M_do n=some ys∧ys.Perm (ringsD n)∧ys.Pairwise (fun a b=>lessB b a=false):=by
 unfold M_do
 rw [p_rings1 n hn,Option.bind_some]
 have hlen:=ringsD_len hn
 have hk:∀ x∈ringsD n,∀ y∈ringsD n,M_ca x y=some (cfR x y)∧(cfR x y < 0↔lessB x y=true):=by
  intro x hx y hy
  have h1:=(ringsD_ok hn x hx).2
  have h2:=(ringsD_ok hn y hy).2
  obtain ⟨r,h3,h4⟩:=p_c2 x y (by omega) (by omega)
  unfold cfR
  rw [h3]
  exact ⟨rfl,by rw [← h4]; simp⟩
 obtain ⟨ys,h1,h2,h3⟩:=sortX_spec (cmp:=fun x0 x1=>M_ca x0 x1) (xs:=ringsD n) cfR (by omega) (fun x hx y hy=>(hk x hx y hy).1)
  (fun x hx=>by rw [(hk x hx x hx).2,lessB_irr]; simp)
  (fun x hx y hy z hz a b=>(hk x hx z hz).2.2 (lessB_trans ((hk x hx y hy).2.1 a) ((hk y hy z hz).2.1 b)))
  (fun x hx y hy z hz a b=>by
   rw [(hk x hx y hy).2,Bool.not_eq_true] at a
   rw [(hk y hy z hz).2,Bool.not_eq_true] at b
   rw [(hk x hx z hz).2,Bool.not_eq_true]
   exact lessB_ntrans a b)
 rw [h1]
 refine ⟨ys,rfl,h2,?_⟩
 refine List.Pairwise.imp_of_mem ?_ h3
 intro a b ha hb hab
 rw [(hk b (h2.mem_iff.1 hb) a (h2.mem_iff.1 ha)).2,Bool.not_eq_true] at hab
 exact hab
def arP (n:TNetwork):List (List Int)×Bool:=if netOk n then (if (ringsD n).length≤60 then (putsR [] (ringsD n),true) else ([],false)) else ([],false)
theorem puts_le {n:TNetwork}:(putsR [] (ringsD n)).Pairwise (fun a b=>lessB b a=false)∧(if (ringsD n).length≤61 then (putsR [] (ringsD n)).Perm (ringsD n) else (putsR [] (ringsD n)).length=61):=by
 have:=putsR_spec (ringsD n) [] List.Pairwise.nil (by simp)
 simpa using this
theorem p_impl_AllRings (n:TNetwork) (hz:z_Network n≤1048576):M_dp n=some (arP n):=by
 unfold M_dp arP
 rw [p_IsValidNetwork n hz,Option.bind_some]
 cases hn:netOk n with
 | false=>rfl
 | true =>
   obtain ⟨ys,h1,h2,h3⟩:=p_rings n hn
   simp only [Bool.not_true,cond_false,h1,Option.bind_some,if_true]
   have hl:=h2.length_eq
   obtain ⟨q1,q2⟩:=puts_le (n:=n)
   by_cases h6:(ringsD n).length≤60
   · have e:decide (60 < (ys.length:Int))=false:=by simp; omega
     rw [if_pos (by omega)] at q2
     rw [e,cond_false,if_pos h6,srt_eq ys _ (h2.trans q2.symm) h3 q1]
   · have e:decide (60 < (ys.length:Int))=true:=by simp; omega
     rw [e,cond_true,if_neg h6]
theorem p_spec_AllRings (n:TNetwork) (hz:z_Network n≤1048576):M_ec n=some ((arP n).2,(arP n).1):=by
 unfold M_ec arP
 rw [p_l2Good n hz,Option.bind_some]
 cases hn:netOk n with
 | false=>rfl
 | true =>
   simp only [Bool.not_true,cond_false,p_l17All n hn,Option.bind_some,if_true]
   obtain ⟨q1,q2⟩:=puts_le (n:=n)
   by_cases h6:(ringsD n).length≤60
   · rw [if_pos (by omega)] at q2
     have:=q2.length_eq
     have e:decide (60 < ((putsR [] (ringsD n)).length:Int))=false:=by simp; omega
     rw [e,cond_false,if_pos h6]
   · have:60 < (putsR [] (ringsD n)).length:=by
      split at q2
      · have:=q2.length_eq; omega
      · omega
     have e:decide (60 < ((putsR [] (ringsD n)).length:Int))=true:=by simp; omega
     rw [e,cond_true,if_neg h6]
theorem arP_ok {n:TNetwork} (h:(arP n).2=true):netOk n=true∧(arP n).1.length≤60∧∀ r∈(arP n).1,OkD n r:=by
 unfold arP at h ⊢
 cases hn:netOk n with
 | false=>rw [hn] at h; cases h
 | true =>
   rw [hn] at h
   simp only [if_true] at h ⊢
   by_cases h6:(ringsD n).length≤60
   · rw [if_pos h6]
     obtain ⟨q1,q2⟩:=puts_le (n:=n)
     rw [if_pos (by omega)] at q2
     exact ⟨trivial,by have:=q2.length_eq; simp only; omega,fun r hr=>ringsD_ok hn r (q2.mem_iff.1 hr)⟩
   · rw [if_neg h6] at h; cases h
end Vs

namespace Vs
open Go
def protP (n:TNetwork) (ring:List Int):List Int:=match ringP n ring with
 | some l=>ownP n ring++crsP n ring l
 | none=>[]
theorem prot_rng {n:TNetwork} {ring:List Int} {x:Int} (h:x∈protP n ring):0≤x∧x < n.Fibers.length:=by
 unfold protP at h
 split at h
 · rw [List.mem_append] at h
   rcases h with h | h
   · exact own_rng h
   · exact crs_rng h
 · cases h
theorem p_l17Cover {n:TNetwork} (hn:netOk n=true) {ring:List Int} (hr:OkD n ring):∃ m:Nat,M_eg n ring=some (m:Int)∧m < 2 ^ 62∧∀ i:Nat,m.testBit i=decide ((i:Int)∈protP n ring):=by
 obtain ⟨h1,h2⟩:=hr
 obtain ⟨l,hl⟩:=Option.isSome_iff_exists.1 h1
 have hF:=(netOk_bR hn).2.2
 unfold M_eg protP
 rw [p_l17Protected n ring l hn (by omega) (ringl_len hn (by omega) hl) hl,Option.bind_some,hl]
 have ho:=own_len n ring
 have hc:=crs_len n ring l
 simp only []
 rw [p_l6MaskT (ownP n ring) (fun x hx=>by have:=own_rng hx; omega) (Nat.le_trans ho (by omega)),Option.bind_some,p_l6MaskT (crsP n ring l) (fun x hx=>by have:=crs_rng hx; omega) (Nat.le_trans hc (by omega)),Option.bind_some]
 obtain ⟨m1,a1,a2,a3⟩:=maskP_specT (ownP n ring) (fun x hx=>by have:=own_rng hx; omega)
 obtain ⟨m2,b1,b2,b3⟩:=maskP_specT (crsP n ring l) (fun x hx=>by have:=crs_rng hx; omega)
 rw [a1,b1,borT m1 m2 a2 b2]
 refine ⟨_,rfl,Nat.or_lt_two_pow a2 b2,fun i=>?_⟩
 rw [Nat.testBit_or,a3,b3]
 simp only [List.mem_append]
 by_cases h:(i:Int)∈ownP n ring <;> simp [h]
theorem p_Concat2 (xs ys:List Int) (hx:xs.length≤1048576) (hy:ys.length≤1048576):M_dw [xs,ys]=some (xs++ys):=by
 unfold M_dw
 have h1:iter (M_al [xs,ys]) N0 (0,0)=some ((xs.length+ys.length:Nat):Int):=by
  have:=iter_foldI (f:=M_al [xs,ys]) [xs,ys] (fun i (a:Int)=>(a,(i:Int))) (fun _ (x:List Int) a=>a+x.length) id (fun i a=>0≤a∧a≤i * 1048576) (fun i a x hx' hI=>by
   have hlt:=(List.getElem?_eq_some_iff.1 hx').1
   have hxl:x.length≤1048576:=by
    have:=List.mem_of_getElem? hx'
    simp at this
    rcases this with e | e <;> rw [e] <;> assumption
   simp only [List.length_cons,List.length_nil] at hlt
   have e1:decide ((i:Int) < (([xs,ys]:List (List Int)).length:Int))=true:=by simp only [decide_eq_true_eq,List.length_cons,List.length_nil]; omega
   refine ⟨by constructor <;> omega,?_⟩
   simp only [M_al,e1,cond_true,geti_nat,hx',Option.bind_some]
   rw [w64_eq (n:=a+(x.length:Int)) (by omega) (by omega)]
   have e2:decide (a+(x.length:Int) < 0)=false:=by simp; omega
   rw [e2,cond_false,w64_eq (by omega) (by omega)]; rfl) (fun a _=>by simp [M_al]) 0 ⟨by omega,by omega⟩ (by simp)
  refine Eq.trans this ?_
  simp [foldI]
 rw [h1,Option.bind_some]
 have h2:∃ L,M_dv ((xs.length+ys.length:Nat):Int)=some (0,0,L):=by
  unfold M_dv
  have e1:decide (((xs.length+ys.length:Nat):Int) < 0)=false:=by simp; omega
  have e2:IntKind.wrap .i64 (0 - ((0:Nat):Int))=0:=by decide
  rw [e1,cond_false,e2,Int.sub_zero,w64_eq (by omega) (by omega)]
  by_cases h0:xs.length+ys.length=0
  · rw [h0]; exact ⟨[],rfl⟩
  · have e3:decide (0 < ((xs.length+ys.length:Nat):Int))=true:=by simp only [decide_eq_true_eq]; omega
    rw [e3,cond_true,grd_t ⟨by omega,by omega⟩,Option.bind_some]
    simp only [bnd]
    rw [grd_t ⟨trivial,by omega,trivial,by simp⟩,Option.bind_some]
    exact ⟨_,rfl⟩
 obtain ⟨L,hL⟩:=h2
 rw [hL,Option.bind_some]
 have h0:subT L 0 0=[]:=by
  unfold subT
  split
  · rename_i e; exact List.length_eq_zero_iff.1 e.2.symm
  · simp
 obtain ⟨b,hb,hq⟩:=iter_inv (f:=M_bk [xs,ys]) (fun t=>∃ (i:Nat) (M:List Int),t=(0,([xs,ys].take i).flatten.length,(i:Int),M)∧i≤2∧subT M 0 ([xs,ys].take i).flatten.length=([xs,ys].take i).flatten) (fun t=>2 - t.2.2.1.toNat)
  (fun b=>b.1=0∧b.2.1=(xs++ys).length∧subT b.2.2 0 b.2.1=xs++ys)
  (fun t ⟨i,M,e,hi,hM⟩=>by
   subst e
   unfold M_bk
   by_cases hi2:i < 2
   · left
     have e1:decide ((i:Int) < (([xs,ys]:List (List Int)).length:Int))=true:=by simp only [decide_eq_true_eq,List.length_cons,List.length_nil]; omega
     obtain ⟨x,hx'⟩:∃ x,([xs,ys]:List (List Int))[i]?=some x:=⟨_,List.getElem?_eq_getElem (by simpa using hi2)⟩
     have hxl:x.length≤1048576:=by
      have:=List.mem_of_getElem? hx'
      simp at this
      rcases this with e | e <;> rw [e] <;> assumption
     have hfl:([xs,ys].take i).flatten.length≤2097152:=by
      match i,hi2 with
      | 0,_=>simp
      | 1,_=>simp; omega
     have ht:([xs,ys].take (i+1)).flatten=([xs,ys].take i).flatten++x:=by
      rw [List.take_add_one,hx']; simp
     simp only [e1,cond_true,geti_nat,hx',Option.bind_some,bnd,hM]
     rw [grd_t (by omega),Option.bind_some,w64_eq (by omega) (by omega)]
     refine ⟨_,rfl,⟨i+1,_,by rw [ht,List.length_append]; rfl,by omega,?_⟩,by simp; omega⟩
     rw [ht]; exact subT_all _
   · right
     have hi3:i=2:=by omega
     subst hi3
     refine ⟨_,rfl,rfl,by simp,?_⟩
     simpa using hM) N0 (0,0,0,L) ⟨0,L,rfl,by omega,h0⟩ (N0_lt (by simp))
 rw [hb,Option.bind_some]
 simp only [bnd,hq.1,hq.2.2]
def gB (d:List Bool) (y:Int):Bool:=(d[y.toNat]?).getD false
theorem gB_at {d:List Bool} {y:Int} (h0:0≤y) (h1:y < d.length):d[y.toNat]?=some (gB d y):=by
 have:y.toNat < d.length:=by omega
 unfold gB
 rw [List.getElem?_eq_getElem this]; rfl
def nfS (mk:Bool) (y:Int) (p:Int×List Bool):Int×List Bool:=(if gB p.2 y then p.1 else p.1+1,p.2.set y.toNat (gB p.2 y||mk))
def nfP (mk:Bool) (ys:List Int) (p:Int×List Bool):Int×List Bool:=foldI (fun _ y p=>nfS mk y p) 0 ys p
theorem p_newFibers {n:TNetwork} (hn:netOk n=true) {ring:List Int} (hr:OkD n ring) (mk:Bool) (d:List Bool) (hd:d.length=n.Fibers.length) :
 M_dx n ring 0 n.Fibers.length mk d=some (nfP mk (protP n ring) (0,d)):=by
 obtain ⟨h1,h2⟩:=hr
 obtain ⟨l,hl⟩:=Option.isSome_iff_exists.1 h1
 have hF:=(netOk_bR hn).2.2
 unfold M_dx
 have ho:=own_len n ring
 have hc:=crs_len n ring l
 rw [p_protected n ring l hn (by omega) hl,Option.bind_some]
 simp only [bnd]
 rw [p_Concat2 _ _ (by omega) (by omega),Option.bind_some]
 have hp:protP n ring=ownP n ring++crsP n ring l:=by unfold protP; rw [hl]
 have hpl:(protP n ring).length≤28:=by rw [hp,List.length_append]; omega
 rw [← hp]
 have hloop:=iter_foldI (f:=M_o 0 n.Fibers.length mk (protP n ring)) (protP n ring) (fun i (p:Int×List Bool)=>(p.1,(i:Int),p.2)) (fun _ y p=>nfS mk y p) id (fun i p=>0≤p.1∧p.1≤i∧p.2.length=n.Fibers.length) (fun i p y hy hI=>by
  obtain ⟨i1,i2,i3⟩:=hI
  have hlt:=(List.getElem?_eq_some_iff.1 hy).1
  have hyr:=prot_rng (List.mem_of_getElem? hy)
  have e1:decide ((i:Int) < ((protP n ring).length:Int))=true:=by simp [hlt]
  have e2:=gB_at (d:=p.2) hyr.1 (by omega)
  unfold nfS
  simp only [M_o,e1,cond_true,Int.toNat_natCast,hy,Option.bind_some,Nat.zero_add,e2,bnd]
  rw [grd_t ⟨by omega,by omega⟩,Option.bind_some,grd_t hyr,Option.bind_some]
  have w1:IntKind.wrap .i64 ((i:Int)+1)=((i+1:Nat):Int):=by rw [w64_eq (by omega) (by omega)]; rfl
  have w2:IntKind.wrap .i64 (p.1+1)=p.1+1:=w64_eq (by omega) (by omega)
  cases gB p.2 y with
  | true =>
    simp only [Bool.not_true,cond_false,Option.bind_some,cond_true,if_true,Bool.true_or,w1]
    exact ⟨⟨by omega,by omega,by simp [i3]⟩,trivial⟩
  | false =>
    simp only [Bool.not_false,cond_true,Option.bind_some,cond_false,Bool.false_eq_true,if_false,Bool.false_or,w1,w2]
    exact ⟨⟨by omega,by omega,by simp [i3]⟩,trivial⟩) (fun p _=>by simp [M_o]) (0,d) ⟨by omega,by omega,hd⟩ (by omega)
 have hloop2:iter (M_o 0 n.Fibers.length mk (protP n ring)) N0 (0,0,d)=_:=hloop
 rw [hloop2]; rfl
def markB (d:List Bool) (ys:List Int):List Bool:=ys.foldl (fun d y=>d.set y.toNat true) d
theorem markB_len:∀ (ys:List Int) (d:List Bool),(markB d ys).length=d.length
 | [],d=>rfl
 | y :: ys, d => by
   show (markB (d.set y.toNat true) ys).length=_
   rw [markB_len ys]; simp
theorem markB_at:∀ (ys:List Int) (d:List Bool) (j:Nat),(∀ y∈ys,0≤y)→j < d.length→gB (markB d ys) (j:Int)=(gB d (j:Int)||decide ((j:Int)∈ys))
 | [],d,j,_,_=>by simp [markB]
 | y :: ys, d, j, h0, hj => by
   show gB (markB (d.set y.toNat true) ys) (j:Int)=_
   rw [markB_at ys _ j (fun z hz=>h0 z (List.mem_cons_of_mem _ hz)) (by simpa using hj)]
   have hy:=h0 y List.mem_cons_self
   have e:gB (d.set y.toNat true) (j:Int)=(gB d (j:Int)||decide ((j:Int)=y)):=by
    unfold gB
    rw [Int.toNat_natCast,List.getElem?_set]
    by_cases h:y.toNat=j
    · have:(j:Int)=y:=by omega
      simp [h,this,hj]
    · have:¬ (j:Int)=y:=by omega
      simp [h,this]
   rw [e,Bool.or_assoc]
   congr 1
   simp only [List.mem_cons]
   by_cases h:(j:Int)=y <;> simp [h]
theorem nf_true:∀ (ys:List Int) (k:Nat) (p:Int×List Bool),(foldI (fun _ y p=>nfS true y p) k ys p).2=markB p.2 ys
 | [],k,p=>rfl
 | y :: ys, k, p => by
   show (foldI (fun _ y p=>nfS true y p) (k+1) ys (nfS true y p)).2=markB (p.2.set y.toNat true) ys
   rw [nf_true ys (k+1)]
   unfold nfS
   simp
def unP (p:Nat→Bool) (F:Nat):List Int:=foldI (fun i (_:Unit) a=>if p i then a++[(i:Int)] else a) 0 (List.replicate F ()) []
theorem foldI_unit {α A:Type} (g:Nat→A→A):∀ (xs:List α) (k:Nat) (a:A),foldI (fun i (_:α) a=>g i a) k xs a=foldI (fun i (_:Unit) a=>g i a) k (List.replicate xs.length ()) a
 | [],k,a=>rfl
 | x::xs,k,a=>foldI_unit g xs (k+1) (g k a)
theorem foldI_congr {α A:Type} {g g':Nat→α→A→A}:∀ (xs:List α) (k:Nat) (a:A),(∀ i x,xs[i]?=some x→g (k+i) x=g' (k+i) x)→foldI g k xs a=foldI g' k xs a
 | [],k,a,_=>rfl
 | x :: xs, k, a, h => by
   show foldI g (k+1) xs (g k x a)=foldI g' (k+1) xs (g' k x a)
   have:=h 0 x rfl
   rw [Nat.add_zero] at this
   rw [this]
   exact foldI_congr xs (k+1) _ fun i y hy=>by
    have:=h (i+1) y (by simpa using hy)
    rwa [show k+1+i=k+(i+1) by omega]
theorem unP_len (p:Nat→Bool) (F:Nat):(unP p F).length≤F:=by
 have:∀ (xs:List Unit) (k:Nat) (a:List Int),(foldI (fun i (_:Unit) a=>if p i then a++[(i:Int)] else a) k xs a).length≤a.length+xs.length:=by
  intro xs
  induction xs with
  | nil=>intro k a; simp [foldI]
  | cons x xs ih =>
    intro k a
    refine Nat.le_trans (ih (k+1) _) ?_
    simp only [List.length_cons]
    cases p k <;> simp <;> omega
 have:=this (List.replicate F ()) 0 []
 simpa [unP] using this
theorem unP_congr {p p':Nat→Bool} (F:Nat) (h:∀ i,i < F→p i=p' i):unP p F=unP p' F:=by
 unfold unP
 refine foldI_congr _ 0 [] fun i x hx=>?_
 have:=(List.getElem?_eq_some_iff.1 hx).1
 rw [List.length_replicate] at this
 funext a
 rw [Nat.zero_add,h i this]
def inR (n:TNetwork) (rs:List (List Int)) (i:Nat):Bool:=rs.any fun r=>decide ((i:Int)∈protP n r)
def ufP (n:TNetwork):List Int×Bool:=if (arP n).2 then (unP (fun i=>!inR n (arP n).1 i) n.Fibers.length,true) else ([],false)
theorem p_impl_UnringedFibers (n:TNetwork) (hz:z_Network n≤1048576):M_cr n=some (ufP n):=by
 unfold M_cr ufP
 rw [p_impl_AllRings n hz,Option.bind_some]
 cases h:(arP n).2 with
 | false=>rfl
 | true =>
   obtain ⟨hn,h6,hok⟩:=arP_ok h
   have hF:=(netOk_bR hn).2.2
   simp only [Bool.not_true,cond_false,if_true]
   rw [grd_t ⟨by omega,by omega,by omega,by omega⟩,Option.bind_some]
   simp only [bnd,Int.toNat_natCast]
   have h1:∃ d:List Bool,iter (M_bc n (arP n)) N0 (n.Fibers.length,0,List.replicate n.Fibers.length false)=some (n.Fibers.length,d)∧d.length=n.Fibers.length∧∀ i:Nat,i < n.Fibers.length→gB d (i:Int)=inR n (arP n).1 i:=by
    obtain ⟨b,hb,hq⟩:=iter_inv (f:=M_bc n (arP n)) (fun t=>∃ (k:Nat) (d:List Bool),t=(n.Fibers.length,(k:Int),d)∧k≤(arP n).1.length∧d.length=n.Fibers.length∧∀ i:Nat,i < n.Fibers.length→gB d (i:Int)=inR n ((arP n).1.take k) i)
     (fun t=>(arP n).1.length - t.2.1.toNat) (fun b=>b.1=n.Fibers.length∧b.2.length=n.Fibers.length∧∀ i:Nat,i < n.Fibers.length→gB b.2 (i:Int)=inR n (arP n).1 i)
     (fun t ⟨k,d,e,hk,hd,hi⟩=>by
      subst e
      unfold M_bc
      by_cases hk2:k < (arP n).1.length
      · left
        have e1:decide ((k:Int) < ((arP n).1.length:Int))=true:=by simp [hk2]
        have e2:(arP n).1[k]?=some (arP n).1[k]:=List.getElem?_eq_getElem hk2
        simp only [e1,cond_true,Int.toNat_natCast,e2,Option.bind_some]
        rw [grd_t ⟨by omega,by omega⟩,Option.bind_some,p_newFibers hn (hok _ (List.getElem_mem hk2)) true d hd,Option.bind_some]
        refine ⟨_,rfl,⟨k+1,_,by rw [w64_eq (by omega) (by omega)]; rfl,by omega,?_,fun i hi'=>?_⟩,?_⟩
        · unfold nfP; rw [nf_true,markB_len]; exact hd
        · unfold nfP
          rw [nf_true,markB_at _ _ _ (fun y hy=>(prot_rng hy).1) (by simp only; omega)]
          simp only
          rw [hi i hi']
          unfold inR
          rw [List.take_add_one,e2,List.any_append]
          simp
        · rw [w64_eq (by omega) (by omega)]
          simp only [Int.toNat_natCast]; omega
      · right
        have e1:decide ((k:Int) < ((arP n).1.length:Int))=false:=by simp; omega
        rw [e1]
        refine ⟨_,rfl,rfl,hd,fun i hi'=>?_⟩
        have:=hi i hi'
        rwa [List.take_of_length_le (by omega)] at this) N0 (n.Fibers.length,0,List.replicate n.Fibers.length false)
     ⟨0,_,rfl,by omega,by simp,fun i hi=>by simp [gB,inR,hi]⟩ (N0_lt (by simp; omega))
    obtain ⟨b1,b2⟩:=b
    simp only at hq
    obtain ⟨q1,q2,q3⟩:=hq
    exact ⟨b2,by rw [hb,q1],q2,q3⟩
   obtain ⟨d,hd1,hd2,hd3⟩:=h1
   rw [hd1,Option.bind_some]
   have h2:iter (M_p (n.Fibers.length,d)) N0 (0,[])=some (unP (fun i=>!inR n (arP n).1 i) n.Fibers.length):=by
    have:=iter_foldI (f:=M_p (n.Fibers.length,d)) d (fun i (a:List Int)=>((i:Int),a)) (fun i x a=>if !x then a++[(i:Int)] else a) id (fun i a=>a.length≤i) (fun i a x hx hI=>by
     have hlt:=(List.getElem?_eq_some_iff.1 hx).1
     have e1:decide ((i:Int) < (n.Fibers.length:Int))=true:=by simp; omega
     simp only [M_p,e1,cond_true,Int.toNat_natCast,hx,Option.bind_some,bnd]
     rw [grd_t ⟨by omega,by omega⟩,Option.bind_some]
     have w1:IntKind.wrap .i64 ((i:Int)+1)=((i+1:Nat):Int):=by rw [w64_eq (by omega) (by omega)]; rfl
     cases x with
     | true=>simp only [Bool.not_true,cond_false,Bool.false_eq_true,if_false,w1]; exact ⟨by omega,trivial⟩
     | false =>
       simp only [Bool.not_false,cond_true,if_true,w1]
       rw [grd_t (by omega),Option.bind_some]
       exact ⟨by simp; omega,rfl⟩) (fun a _=>by simp [M_p,hd2]) [] (by simp) (by omega)
    refine Eq.trans this ?_
    simp only [id]
    congr 1
    rw [foldI_congr (g':=fun i _ a=>if !inR n (arP n).1 i then a++[(i:Int)] else a) d 0 [] (fun i x hx=>by
     have hlt:=(List.getElem?_eq_some_iff.1 hx).1
     have:=hd3 i (by omega)
     unfold gB at this
     rw [Int.toNat_natCast,hx] at this
     rw [Nat.zero_add,← this]; rfl),foldI_unit,hd2]
    rfl
   rw [h2]; rfl
theorem p_spec_UnringedFibers (n:TNetwork) (hz:z_Network n≤1048576):M_cs n=some (ufP n):=by
 unfold M_cs ufP
 rw [p_spec_AllRings n hz,Option.bind_some]
 cases h:(arP n).2 with
 | false=>rfl
 | true =>
   obtain ⟨hn,h6,hok⟩:=arP_ok h
   have hF:=(netOk_bR hn).2.2
   simp only [Bool.not_true,cond_false,if_true]
   have h1:∃ m:Nat,iter (M_bi n (true,(arP n).1)) N0 (0,0)=some (m:Int)∧m < 2 ^ 62∧∀ i:Nat,m.testBit i=inR n (arP n).1 i:=by
    obtain ⟨b,hb,hq⟩:=iter_inv (f:=M_bi n (true,(arP n).1)) (fun t=>∃ (k m:Nat),t=((m:Int),(k:Int))∧k≤(arP n).1.length∧m < 2 ^ 62∧∀ i:Nat,m.testBit i=inR n ((arP n).1.take k) i)
     (fun t=>(arP n).1.length - t.2.toNat) (fun b=>∃ m:Nat,b=(m:Int)∧m < 2 ^ 62∧∀ i:Nat,m.testBit i=inR n (arP n).1 i)
     (fun t ⟨k,m,e,hk,hm,hi⟩=>by
      subst e
      unfold M_bi
      by_cases hk2:k < (arP n).1.length
      · left
        have e1:decide ((k:Int) < ((arP n).1.length:Int))=true:=by simp [hk2]
        have e2:(arP n).1[k]?=some (arP n).1[k]:=List.getElem?_eq_getElem hk2
        obtain ⟨m2,c1,c2,c3⟩:=p_l17Cover hn (hok _ (List.getElem_mem hk2))
        simp only [e1,cond_true,Int.toNat_natCast,e2,Option.bind_some]
        rw [grd_t ⟨by omega,by omega⟩,Option.bind_some,c1,Option.bind_some,borT m m2 hm c2]
        refine ⟨_,rfl,⟨k+1,_,by rw [w64_eq (by omega) (by omega)]; rfl,by omega,Nat.or_lt_two_pow hm c2,fun i=>?_⟩,?_⟩
        · rw [Nat.testBit_or,hi i,c3 i]
          unfold inR
          rw [List.take_add_one,e2,List.any_append]
          simp
        · rw [w64_eq (by omega) (by omega)]
          simp only [Int.toNat_natCast]; omega
      · right
        have e1:decide ((k:Int) < ((arP n).1.length:Int))=false:=by simp; omega
        simp only [e1,cond_false]
        refine ⟨_,rfl,m,rfl,hm,fun i=>?_⟩
        have:=hi i
        rwa [List.take_of_length_le (by omega)] at this) N0 (0,0)
     ⟨0,0,rfl,by omega,by decide,fun i=>by simp [inR]⟩ (N0_lt (by simp; omega))
    obtain ⟨m,e,q1,q2⟩:=hq
    exact ⟨m,by rw [hb,e],q1,q2⟩
   obtain ⟨m,hm1,hm2,hm3⟩:=h1
   rw [hm1,Option.bind_some]
   have h2:iter (M_q n (m:Int)) N0 (0,[])=some (unP (fun i=>!inR n (arP n).1 i) n.Fibers.length):=by
    have:=iter_foldI (f:=M_q n (m:Int)) n.Fibers (fun i (a:List Int)=>((i:Int),a)) (fun i _ a=>if !m.testBit i then a++[(i:Int)] else a) id (fun i a=>a.length≤i) (fun i a x hx hI=>by
     have hlt:=(List.getElem?_eq_some_iff.1 hx).1
     have e1:decide ((i:Int) < (n.Fibers.length:Int))=true:=by simp [hlt]
     have w0:IntKind.wrap .u64 (i:Int)=(i:Int):=w64u_eq (by omega) (by omega)
     simp only [M_q,e1,cond_true,w0,Int.toNat_natCast,bnd]
     rw [grd_t (by omega),Option.bind_some,tbit0 m i (by omega) hm2]
     have w1:IntKind.wrap .i64 ((i:Int)+1)=((i+1:Nat):Int):=by rw [w64_eq (by omega) (by omega)]; rfl
     cases m.testBit i with
     | true=>simp only [Bool.not_true,cond_false,Bool.false_eq_true,if_false,w1]; exact ⟨by omega,trivial⟩
     | false =>
       simp only [Bool.not_false,cond_true,if_true,w1]
       rw [grd_t (by omega),Option.bind_some]
       exact ⟨by simp; omega,rfl⟩) (fun a _=>by simp [M_q]) [] (by simp) (by omega)
    refine Eq.trans this ?_
    simp only [id]
    congr 1
    rw [foldI_congr (g':=fun i _ a=>if !inR n (arP n).1 i then a++[(i:Int)] else a) n.Fibers 0 [] (fun i x hx=>by
     rw [Nat.zero_add,hm3 i]),foldI_unit]
    rfl
   rw [h2]; rfl
end Vs

namespace Vs
open Go
structure CurOk (c:Tl1Cur) (m:Nat):Prop where
 by8:∀ x∈c.code,0≤x∧x≤255
 len:c.code.length≤65536
 at0:0≤c.atF
 atm:c.atF≤(m:Int)
theorem and255 (x:Int):0≤bits .and .u64 x 255∧bits .and .u64 x 255≤255:=by
 have h:(BitVec.ofInt (IntKind.bits .u64) x &&& BitVec.ofInt (IntKind.bits .u64) 255).toNat≤255:=by
  rw [BitVec.toNat_and]
  exact Nat.le_trans Nat.and_le_right (by decide)
 unfold bits
 simp only
 generalize (BitVec.ofInt (IntKind.bits .u64) x &&& BitVec.ofInt (IntKind.bits .u64) 255).toNat=k at h
 have:IntKind.wrap .u64 (k:Int)=(k:Int):=by
  unfold IntKind.wrap
  simp [IntKind.bits,IntKind.signed]
  omega
 rw [this]; omega
theorem p_next {c:Tl1Cur} {m:Nat} (h:CurOk c m) (hm:m≤1000000000000):∃ b c',M_cf c=some (b,c')∧0≤b∧b≤255∧CurOk c' (m+1):=by
 obtain ⟨h1,h2,h3,h4⟩:=h
 have hb:∃ b,(cond (decide (c.atF < (c.code.length:Int))) ((geti c.code c.atF).bind fun yZ2=>some (IntKind.wrap .i64 yZ2)) (some 0):Option Int)=some b∧0≤b∧b≤255:=by
  by_cases e:c.atF < (c.code.length:Int)
  · rw [decide_eq_true e,cond_true]
    have hlt:c.atF.toNat < c.code.length:=by omega
    have hg:geti c.code c.atF=some c.code[c.atF.toNat]:=by
     unfold geti; rw [if_pos h3]; exact List.getElem?_eq_getElem hlt
    have:=h1 _ (List.getElem_mem hlt)
    rw [hg]
    refine ⟨c.code[c.atF.toNat],?_,this.1,this.2⟩
    simp only [Option.bind_some]
    rw [w64_eq (by omega) (by omega)]
  · rw [decide_eq_false e,cond_false]; exact ⟨0,rfl,by omega,by omega⟩
 obtain ⟨b,b1,b2,b3⟩:=hb
 unfold M_cf
 rw [b1]
 simp only [Option.bind_some]
 rw [w64_eq (n:=c.atF+1) (by omega) (by omega)]
 by_cases e:c.atF+1≤(c.code.length:Int)
 · rw [decide_eq_true e,cond_true]
   exact ⟨_,_,rfl,b2,b3,⟨h1,h2,by simp only; omega,by simp only; omega⟩⟩
 · rw [decide_eq_false e,cond_false]
   have h5:=and255 (Int.fdiv (IntKind.wrap .u64 ((IntKind.wrap .u64 ((IntKind.wrap .u64 (c.seed * 6364136223846793005))+(IntKind.wrap .u64 b)))+897897)) (2 ^ (min (Int.toNat 40) (IntKind.bits .u64))))
   refine ⟨_,_,rfl,?_,?_,⟨h1,h2,by simp only; omega,by simp only; omega⟩⟩
   · rw [w64_eq (by omega) (by omega)]; exact h5.1
   · rw [w64_eq (by omega) (by omega)]; exact h5.2
theorem p_pick {c:Tl1Cur} {m:Nat} (n:Int) (h:CurOk c m) (hm:m≤100000000000):∃ x c',M_a n c=some (x,c')∧0≤x∧(x < n∨x=0)∧CurOk c' (m+2):=by
 unfold M_a
 by_cases e:n≤1
 · rw [decide_eq_true e,cond_true]
   exact ⟨0,c,rfl,by omega,.inr rfl,⟨h.by8,h.len,h.at0,by have:=h.atm; omega⟩⟩
 · rw [decide_eq_false e,cond_false]
   obtain ⟨b,c1,g1,g2,g3,g4⟩:=p_next h (by omega)
   rw [g1]
   simp only [Option.bind_some]
   by_cases e2:200 < n
   · rw [decide_eq_true e2,cond_true]
     obtain ⟨b',c2,k1,k2,k3,k4⟩:=p_next g4 (by omega)
     rw [k1]
     simp only [Option.bind_some]
     rw [grd_t (by omega)]
     simp only [Option.bind_some]
     refine ⟨_,_,rfl,?_,.inl ?_,k4⟩
     · rw [w64_eq (n:=b * 256) (by omega) (by omega),w64_eq (by omega) (by omega)]
       exact Int.tmod_nonneg _ (by omega)
     · exact Int.tmod_lt_of_pos _ (by omega)
   · rw [decide_eq_false e2,cond_false,grd_t (by omega)]
     simp only [Option.bind_some]
     exact ⟨_,_,rfl,Int.tmod_nonneg _ g2,.inl (Int.tmod_lt_of_pos _ (by omega)),⟨g4.by8,g4.len,g4.at0,by have:=g4.atm; omega⟩⟩
theorem CurOk.up {c:Tl1Cur} {m k:Nat} (h:CurOk c m) (hk:m≤k):CurOk c k:=⟨h.by8,h.len,h.at0,by have:=h.atm; omega⟩
theorem p_one {c:Tl1Cur} {m:Nat} (n:Int) (h:CurOk c m) (hm:m≤100000000000):∃ b c',M_ct n c=some (b,c')∧CurOk c' (m+2):=by
 obtain ⟨x,c1,g1,g2,g3,g4⟩:=p_pick n h hm
 unfold M_ct
 rw [g1]
 exact ⟨_,_,rfl,g4⟩
theorem p_amongL {c:Tl1Cur} {m:Nat} (l:List Int) (h:CurOk c m) (hm:m≤100000000000) (hl:0 < l.length):∃ x c',M_br c l=some (x,c',l)∧x∈l∧CurOk c' (m+2):=by
 obtain ⟨i,c1,g1,g2,g3,g4⟩:=p_pick (l.length:Int) h hm
 unfold M_br
 rw [g1]
 simp only [Option.bind_some]
 have hi:i.toNat < l.length:=by omega
 rw [grd_t (by omega)]
 simp only [Option.bind_some,List.getElem?_eq_getElem hi]
 exact ⟨_,_,rfl,List.getElem_mem hi,g4⟩
theorem p_ofL {c:Tl1Cur} {m:Nat} (l:List ByteArray) (h:CurOk c m) (hm:m≤100000000000) (hl:0 < l.length):∃ x c',M_db c l=some (x,c',l)∧x∈l∧CurOk c' (m+2):=by
 obtain ⟨i,c1,g1,g2,g3,g4⟩:=p_pick (l.length:Int) h hm
 unfold M_db
 rw [g1]
 simp only [Option.bind_some]
 have hi:i.toNat < l.length:=by omega
 rw [grd_t (by omega)]
 simp only [Option.bind_some,List.getElem?_eq_getElem hi]
 exact ⟨_,_,rfl,List.getElem_mem hi,g4⟩
end Vs

namespace Vs
open Go
theorem p_beforeT (f g:TFiber):∃ r,M_bx f g=some r:=by
 unfold M_bx
 cases (f.A != g.A)
 · cases (f.B != g.B)
   · cases (f.Length != g.Length) <;> exact ⟨_,rfl⟩
   · exact ⟨_,rfl⟩
 · exact ⟨_,rfl⟩
theorem p_least (a b:Int):∃ r,M_bq a b=some r:=by
 unfold M_bq
 cases decide (a < b) <;> exact ⟨_,rfl⟩
theorem p_most (a b:Int):∃ r,M_cg a b=some r∧a≤r∧b≤r∧(r=a∨r=b):=by
 unfold M_cg
 by_cases h:b < a
 · rw [decide_eq_true h,cond_true]; exact ⟨a,rfl,by omega,by omega,.inl rfl⟩
 · rw [decide_eq_false h,cond_false]; exact ⟨b,rfl,by omega,by omega,.inr rfl⟩
theorem p_l2Put (l:List TFiber) (f:TFiber) (hl:l.length≤1048576):∃ l',M_ch l f=some l'∧l'.length=l.length+1:=by
 obtain ⟨o,o1,i,rfl,o3⟩:=iter_inv (f:=M_s l f) (fun s=>∃ i:Nat,s=i∧i≤l.length) (fun s=>l.length - s.toNat) (fun o=>∃ i:Nat,o=(i:Int)∧i≤l.length) (fun s hI=>by
  obtain ⟨i,rfl,hi⟩:=hI
  by_cases h:i < l.length
  · obtain ⟨r,hr⟩:=p_beforeT l[i] f
    simp only [M_s,decide_eq_true (show (i:Int) < (l.length:Int) by omega),cond_true,geti_nat,List.getElem?_eq_getElem h,Option.bind_some,hr]
    by_cases h2:r≤0
    · left
      rw [decide_eq_true h2,cond_true,w64_eq (n:=(i:Int)+1) (by omega) (by omega)]
      exact ⟨_,rfl,⟨i+1,by simp,by omega⟩,by omega⟩
    · right
      rw [decide_eq_false h2,cond_false]
      exact ⟨_,rfl,i,rfl,hi⟩
  · right
    simp only [M_s,decide_eq_false (show ¬ (i:Int) < (l.length:Int) by omega),cond_false]
    exact ⟨_,rfl,i,rfl,hi⟩) N0 0 ⟨0,rfl,by omega⟩ (N0_lt (by omega))
 unfold M_ch
 rw [o1]
 simp only [Option.bind_some,slT,slF,Int.toNat_natCast,bnd]
 rw [if_pos ⟨by omega,o3⟩,if_pos ⟨by omega,o3⟩]
 simp only [Option.bind_some]
 rw [grd_t (by simp; omega),]
 simp only [Option.bind_some]
 rw [grd_t (by simp; omega)]
 simp only [Option.bind_some]
 rw [grd_t (by simp; omega)]
 exact ⟨_,rfl,by simp; omega⟩
theorem net_step1 {c:Tl1Cur} {m:Nat} (x:Int) (c0:Tl1Cur) (hx:0≤x∧x < 5) (i:Int) (hi:0≤i∧i < 2+x) (fs:List TFiber) (hf:fs.length≤1000) (h:CurOk c m) (hm:m≤10000000000) :
 ∃ fs' c',M_k (x,c0) (i,fs,c)=some (.inl (i+1,fs',c'))∧fs'.length≤fs.length+1∧CurOk c' (m+6):=by
 obtain ⟨b,c1,hb,hc⟩:∃ b c1,(cond (i==Int.tmod (i+1) (2+x)) (some (true,c)) ((M_ct 10 c).bind fun rZ10=>some (rZ10.1,rZ10.2)):Option (Bool×Tl1Cur))=some (b,c1)∧CurOk c1 (m+2):=by
  cases (i==Int.tmod (i+1) (2+x))
  · obtain ⟨b,c1,g1,g2⟩:=p_one 10 h (by omega)
    exact ⟨b,c1,by rw [cond_false,g1]; rfl,g2⟩
  · exact ⟨true,c,rfl,h.up (by omega)⟩
 simp only [M_k,w64_eq (n:=2+x) (by omega) (by omega),w64_eq (n:=i+1) (by omega) (by omega),decide_eq_true hi.2,cond_true,grd_t (show (2+x) ≠ 0 by omega),Option.bind_some,hb]
 cases b with
 | true=>exact ⟨fs,c1,rfl,by omega,hc.up (by omega)⟩
 | false =>
   obtain ⟨a1,ha1⟩:=p_least i (Int.tmod (i+1) (2+x))
   obtain ⟨a2,ha2,_⟩:=p_most i (Int.tmod (i+1) (2+x))
   obtain ⟨x8,c2,g1,g2,g3,g4⟩:=p_pick 8 hc (by omega)
   obtain ⟨rk,c3,k1,k2,k3⟩:=p_amongL [0,0,0,1,2] g4 (by omega) (by simp)
   obtain ⟨l',l1,l2⟩:=p_l2Put fs ⟨a1,a2,IntKind.wrap .i64 (100 * (IntKind.wrap .i64 (1+x8))),rk⟩ (by omega)
   simp only [cond_false,ha1,ha2,g1,bnd,k1,l1,Option.bind_some]
   exact ⟨l',c3,rfl,by omega,k3.up (by omega)⟩
theorem net_step2 {c:Tl1Cur} {m:Nat} (x:Int) (c0:Tl1Cur) (hx:0≤x∧x < 5) (i:Int) (hi:0 < i∧i≤10) (fs:List TFiber) (hf:fs.length≤1000) (h:CurOk c m) (hm:m≤10000000000) :
 ∃ fs' c',M_l (x,c0) (i,fs,c)=some (.inl (i - 1,fs',c'))∧fs'.length≤fs.length+1∧CurOk c' (m+8):=by
 obtain ⟨p,c1,p1,p2,p3,p4⟩:=p_pick (2+x) h (by omega)
 obtain ⟨q,c2,q1,q2,q3,q4⟩:=p_pick (2+x) p4 (by omega)
 simp only [M_l,w64_eq (n:=2+x) (by omega) (by omega),w64_eq (n:=i - 1) (by omega) (by omega),decide_eq_true hi.1,cond_true,Option.bind_some,p1,q1]
 cases (p != q) with
 | false=>exact ⟨fs,c2,rfl,by omega,q4.up (by omega)⟩
 | true =>
   obtain ⟨a1,ha1⟩:=p_least p q
   obtain ⟨a2,ha2,_⟩:=p_most p q
   obtain ⟨x8,c2',g1,g2,g3,g4⟩:=p_pick 8 q4 (by omega)
   obtain ⟨rk,c3,k1,k2,k3⟩:=p_amongL [0,0,0,1,2] g4 (by omega) (by simp)
   obtain ⟨l',l1,l2⟩:=p_l2Put fs ⟨a1,a2,IntKind.wrap .i64 (100 * (IntKind.wrap .i64 (1+x8))),rk⟩ (by omega)
   simp only [cond_true,ha1,ha2,g1,bnd,k1,l1,Option.bind_some]
   exact ⟨l',c3,rfl,by omega,k3.up (by omega)⟩
theorem p_network {c:Tl1Cur} {m:Nat} (h:CurOk c m) (hm:m≤1000000000):∃ (K:Nat) (nodes:List ByteArray) (fs:List TFiber) (c':Tl1Cur),M_da c=some (0,K,nodes,fs,c')∧2≤K∧K≤6∧nodes.length=6∧(∀ s∈nodes,s.size≤9)∧fs.length≤9∧CurOk c' (m+100):=by
 obtain ⟨x,c1,x1,x2,x3,x4⟩:=p_pick 5 h (by omega)
 have hx:0≤x∧x < 5:=by omega
 obtain ⟨⟨f1,c2⟩,o1,o2,o3⟩:=iter_inv (f:=M_k (x,c1)) (fun s=>0≤s.1∧s.1≤2+x∧(s.2.1.length:Int)≤s.1∧CurOk s.2.2 (m+2+6 * s.1.toNat)) (fun s=>(2+x - s.1).toNat) (fun o=>o.1.length≤6∧CurOk o.2 (m+38)) (fun s hI=>by
  obtain ⟨j,l,cc⟩:=s
  obtain ⟨i1,i2,i3,i4⟩:=hI
  simp only at i1 i2 i3 i4
  by_cases hj:j < 2+x
  · left
    obtain ⟨fs',c',g1,g2,g3⟩:=net_step1 x c1 hx j ⟨i1,hj⟩ l (by omega) i4 (by omega)
    exact ⟨_,g1,⟨by simp only; omega,by simp only; omega,by simp only; omega,g3.up (by simp only; omega)⟩,by simp only; omega⟩
  · right
    refine ⟨(l,cc),?_,by simp only; omega,i4.up (by omega)⟩
    simp only [M_k,w64_eq (n:=2+x) (by omega) (by omega),decide_eq_false hj,cond_false]) N0 (0,[],c1) ⟨by simp,by simp only; omega,by simp,x4.up (by simp)⟩ (N0_lt (by simp only; omega))
 simp only at o2 o3
 obtain ⟨y,c3,y1,y2,y3,y4⟩:=p_pick 4 o3 (by omega)
 have hy:0≤y∧y < 4:=by omega
 obtain ⟨⟨f2,c4⟩,q1,q2,q3⟩:=iter_inv (f:=M_l (x,c1)) (fun s=>0≤s.1∧s.1≤3∧(s.2.1.length:Int)≤9 - s.1∧CurOk s.2.2 (m+40+8 * (3 - s.1.toNat))) (fun s=>s.1.toNat) (fun o=>o.1.length≤9∧CurOk o.2 (m+64)) (fun s hI=>by
  obtain ⟨j,l,cc⟩:=s
  obtain ⟨i1,i2,i3,i4⟩:=hI
  simp only at i1 i2 i3 i4
  by_cases hj:0 < j
  · left
    obtain ⟨fs',c',g1,g2,g3⟩:=net_step2 x c1 hx j ⟨hj,by omega⟩ l (by omega) i4 (by omega)
    exact ⟨_,g1,⟨by simp only; omega,by simp only; omega,by simp only; omega,g3.up (by simp only; omega)⟩,by simp only; omega⟩
  · right
    refine ⟨(l,cc),?_,by simp only; omega,i4.up (by omega)⟩
    simp only [M_l,decide_eq_false hj,cond_false]) N0 (y,f1,c3) ⟨by simp only; omega,by simp only; omega,by simp only; omega,y4.up (by simp only; omega)⟩ (N0_lt (by simp only; omega))
 simp only at q2 q3
 unfold M_da
 simp only [x1,Option.bind_some,bnd,w64_eq (n:=2+x) (by omega) (by omega)]
 rw [grd_t ⟨trivial,by omega,trivial,by omega⟩]
 simp only [Option.bind_some,o1,y1,q1]
 exact ⟨_,_,_,_,rfl,by omega,by omega,rfl,by decide,q2,q3.up (by omega)⟩
structure NetD (K:Nat) (nodes:List ByteArray) (fs:List TFiber):Prop where
 k1:1≤K
 k:K≤nodes.length
 n:nodes.length≤10
 z:∀ s∈nodes,s.size≤9
 f:fs.length≤15
theorem any_loop {c:Tl1Cur} {m:Nat} (fs:List TFiber) (h0:0 < fs.length) (h9:fs.length≤9) (h:CurOk c m) (hm:m≤10000000000):∃ fs' c',iter M_ar N0 (fs,c)=some (fs',c')∧fs'.length≤15∧CurOk c' (m+100):=by
 obtain ⟨⟨f2,c4⟩,q1,q2,q3⟩:=iter_inv (f:=M_ar) (fun s=>0 < s.1.length∧s.1.length≤15∧CurOk s.2 (m+2 * s.1.length)) (fun s=>16 - s.1.length) (fun o=>o.1.length≤15∧CurOk o.2 (m+100)) (fun s hI=>by
  obtain ⟨l,cc⟩:=s
  obtain ⟨i1,i2,i3⟩:=hI
  simp only at i1 i2 i3
  obtain ⟨x,c1,x1,x2,x3,x4⟩:=p_pick 2 i3 (by omega)
  simp only [M_ar,x1,Option.bind_some,w64_eq (n:=14+x) (by omega) (by omega),w64_eq (n:=(l.length:Int) - 1) (by omega) (by omega)]
  by_cases hj:(l.length:Int) < 14+x
  · left
    have e:((l.length:Int) - 1).toNat < l.length:=by omega
    rw [decide_eq_true hj,cond_true,grd_t (by omega)]
    simp only [Option.bind_some,List.getElem?_eq_getElem e,bnd]
    rw [grd_t (by omega)]
    exact ⟨_,rfl,⟨by simp,by simp only [List.length_append,List.length_cons,List.length_nil]; omega,x4.up (by simp only [List.length_append,List.length_cons,List.length_nil]; omega)⟩,by simp only [List.length_append,List.length_cons,List.length_nil]; omega⟩
  · right
    rw [decide_eq_false hj,cond_false]
    exact ⟨_,rfl,by simp only; omega,x4.up (by omega)⟩) N0 (fs,c) ⟨by simp only; omega,by simp only; omega,h.up (by omega)⟩ (N0_lt (by simp only; omega))
 exact ⟨f2,c4,q1,q2,q3⟩
theorem subT_pre {α:Type} (xs:List α) (k:Nat) (h:k≤xs.length):subT xs 0 k=xs.take k:=by
 rw [subT_drop]; simp
theorem p_anyNetwork {c:Tl1Cur} {m:Nat} (h:CurOk c m) (hm:m≤1000000000):∃ (K:Nat) (nodes:List ByteArray) (fs:List TFiber) (c':Tl1Cur),M_dc c=some (0,K,nodes,fs,c')∧NetD K nodes fs∧CurOk c' (m+300):=by
 obtain ⟨K,nodes,fs,c1,n1,n2,n3,n4,n5,n6,n7⟩:=p_network h (by omega)
 have hD:NetD K nodes fs:=⟨by omega,by omega,by omega,n5,by omega⟩
 unfold M_dc
 simp only [n1,Option.bind_some]
 by_cases h0:fs.length=0
 · rw [show ((fs.length:Int)==0)=true by simp [h0],cond_true]
   exact ⟨_,_,_,_,rfl,hD,n7.up (by omega)⟩
 rw [show ((fs.length:Int)==0)=false by simp; exact fun e=>h0 (by simp [e]),cond_false]
 obtain ⟨i,c2,i1,i2,i3,i4⟩:=p_pick (fs.length:Int) n7 (by omega)
 have hi:i.toNat < fs.length:=by omega
 obtain ⟨r,c3,r1,r2,r3,r4⟩:=p_pick 24 i4 (by omega)
 simp only [i1,Option.bind_some]
 rw [grd_t (by omega)]
 simp only [Option.bind_some,List.getElem?_eq_getElem hi,r1]
 have fin:∀ (K':Nat) (f:TFiber) (nodes':List ByteArray) (fs':List TFiber) (c':Tl1Cur),NetD K' nodes' fs'→i.toNat < fs'.length→CurOk c' (m+300) →
  ∃ (K'':Nat) (nodes'':List ByteArray) (fs'':List TFiber) (c'':Tl1Cur),((grd (0≤i∧i < (fs'.length:Int))).bind fun _=>(fs'[(Int.toNat i)]?).bind fun _=>bnd (fs'.set (Int.toNat i) f) fun l=>some ((0:Nat),K',nodes',l,c'))=some (0,K'',nodes'',fs'',c'')∧NetD K'' nodes'' fs''∧CurOk c'' (m+300):=by
  intro K' f nodes' fs' c' hD' hi' hc'
  rw [grd_t (by omega)]
  simp only [Option.bind_some,List.getElem?_eq_getElem hi',bnd]
  exact ⟨_,_,_,_,rfl,⟨hD'.k1,hD'.k,hD'.n,hD'.z,by rw [List.length_set]; exact hD'.f⟩,hc'⟩
 rcases bt (r==0) with e | e
 · obtain ⟨x,c4,k1,k2,k3⟩:=p_ofL [(⟨#[98]⟩:ByteArray),(⟨#[]⟩:ByteArray),(⟨#[65]⟩:ByteArray),(⟨#[97,98,99,100,101,102,103,104]⟩:ByteArray),(⟨#[97,98,99,100,101,102,103,104,105]⟩:ByteArray),(⟨#[120,49]⟩:ByteArray)] r4 (by omega) (by simp)
   have hx:x.size≤9:=(show ∀ s∈[(⟨#[98]⟩:ByteArray),(⟨#[]⟩:ByteArray),(⟨#[65]⟩:ByteArray),(⟨#[97,98,99,100,101,102,103,104]⟩:ByteArray),(⟨#[97,98,99,100,101,102,103,104,105]⟩:ByteArray),(⟨#[120,49]⟩:ByteArray)],s.size≤9 by decide) x k2
   have h00:0+Int.toNat 0 < nodes.length:=by simp; omega
   simp only [e,cond_true,bnd,k1,Option.bind_some]
   rw [grd_t (by omega)]
   simp only [Option.bind_some,List.getElem?_eq_getElem h00]
   refine fin _ _ _ _ _ ⟨by omega,by rw [List.length_set]; omega,by rw [List.length_set]; omega,fun s hs=>?_,by omega⟩ hi (k3.up (by omega))
   rcases List.mem_or_eq_of_mem_set hs with h1 | h1
   · exact n5 s h1
   · rw [h1]; exact hx
 rw [e,cond_false]
 rcases bt (r==1) with e | e
 · obtain ⟨x,c4,k1,k2,k3,k4⟩:=p_pick 8 r4 (by omega)
   simp only [e,cond_true,k1,Option.bind_some]
   exact fin _ _ _ _ _ hD hi (k4.up (by omega))
 rw [e,cond_false]
 rcases bt (r==2) with e | e
 · obtain ⟨x,c4,k1,k2,k3,k4⟩:=p_pick 10 r4 (by omega)
   simp only [e,cond_true,k1,Option.bind_some]
   exact fin _ _ _ _ _ hD hi (k4.up (by omega))
 rw [e,cond_false]
 rcases bt (r==3) with e | e
 · obtain ⟨x,c4,k1,k2,k3⟩:=p_amongL [0,1,5000,5001] r4 (by omega) (by simp)
   simp only [e,cond_true,bnd,k1,Option.bind_some]
   exact fin _ _ _ _ _ hD hi (k3.up (by omega))
 rw [e,cond_false]
 rcases bt (r==4) with e | e
 · obtain ⟨x,c4,k1,k2,k3⟩:=p_amongL [(-1),9,10] r4 (by omega) (by simp)
   simp only [e,cond_true,bnd,k1,Option.bind_some]
   exact fin _ _ _ _ _ hD hi (k3.up (by omega))
 rw [e,cond_false]
 rcases bt (r==5) with e | e
 · have h00:Int.toNat 0 < fs.length:=by simp; omega
   simp only [e,cond_true]
   rw [grd_t (by omega)]
   simp only [Option.bind_some,List.getElem?_eq_getElem h00,bnd]
   rw [grd_t (by omega)]
   exact fin K _ nodes (fs++[fs[Int.toNat 0]]) _ ⟨hD.k1,hD.k,hD.n,hD.z,by simp; omega⟩ (by simp; omega) (r4.up (by omega))
 rw [e,cond_false]
 rcases bt (r==6) with e | e
 · obtain ⟨fs',c4,k1,k2,k3⟩:=any_loop fs (by omega) n6 r4 (by omega)
   simp only [e,cond_true,k1,Option.bind_some]
   exact ⟨_,_,_,_,rfl,⟨by omega,by omega,by omega,n5,k2⟩,k3.up (by omega)⟩
 rw [e,cond_false]
 rcases bt (r==7) with e | e
 · simp only [e,cond_true,bnd,subT_pre nodes K hD.k]
   rw [grd_t (by omega)]
   simp only [Option.bind_some]
   refine fin _ _ _ _ _ ⟨by simp,(by simp only [List.length_append,List.length_take,List.length_cons,List.length_nil]; have:=hD.k; omega),by simp; omega,fun s hs=>?_,by omega⟩ hi (r4.up (by omega))
   rcases List.mem_append.1 hs with h1 | h1
   · exact n5 s (List.mem_of_mem_take h1)
   · exact (show ∀ s∈[(⟨#[112]⟩:ByteArray),(⟨#[113]⟩:ByteArray),(⟨#[114]⟩:ByteArray),(⟨#[115]⟩:ByteArray)],s.size≤9 by decide) s h1
 rw [e,cond_false]
 exact fin _ _ _ _ _ hD hi (r4.up (by omega))
end Vs

namespace Vs
open Go
def Wlk (n:TNetwork):Int→List Int→List Int→Int→Prop
 | a,[],[],b=>a=b
 | a,e::es,v::vs,b=>(0≤e∧e < n.Fibers.length)∧othI n e a=v∧0≤v∧Wlk n v es vs b
 | _,_,_,_=>False
theorem oth_sym {n:TNetwork} (hn:netOk n=true) {e a:Int} (he:0≤e∧e < n.Fibers.length) (h0:0≤othI n e a):othI n e (othI n e a)=a∧0≤a∧a < n.Nodes.length∧othI n e a < n.Nodes.length∧othI n e a ≠ a ∧
 ∃ f,n.Fibers[e.toNat]?=some f∧(a=f.A∧othI n e a=f.B∨a=f.B∧othI n e a=f.A):=by
 obtain ⟨i,rfl⟩:=Int.eq_ofNat_of_zero_le he.1
 have hi:i < n.Fibers.length:=by omega
 obtain ⟨h1,f,h2,h3,h4⟩:=oth_rng hn (i:=i) hi (a:=a) h0
 have hk:=netOk_fibR hn h2
 have:=hk.a0; have:=hk.ab; have:=hk.bm
 have hval:∀ x,othI n (i:Int) x=otherP f x:=fun x=>by
  unfold othI; rw [Int.toNat_natCast,h2]
 refine ⟨?_,?_,?_,h1,?_,f,by rw [Int.toNat_natCast]; exact h2,h4⟩
 · rcases h4 with ⟨e1,e2⟩ | ⟨e1,e2⟩
   · rw [e2,hval]; unfold otherP; rw [if_neg (by omega),if_pos rfl,e1]
   · rw [e2,hval]; unfold otherP; rw [if_pos rfl,e1]
 · rcases h4 with ⟨e1,e2⟩ | ⟨e1,e2⟩ <;> omega
 · rcases h4 with ⟨e1,e2⟩ | ⟨e1,e2⟩ <;> omega
 · rcases h4 with ⟨e1,e2⟩ | ⟨e1,e2⟩ <;> omega
theorem wlk_app {n:TNetwork} {c:Int}:∀ {es vs es' vs':List Int} {a b:Int},Wlk n a es vs b→Wlk n b es' vs' c→Wlk n a (es++es') (vs++vs') c
 | [], [], _, _, a, b, h, h' => by
   have:a=b:=h
   subst this; exact h'
 | e::es,v::vs,_,_,a,b,h,h'=>⟨h.1,h.2.1,h.2.2.1,wlk_app h.2.2.2 h'⟩
 | [],_::_,_,_,_,_,h,_=>h.elim
 | _::_,[],_,_,_,_,h,_=>h.elim
theorem wlk_len {n:TNetwork}:∀ {es vs:List Int} {a b:Int},Wlk n a es vs b→es.length=vs.length
 | [],[],_,_,_=>rfl
 | _::_,_::_,_,_,h=>by simp [wlk_len h.2.2.2]
 | [],_::_,_,_,h=>h.elim
 | _::_,[],_,_,h=>h.elim
theorem wlk_last {n:TNetwork}:∀ {es vs:List Int} {a b:Int},Wlk n a es vs b→∃ u,a::vs=u++[b]
 | [],[],a,b,h=>⟨[],by have:a=b:=h; subst this; rfl⟩
 | _ :: _, v :: vs, a, b, h => by
   obtain ⟨u,hu⟩:=wlk_last h.2.2.2
   exact ⟨a::u,by rw [hu]; rfl⟩
 | [],_::_,_,_,h=>h.elim
 | _::_,[],_,_,h=>h.elim
theorem wlk_split {n:TNetwork} {x:Int}:∀ {es vs:List Int} {a b:Int},Wlk n a es vs b→x∈a::vs→∃ es1 vs1 es2 vs2,es=es1++es2∧vs=vs1++vs2∧Wlk n a es1 vs1 x∧Wlk n x es2 vs2 b
 | es, vs, a, b, h, hx => by
   by_cases e:x=a
   · subst e; exact ⟨[],[],es,vs,rfl,rfl,rfl,h⟩
   · match es,vs,h with
     | [], [], h =>
       rw [List.mem_singleton] at hx
       exact absurd hx e
     | e1 :: es, v :: vs, h =>
       have hx':x∈v::vs:=(List.mem_cons.1 hx).resolve_left e
       obtain ⟨es1,vs1,es2,vs2,h1,h2,h3,h4⟩:=wlk_split h.2.2.2 hx'
       exact ⟨e1::es1,v::vs1,es2,vs2,by rw [h1]; rfl,by rw [h2]; rfl,⟨h.1,h.2.1,h.2.2.1,h3⟩,h4⟩
termination_by es=>es.length
theorem wlk_rev {n:TNetwork} (hn:netOk n=true):∀ {es vs:List Int} {a b:Int},Wlk n a es vs b→∃ vs',Wlk n b es.reverse vs' a∧b::vs'=(a::vs).reverse
 | [], [], a, b, h => by
   have:a=b:=h
   subst this
   exact ⟨[],rfl,rfl⟩
 | e :: es, v :: vs, a, b, h => by
   obtain ⟨he,h1,h2,h3⟩:=h
   obtain ⟨vs1,w1,w2⟩:=wlk_rev hn h3
   obtain ⟨s1,s2,_⟩:=oth_sym hn he (a:=a) (by rw [h1]; exact h2)
   rw [h1] at s1
   refine ⟨vs1++[a],?_,?_⟩
   · rw [List.reverse_cons]
     exact wlk_app w1 ⟨he,s1,s2,rfl⟩
   · rw [List.reverse_cons,← w2]; rfl
 | [],_::_,_,_,h=>h.elim
 | _::_,[],_,_,h=>h.elim
theorem wlk_ends {n:TNetwork} {e:Int}:∀ {es vs:List Int} {a b:Int},Wlk n a es vs b→e∈es→∃ x,x∈a::vs∧othI n e x∈a::vs∧0≤othI n e x∧0≤e∧e < n.Fibers.length
 | e1 :: es, v :: vs, a, b, h, he => by
   rcases List.mem_cons.1 he with rfl | he
   · exact ⟨a,List.mem_cons_self,by rw [h.2.1]; exact List.mem_cons_of_mem _ List.mem_cons_self,by rw [h.2.1]; exact h.2.2.1,h.1.1,h.1.2⟩
   · obtain ⟨x,h1,h2,h3⟩:=wlk_ends h.2.2.2 he
     exact ⟨x,List.mem_cons_of_mem _ h1,List.mem_cons_of_mem _ h2,h3⟩
 | [],[],_,_,_,he=>by cases he
 | [],_::_,_,_,h,_=>h.elim
 | _::_,[],_,_,h,_=>h.elim
theorem wlk_nodup {n:TNetwork} (hn:netOk n=true):∀ {es vs:List Int} {a b:Int},Wlk n a es vs b→(a::vs).Nodup→es.Nodup
 | [],_,_,_,_,_=>List.nodup_nil
 | e :: es, v :: vs, a, b, h, hd => by
   rw [List.nodup_cons] at hd
   rw [List.nodup_cons]
   refine ⟨fun he=>?_,wlk_nodup hn h.2.2.2 hd.2⟩
   obtain ⟨x,h1,h2,h3,_⟩:=wlk_ends h.2.2.2 he
   obtain ⟨s1,s2,s3,s4,s5,f,f1,f2⟩:=oth_sym hn h.1 (a:=a) (by rw [h.2.1]; exact h.2.2.1)
   obtain ⟨t1,t2,t3,t4,t5,g,g1,g2⟩:=oth_sym hn h.1 (a:=x) h3
   rw [f1] at g1
   cases g1
   have hk:x=a∨othI n e x=a:=by
    rcases f2 with ⟨q1,q2⟩ | ⟨q1,q2⟩ <;> rcases g2 with ⟨r1,r2⟩ | ⟨r1,r2⟩
    · left; omega
    · right; omega
    · right; omega
    · left; omega
   rcases hk with hk | hk
   · rw [hk] at h1; exact hd.1 h1
   · rw [hk] at h2; exact hd.1 h2
 | _::_,[],_,_,h,_=>h.elim
theorem dfs_finds {n:TNetwork} (hn:netOk n=true) {s:Int}:∀ (ws:List Int) (k:Nat) {a:Int} {p q es:List Int},InvD n s a p q→s∈q→q.length+k=n.Nodes.length→Wlk n a es (ws++[s]) s→(q++ws).Nodup→(∀ x∈ws,s≤x) →
 (p++es).Nodup→2≤(p++es).length→lexB (p++es) (p++es).reverse=true→p++es∈dfsD n s k a p q
 | [], k, a, p, q, es, hI, hs, hk, hw, hd, hge, he, hl, hx => by
   match es,hw with
   | [e], hw =>
     obtain ⟨h1,h2,h3,_⟩:=hw
     obtain ⟨i,rfl⟩:=Int.eq_ofNat_of_zero_le h1.1
     have hi:i < n.Fibers.length:=by omega
     have hep:(i:Int) ∉ p:=fun h=>by
      rw [List.nodup_append] at he
      exact he.2.2 _ h _ (List.mem_singleton.2 rfl) rfl
     have hst:p++[(i:Int)]∈stepD n s (match k with | 0=>fun _ _ _=>[] | k+1=>dfsD n s k) a p q i:=by
      unfold stepD
      rw [if_neg (fun h=>by rcases h with h | h; omega; exact hep h),if_pos h2,if_pos ⟨hl,hx⟩]
      exact List.mem_singleton.2 rfl
     cases k with
     | zero=>exact List.mem_flatMap.2 ⟨i,List.mem_range.2 hi,hst⟩
     | succ k=>exact List.mem_flatMap.2 ⟨i,List.mem_range.2 hi,hst⟩
   | [],hw=>exact hw.elim
   | e::e2::es,hw=>exact absurd (wlk_len hw) (by simp)
 | v :: ws, k, a, p, q, es, hI, hs, hk, hw, hd, hge, he, hl, hx => by
   match es,hw with
   | e :: es, hw =>
     obtain ⟨h1,h2,h3,h4⟩:=hw
     obtain ⟨i,rfl⟩:=Int.eq_ofNat_of_zero_le h1.1
     have hi:i < n.Fibers.length:=by omega
     have hep:(i:Int) ∉ p:=fun h=>by
      rw [List.nodup_append] at he
      exact he.2.2 _ h _ List.mem_cons_self rfl
     have hvq:othI n (i:Int) a ∉ q:=fun h=>by
      rw [List.nodup_append] at hd
      exact hd.2.2 _ h _ List.mem_cons_self h2
     have hvs:othI n (i:Int) a ≠ s:=fun h=>hvq (h ▸ hs)
     have hvge:¬ othI n (i:Int) a < s:=by
      have:=hge v List.mem_cons_self
      omega
     have hE:=hI.ext hn hi hep hvge hvs hvq
     have hle:=hE.le
     rw [List.length_append,List.length_singleton] at hle
     obtain ⟨k',rfl⟩:∃ k',k=k'+1:=⟨k - 1,by omega⟩
     have hrec:=dfs_finds hn ws k' (es:=es) hE (List.mem_append_left _ hs) (by rw [List.length_append,List.length_singleton]; omega) (by rw [h2]; exact h4) (by rw [h2,List.append_assoc]; exact hd) (fun x hx=>hge x (List.mem_cons_of_mem _ hx))
      (by rw [List.append_assoc]; exact he) (by rw [List.append_assoc]; exact hl) (by rw [List.append_assoc]; exact hx)
     rw [List.append_assoc] at hrec
     refine List.mem_flatMap.2 ⟨i,List.mem_range.2 hi,?_⟩
     unfold stepD
     rw [if_neg (fun h=>by rcases h with h | h; exact hvge h; exact hep h),if_neg hvs,if_neg hvq]
     exact hrec
   | [],hw=>exact hw.elim
theorem ring_of_walk {n:TNetwork} (hn:netOk n=true) {i:Nat} (hi:i < n.Fibers.length) {f:TFiber} (hf:n.Fibers[i]?=some f) {es vs:List Int} (hw:Wlk n f.A es vs f.B) (hd:(f.A::vs).Nodup) (hie:(i:Int) ∉ es) :
 ∃ r∈ringsD n,(i:Int)∈r:=by
 have hk:=netOk_fibR hn hf
 have ha0:=hk.a0; have hab:=hk.ab; have hbm:=hk.bm
 -- the least node
 obtain ⟨s,hs,hmin⟩:∃ s∈f.A::vs,∀ x∈f.A::vs,s≤x:=by
  have:∀ (l:List Int) (a:Int),∃ s∈a::l,∀ x∈a::l,s≤x:=by
   intro l
   induction l with
   | nil=>intro a; exact ⟨a,List.mem_cons_self,fun x hx=>by rw [List.mem_singleton.1 hx]; exact Int.le_refl _⟩
   | cons y l ih =>
     intro a
     obtain ⟨s,h1,h2⟩:=ih y
     by_cases h:a≤s
     · exact ⟨a,List.mem_cons_self,fun x hx=>by
        rcases List.mem_cons.1 hx with e | e
        · rw [e]; exact Int.le_refl _
        · have:=h2 x e; omega⟩
     · exact ⟨s,List.mem_cons_of_mem _ h1,fun x hx=>by
        rcases List.mem_cons.1 hx with e | e
        · rw [e]; omega
        · exact h2 x e⟩
  exact this vs f.A
 obtain ⟨es1,vs1,es2,vs2,e1,e2,w1,w2⟩:=wlk_split hw hs
 have hoi:othI n (i:Int) f.B=f.A:=by
  unfold othI
  rw [Int.toNat_natCast,hf]
  simp only
  unfold otherP
  rw [if_neg (by omega),if_pos rfl]
 have w0:Wlk n f.B [(i:Int)] [f.A] f.A:=⟨⟨by omega,by omega⟩,hoi,ha0,rfl⟩
 have wc:Wlk n s (es2++([(i:Int)]++es1)) (vs2++([f.A]++vs1)) s:=wlk_app w2 (wlk_app w0 w1)
 obtain ⟨u1,hu1⟩:=wlk_last w1
 have hvs:vs2++([f.A]++vs1)=(vs2++u1)++[s]:=by
  show vs2++(f.A::vs1)=_
  rw [hu1,List.append_assoc]
 rw [hvs] at wc
 have hnodes:f.A::vs=u1++[s]++vs2:=by
  rw [e2,← List.cons_append,hu1]
 rw [hnodes] at hd hmin
 have hdn:([s]++(vs2++u1)).Nodup:=by
  refine (List.Perm.nodup_iff ?_).1 hd
  rw [List.append_assoc]
  refine (List.perm_append_comm).trans ?_
  rw [List.append_assoc]
 have hge:∀ x∈vs2++u1,s≤x:=fun x hx=>hmin x (by
  rw [List.mem_append] at hx
  simp only [List.mem_append]
  rcases hx with hx | hx
  · exact .inr hx
  · exact .inl (.inl hx))
 have hesd:es.Nodup:=by
  refine wlk_nodup hn hw ?_
  rw [hnodes]; exact hd
 have hrd:(es2++([(i:Int)]++es1)).Nodup:=by
  have:((i:Int)::es).Nodup:=List.nodup_cons.2 ⟨hie,hesd⟩
  refine (List.Perm.nodup_iff ?_).1 this
  rw [e1]
  show ([(i:Int)]++(es1++es2)).Perm _
  rw [← List.append_assoc]
  exact List.perm_append_comm
 have hes:0 < es.length:=by
  cases es with
  | nil =>
    cases vs with
    | nil=>have:f.A=f.B:=hw; omega
    | cons=>exact hw.elim
  | cons=>simp
 have hlen:2≤(es2++([(i:Int)]++es1)).length:=by
  rw [e1,List.length_append] at hes
  simp only [List.length_append,List.length_singleton]; omega
 have hsr:0≤s∧s < n.Nodes.length:=by
  have:s=f.A∨∃ e x,(0≤e∧e < (n.Fibers.length:Int))∧0≤othI n e x∧othI n e x=s:=by
   have gen:∀ {es vs:List Int} {a b:Int},Wlk n a es vs b→∀ y∈vs,∃ e x,(0≤e∧e < (n.Fibers.length:Int))∧0≤othI n e x∧othI n e x=y:=by
    intro es
    induction es with
    | nil=>intro vs a b h y hy; cases vs with | nil=>cases hy | cons=>exact h.elim
    | cons e es ih =>
      intro vs a b h y hy
      cases vs with
      | nil=>exact h.elim
      | cons v vs =>
        rcases List.mem_cons.1 hy with e' | e'
        · exact ⟨e,a,h.1,by rw [h.2.1]; exact h.2.2.1,by rw [h.2.1,e']⟩
        · exact ih h.2.2.2 y e'
   rcases List.mem_cons.1 hs with e | e
   · exact .inl e
   · exact .inr (gen hw s e)
  rcases this with e | ⟨e,x,h1,h2,h3⟩
  · omega
  · have:=oth_sym hn h1 h2; omega
 obtain ⟨sv,rfl⟩:=Int.eq_ofNat_of_zero_le hsr.1
 have hsv:sv < n.Nodes.length:=by omega
 have hin:∀ (r ws:List Int),Wlk n (sv:Int) r (ws++[(sv:Int)]) (sv:Int)→([(sv:Int)]++ws).Nodup→(∀ x∈ws,(sv:Int)≤x)→r.Nodup→2≤r.length→lexB r r.reverse=true→r∈ringsD n:=by
  intro r ws h1 h2 h3 h4 h5 h6
  have:=dfs_finds hn ws (n.Nodes.length - 1) (p:=[]) (es:=r) (InvD.init hsv) (List.mem_singleton.2 rfl) (by simp; omega) h1 h2 h3 h4 h5 h6
  unfold ringsD
  exact List.mem_flatMap.2 ⟨sv,List.mem_range.2 hsv,this⟩
 by_cases hx:lexB (es2++([(i:Int)]++es1)) (es2++([(i:Int)]++es1)).reverse=true
 · exact ⟨_,hin _ _ wc hdn hge hrd hlen hx,by simp⟩
 · have hx':lexB (es2++([(i:Int)]++es1)).reverse (es2++([(i:Int)]++es1)).reverse.reverse=true:=by
    rw [List.reverse_reverse]
    have:=lexB_swap (dif_rev hrd hlen)
    simp only [Bool.not_eq_true] at hx
    rw [hx] at this
    cases h:lexB (es2++([(i:Int)]++es1)).reverse (es2++([(i:Int)]++es1)) with
    | true=>rfl
    | false=>rw [h] at this; cases this
   obtain ⟨vs',r1,r2⟩:=wlk_rev hn wc
   have r3:vs'=(vs2++u1).reverse++[(sv:Int)]:=by
    rw [List.reverse_cons,List.reverse_append] at r2
    simp only [List.reverse_singleton,List.singleton_append,List.cons_append] at r2
    exact (List.cons.inj r2).2
   rw [r3] at r1
   refine ⟨_,hin _ _ r1 ?_ (fun x hx=>hge x (List.mem_reverse.1 hx)) ((List.Perm.nodup_iff (List.reverse_perm _)).2 hrd) (by rw [List.length_reverse]; exact hlen) hx',by simp⟩
   refine (List.Perm.nodup_iff ?_).1 hdn
   exact List.Perm.append_left _ (List.reverse_perm _).symm
end Vs

namespace Vs
open Go
theorem net_EdI {n:TNetwork} (hn:netOk n=true):EdI n.Fibers n.Nodes.length:=fun f hf=>by
 obtain ⟨i,hi⟩:=List.mem_iff_getElem?.1 hf
 have hk:=netOk_fibR hn hi
 have:=hk.a0; have:=hk.ab; have:=hk.bm
 omega
def lbl (n:TNetwork) (gone:List Int):List Int:=labels (alL gone) n.Fibers n.Nodes.length
theorem lbl_len (n:TNetwork) (gone:List Int):(lbl n gone).length=n.Nodes.length:=labels_len _ _ _
theorem lbl_edge {n:TNetwork} (hn:netOk n=true) {gone:List Int} {e x:Int} (he:0≤e∧e < n.Fibers.length) (hg:e ∉ gone) (h0:0≤othI n e x):gt (lbl n gone) x.toNat=gt (lbl n gone) (othI n e x).toNat:=by
 have hN:=netOk_bR hn
 obtain ⟨_,_,_,_,_,f,f1,f2⟩:=oth_sym hn he h0
 have hfl:=labels_flat (al:=alL gone) (net_EdI hn).ed (by omega:0 < n.Nodes.length) e.toNat f f1 (by
  rw [Nat.zero_add]
  unfold alL
  have:((e.toNat:Nat):Int)=e:=by omega
  rw [this]; simp [hg])
 unfold lbl
 rcases f2 with ⟨q1,q2⟩ | ⟨q1,q2⟩
 · rw [q2,q1]; exact hfl
 · rw [q2,q1]; exact hfl.symm
theorem walk_step {n:TNetwork} (hn:netOk n=true) {a x i j:Int} (hj:0≤j∧j < n.Fibers.length) (hji:i ≠ j) (h0:0≤othI n j x) (h:∃ es vs,Wlk n a es vs x∧(a::vs).Nodup∧i ∉ es) :
 ∃ es vs,Wlk n a es vs (othI n j x)∧(a::vs).Nodup∧i ∉ es:=by
 obtain ⟨es,vs,h1,h2,h3⟩:=h
 by_cases hy:othI n j x∈a::vs
 · obtain ⟨es1,vs1,es2,vs2,e1,e2,w1,w2⟩:=wlk_split h1 hy
   refine ⟨es1,vs1,w1,?_,fun h=>h3 (by rw [e1]; exact List.mem_append_left _ h)⟩
   rw [e2,← List.cons_append] at h2
   exact (List.nodup_append.1 h2).1
 · refine ⟨es++[j],vs++[othI n j x],wlk_app h1 ⟨hj,rfl,h0,rfl⟩,?_,?_⟩
   · rw [← List.cons_append,List.nodup_append]
     exact ⟨h2,by simp,fun y hy' z hz e=>by rw [List.mem_singleton] at hz; subst hz; subst e; exact hy hy'⟩
   · rw [List.mem_append,List.mem_singleton]
     rintro (h | h)
     · exact h3 h
     · exact hji h
theorem walk_of_lbl {n:TNetwork} (hn:netOk n=true) {i:Nat} {f:TFiber} (hf:n.Fibers[i]?=some f) (h:gt (lbl n [(i:Int)]) f.A.toNat=gt (lbl n [(i:Int)]) f.B.toNat) :
 ∃ es vs,Wlk n f.A es vs f.B∧(f.A::vs).Nodup∧(i:Int) ∉ es:=by
 have hN:=netOk_bR hn
 have hk:=netOk_fibR hn hf
 have:=hk.a0; have:=hk.ab; have:=hk.bm
 let X:Nat→Prop:=fun v=>∃ es vs,Wlk n f.A es vs (v:Int)∧(f.A::vs).Nodup∧(i:Int) ∉ es
 have hX:Clo (alL [(i:Int)]) 0 n.Fibers X:=by
  intro j g hg hal
  rw [Nat.zero_add] at hal
  have hji:(i:Int) ≠ (j:Int):=by
   unfold alL at hal
   simp at hal; omega
  have hj:j < n.Fibers.length:=(List.getElem?_eq_some_iff.1 hg).1
  have hkg:=netOk_fibR hn hg
  have:=hkg.a0; have:=hkg.ab; have:=hkg.bm
  have hval:∀ x,othI n (j:Int) x=otherP g x:=fun x=>by unfold othI; rw [Int.toNat_natCast,hg]
  have oA:othI n (j:Int) g.A=g.B:=by rw [hval]; unfold otherP; rw [if_pos rfl]
  have oB:othI n (j:Int) g.B=g.A:=by rw [hval]; unfold otherP; rw [if_neg (by omega),if_pos rfl]
  have cA:((g.A.toNat:Nat):Int)=g.A:=by omega
  have cB:((g.B.toNat:Nat):Int)=g.B:=by omega
  constructor
  · intro h
    have h2:∃ es vs,Wlk n f.A es vs ((g.A.toNat:Nat):Int)∧(f.A::vs).Nodup∧(i:Int) ∉ es:=h
    rw [cA] at h2
    have:=walk_step hn (j:=(j:Int)) ⟨by omega,by omega⟩ hji (by rw [oA]; omega) h2
    rw [oA] at this
    show ∃ es vs,Wlk n f.A es vs ((g.B.toNat:Nat):Int)∧_∧_
    rw [cB]; exact this
  · intro h
    have h2:∃ es vs,Wlk n f.A es vs ((g.B.toNat:Nat):Int)∧(f.A::vs).Nodup∧(i:Int) ∉ es:=h
    rw [cB] at h2
    have:=walk_step hn (j:=(j:Int)) ⟨by omega,by omega⟩ hji (by rw [oB]; omega) h2
    rw [oB] at this
    show ∃ es vs,Wlk n f.A es vs ((g.A.toNat:Nat):Int)∧_∧_
    rw [cA]; exact this
 have hA:=labels_clo (al:=alL [(i:Int)]) (net_EdI hn).ed hX f.A.toNat (by omega)
 have hB:=labels_clo (al:=alL [(i:Int)]) (net_EdI hn).ed hX f.B.toNat (by omega)
 have cA:((f.A.toNat:Nat):Int)=f.A:=by omega
 have cB:((f.B.toNat:Nat):Int)=f.B:=by omega
 have h0:X f.A.toNat:=⟨[],[],cA.symm,by simp,by simp⟩
 have h1:X f.B.toNat:=by
  rw [hB]
  unfold lbl at h
  rw [← h,← hA]; exact h0
 obtain ⟨es,vs,w1,w2,w3⟩:=h1
 rw [cB] at w1
 exact ⟨es,vs,w1,w2,w3⟩
theorem stI_inr {n:TNetwork} {ring:List Int} {k:Nat} {e:Int} {p q:Int×List Int} (h:stI n ring k e p=.inr (.inl q)):False:=by
 unfold stI at h
 split at h
 · cases h
 · split at h <;> cases h
theorem wkI_split (n:TNetwork) (ring ys:List Int):∀ (xs:List Int) (k:Nat) (p q:Int×List Int),wkI n ring k (xs++ys) p=.inl q→∃ m,wkI n ring k xs p=.inl m∧wkI n ring (k+xs.length) ys m=.inl q
 | [],k,p,q,h=>⟨p,rfl,h⟩
 | e :: xs, k, p, q, h => by
   rw [List.cons_append,wkI_cons] at h
   rw [wkI_cons]
   cases hs:stI n ring k e p with
   | inr b=>rw [hs] at h; simp only at h; subst h; exact (stI_inr hs).elim
   | inl a =>
     rw [hs] at h
     obtain ⟨m,h1,h2⟩:=wkI_split n ring ys xs (k+1) a q h
     exact ⟨m,h1,by rw [List.length_cons,show k+(xs.length+1)=k+1+xs.length by omega]; exact h2⟩
theorem stI_inl {n:TNetwork} {ring:List Int} {k:Nat} {e:Int} {p a:Int×List Int} (h:stI n ring k e p=.inl a):(0≤e∧e < n.Fibers.length)∧0≤othI n e p.1∧a=(othI n e p.1,p.2++[p.1]):=by
 unfold stI at h
 split at h
 · cases h
 · rename_i hb
   split at h
   · cases h
   · rename_i h0
     simp only [Bool.not_eq_true] at hb
     have:=(badE_wi hb).1
     unfold wi at this
     simp only [Bool.and_eq_true,decide_eq_true_eq] at this
     cases h
     exact ⟨by omega,by omega,rfl⟩
theorem lab_walk {n:TNetwork} (hn:netOk n=true) {gone:List Int} (ring:List Int):∀ (ys:List Int) (k:Nat) (p q:Int×List Int),wkI n ring k ys p=.inl q→(∀ e∈ys,e ∉ gone) →
 gt (lbl n gone) p.1.toNat=gt (lbl n gone) q.1.toNat∧∀ x∈q.2,x∈p.2∨gt (lbl n gone) x.toNat=gt (lbl n gone) p.1.toNat
 | [], k, p, q, h, _ => by
   unfold wkI walkL at h
   cases h
   exact ⟨rfl,fun x hx=>.inl hx⟩
 | e :: ys, k, p, q, h, hg => by
   rw [wkI_cons] at h
   cases hs:stI n ring k e p with
   | inr b=>rw [hs] at h; simp only at h; subst h; exact (stI_inr hs).elim
   | inl a =>
     rw [hs] at h
     obtain ⟨h1,h2,h3⟩:=stI_inl hs
     obtain ⟨h4,h5⟩:=lab_walk hn ring ys (k+1) a q h fun e' he=>hg e' (List.mem_cons_of_mem _ he)
     have h6:=lbl_edge hn h1 (hg e List.mem_cons_self) h2
     subst h3
     simp only at h4 h5
     refine ⟨h6.trans h4,fun x hx=>?_⟩
     rcases h5 x hx with h7 | h7
     · rcases List.mem_append.1 h7 with h8 | h8
       · exact .inl h8
       · rw [List.mem_singleton] at h8; subst h8; exact .inr rfl
     · exact .inr (h7.trans h6.symm)
theorem ring_lbl {n:TNetwork} (hn:netOk n=true) {r:List Int} (hr:OkD n r) {i:Nat} {f:TFiber} (hf:n.Fibers[i]?=some f) (hp:(i:Int)∈protP n r):gt (lbl n [(i:Int)]) f.A.toNat=gt (lbl n [(i:Int)]) f.B.toNat:=by
 obtain ⟨l,hl⟩:=Option.isSome_iff_exists.1 hr.1
 have hlt:i < n.Fibers.length:=(List.getElem?_eq_some_iff.1 hf).1
 have hring:=hl
 unfold ringP at hring
 split at hring
 · split at hring
   · rename_i q hq
     split at hring
     · rename_i hc
       cases hring
       obtain ⟨c1,c2,c3,c4⟩:=hc
       have hnd:=wkI_nodup hq
       have hk:=netOk_fibR hn hf
       have:=hk.a0; have:=hk.ab; have:=hk.bm
       by_cases hir:(i:Int)∈r
       · obtain ⟨r1,r2,hr12⟩:=List.append_of_mem hir
         have hq2:wkI n r 0 (r1++(i:Int)::r2) (startA n r,[])=.inl q:=hr12 ▸ hq
         obtain ⟨m,m1,m2⟩:=wkI_split n r _ r1 0 _ _ hq2
         rw [hr12] at hnd
         rw [List.nodup_append,List.nodup_cons] at hnd
         rw [wkI_cons] at m2
         cases hs:stI n r (0+r1.length) (i:Int) m with
         | inr b=>rw [hs] at m2; simp only at m2; subst m2; exact (stI_inr hs).elim
         | inl a =>
           rw [hs] at m2
           simp only at m2
           obtain ⟨s1,s2,s3⟩:=stI_inl hs
           obtain ⟨g1,_⟩:=lab_walk hn (gone:=[(i:Int)]) r r1 0 _ m m1 fun e he h=>by
            rw [List.mem_singleton] at h
            exact hnd.2.2 e he _ List.mem_cons_self h
           obtain ⟨g2,_⟩:=lab_walk hn (gone:=[(i:Int)]) r r2 _ a q m2 fun e he h=>by
            rw [List.mem_singleton] at h
            exact hnd.2.1.1 (h ▸ he)
           simp only at g1
           rw [c1] at g2
           obtain ⟨_,_,_,_,_,f',f1,f2⟩:=oth_sym hn s1 s2
           rw [Int.toNat_natCast,hf] at f1
           cases f1
           have ha:a.1=othI n (i:Int) m.1:=by rw [s3]
           have g3:gt (lbl n [(i:Int)]) m.1.toNat=gt (lbl n [(i:Int)]) (othI n (i:Int) m.1).toNat:=by rw [← g1,← ha]; exact g2.symm
           rcases f2 with ⟨q1,q2⟩ | ⟨q1,q2⟩
           · rw [q2,q1] at g3; exact g3
           · rw [q2,q1] at g3; exact g3.symm
       · -- a straddling fiber
         have hc2:(i:Int)∈crsP n r q.2:=by
          unfold protP at hp
          rw [hl] at hp
          rcases List.mem_append.1 hp with h | h
          · obtain ⟨j,g,a1,a2,a3⟩:=(filI_mem _ n.Fibers 0 _).1 h
            unfold ownB at a2
            simp only [decide_eq_true_eq] at a2
            exact absurd (a3 ▸ a2) hir
          · exact h
         obtain ⟨j,g,a1,a2,a3⟩:=(filI_mem _ n.Fibers 0 _).1 hc2
         have hij:j=i:=by omega
         subst hij
         rw [hf] at a1
         cases a1
         unfold crsB at a2
         simp only [Bool.and_eq_true,decide_eq_true_eq] at a2
         obtain ⟨_,g2⟩:=lab_walk hn (gone:=[(j:Int)]) r r 0 _ q hq fun e he h=>by
          rw [List.mem_singleton] at h
          exact hir (h ▸ he)
         have k1:=(g2 _ a2.2.1).resolve_left (by simp)
         have k2:=(g2 _ a2.2.2).resolve_left (by simp)
         rw [k1,k2]
     · cases hring
   · cases hring
 · cases hring
theorem arP_mem {n:TNetwork} (h:(arP n).2=true) {r:List Int} (hr:r∈ringsD n):r∈(arP n).1:=by
 unfold arP at h ⊢
 cases hn:netOk n with
 | false=>rw [hn] at h; cases h
 | true =>
   rw [hn] at h
   simp only [if_true] at h ⊢
   by_cases h6:(ringsD n).length≤60
   · rw [if_pos h6]
     obtain ⟨q1,q2⟩:=puts_le (n:=n)
     rw [if_pos (by omega)] at q2
     exact q2.mem_iff.2 hr
   · rw [if_neg h6] at h; cases h
def brB (n:TNetwork) (i:Nat):Bool:=match n.Fibers[i]? with
 | some f=>gt (lbl n [(i:Int)]) f.A.toNat != gt (lbl n [(i:Int)]) f.B.toNat
 | none=>false
theorem bridge_iff {n:TNetwork} (h:(arP n).2=true) {i:Nat} (hi:i < n.Fibers.length):brB n i=!inR n (arP n).1 i:=by
 obtain ⟨hn,h6,hok⟩:=arP_ok h
 have hf:n.Fibers[i]?=some n.Fibers[i]:=List.getElem?_eq_getElem hi
 unfold brB
 rw [hf]
 simp only
 by_cases hc:gt (lbl n [(i:Int)]) n.Fibers[i].A.toNat=gt (lbl n [(i:Int)]) n.Fibers[i].B.toNat
 · obtain ⟨es,vs,w1,w2,w3⟩:=walk_of_lbl hn hf hc
   obtain ⟨r,r1,r2⟩:=ring_of_walk hn hi hf w1 w2 w3
   have hrm:=arP_mem h r1
   have:inR n (arP n).1 i=true:=by
    unfold inR
    rw [List.any_eq_true]
    refine ⟨r,hrm,?_⟩
    rw [decide_eq_true_eq]
    obtain ⟨l,hl⟩:=Option.isSome_iff_exists.1 (hok r hrm).1
    unfold protP
    rw [hl]
    refine List.mem_append_left _ ?_
    unfold ownP
    exact (filI_mem _ n.Fibers 0 _).2 ⟨i,_,hf,by unfold ownB; rw [Nat.zero_add]; exact decide_eq_true r2,by simp⟩
   rw [this,hc]; simp
 · have:inR n (arP n).1 i=false:=by
    unfold inR
    rw [List.any_eq_false]
    intro r hr hp
    rw [decide_eq_true_eq] at hp
    exact hc (ring_lbl hn (hok r hr) hf hp)
   rw [this]
   simp [hc]
end Vs

namespace Vs
open Go
theorem passP_congr {al al':Nat→Bool}:∀ (fs:List TFiber) (k:Nat) (o:List Int),(∀ i,i < k+fs.length→al i=al' i)→passP al k fs o=passP al' k fs o
 | [],_,_,_=>rfl
 | f :: fs, k, o, h => by
   rw [pass_cons,pass_cons]
   have e:one al k f o=one al' k f o:=by unfold one; rw [h k (by simp)]
   rw [e]
   exact passP_congr fs (k+1) _ fun i hi=>h i (by simp only [List.length_cons]; omega)
theorem labels_congr {al al':Nat→Bool} {fs:List TFiber} {N:Nat} (h:∀ i,i < fs.length→al i=al' i):labels al fs N=labels al' fs N:=by
 unfold labels
 have:passP al 0 fs=passP al' 0 fs:=funext fun o=>passP_congr fs 0 o fun i hi=>h i (by omega)
 rw [this]
theorem p_comp {n:TNetwork} (hn:netOk n=true) (gone:List Int) (hg:gone.length≤1048576):M_bp n gone=some (lbl n gone):=by
 have hN:=netOk_bR hn
 exact p_components n gone (net_EdI hn) (by omega) (by omega) hg
theorem p_lab1 {n:TNetwork} (hn:netOk n=true) {i:Nat} (hi:i < n.Fibers.length):M_cm n ((2 ^ i:Nat):Int)=some (lbl n [(i:Int)]):=by
 have hN:=netOk_bR hn
 rw [p_l6Labels n _ (net_EdI hn) (by omega) (by omega) (by omega)]
 unfold lbl
 congr 1
 refine labels_congr fun j hj=>?_
 unfold alM alL
 rw [tbitV (2 ^ i) j (by omega) (Nat.pow_lt_pow_right (by omega) (by omega)),Nat.testBit_two_pow]
 by_cases e:i=j
 · subst e; simp
 · have:¬ (j:Int)=i:=by omega
   simp [e,this]
def brP (n:TNetwork):List Int×Bool:=if netOk n then (unP (brB n) n.Fibers.length,true) else ([],false)
theorem gt_get {n:TNetwork} (gone:List Int) {x:Int} (h0:0≤x) (h1:x < n.Nodes.length):(lbl n gone)[x.toNat]?=some (gt (lbl n gone) x.toNat):=gt_at (by rw [lbl_len]; omega)
theorem p_impl_Bridges (n:TNetwork) (hz:z_Network n≤1048576):M_cn n=some (brP n):=by
 unfold M_cn brP
 rw [p_IsValidNetwork n hz,Option.bind_some]
 cases hn:netOk n with
 | false=>rfl
 | true =>
   have hF:=(netOk_bR hn).2.2
   simp only [Bool.not_true,cond_false,if_true]
   have:=iter_foldI (f:=M_i n) n.Fibers (fun i (a:List Int)=>((i:Int),a)) (fun i _ a=>if brB n i then a++[(i:Int)] else a) id (fun i a=>a.length≤i) (fun i a f hf hI=>by
    have hlt:=(List.getElem?_eq_some_iff.1 hf).1
    have e1:decide ((i:Int) < (n.Fibers.length:Int))=true:=by simp [hlt]
    have hk:=netOk_fibR hn hf
    have h1:=hk.a0; have h2:=hk.ab; have h3:=hk.bm
    have w1:IntKind.wrap .i64 ((i:Int)+1)=((i+1:Nat):Int):=by rw [w64_eq (by omega) (by omega)]; rfl
    simp only [M_i,e1,cond_true,geti_nat,hf,Option.bind_some,bnd,p_comp hn [(i:Int)] (by simp),w1]
    rw [lbl_len,grd_t ⟨by omega,by omega⟩,Option.bind_some,gt_get _ h1 (by omega),Option.bind_some,grd_t ⟨by omega,by omega⟩,Option.bind_some,gt_get _ (by omega) h3,Option.bind_some]
    have hb:brB n i=(gt (lbl n [(i:Int)]) f.A.toNat != gt (lbl n [(i:Int)]) f.B.toNat):=by unfold brB; rw [hf]
    rw [← hb]
    cases brB n i with
    | true =>
      simp only [cond_true,if_true]
      rw [grd_t (by omega),Option.bind_some]
      exact ⟨by simp; omega,rfl⟩
    | false=>simp only [cond_false,Bool.false_eq_true,if_false]; exact ⟨by omega,trivial⟩) (fun a _=>by simp [M_i]) [] (by simp) (by omega)
   have e:iter (M_i n) N0 (0,[])=_:=this
   rw [e,Option.bind_some]
   congr 2
   simp only [id]
   rw [foldI_unit]; rfl
theorem p_spec_Bridges (n:TNetwork) (hz:z_Network n≤1048576):M_co n=some (brP n):=by
 unfold M_co brP
 rw [p_l2Good n hz,Option.bind_some]
 cases hn:netOk n with
 | false=>rfl
 | true =>
   have hF:=(netOk_bR hn).2.2
   simp only [Bool.not_true,cond_false,if_true]
   have:=iter_foldI (f:=M_j n) n.Fibers (fun i (a:List Int)=>((i:Int),a)) (fun i _ a=>if brB n i then a++[(i:Int)] else a) id (fun i a=>a.length≤i) (fun i a f hf hI=>by
    have hlt:=(List.getElem?_eq_some_iff.1 hf).1
    have e1:decide ((i:Int) < (n.Fibers.length:Int))=true:=by simp [hlt]
    have hk:=netOk_fibR hn hf
    have h1:=hk.a0; have h2:=hk.ab; have h3:=hk.bm
    have w0:IntKind.wrap .u64 (i:Int)=(i:Int):=w64u_eq (by omega) (by omega)
    have w1:IntKind.wrap .i64 ((i:Int)+1)=((i+1:Nat):Int):=by rw [w64_eq (by omega) (by omega)]; rfl
    simp only [M_j,e1,cond_true,w0,Int.toNat_natCast,shl1T i (by omega),p_lab1 hn hlt,Option.bind_some,geti_nat,hf,bnd,w1]
    rw [grd_t (by omega),Option.bind_some]
    rw [lbl_len,grd_t ⟨by omega,by omega⟩,Option.bind_some,gt_get _ h1 (by omega),Option.bind_some,grd_t ⟨by omega,by omega⟩,Option.bind_some,gt_get _ (by omega) h3,Option.bind_some]
    have hb:brB n i=(gt (lbl n [(i:Int)]) f.A.toNat != gt (lbl n [(i:Int)]) f.B.toNat):=by unfold brB; rw [hf]
    rw [← hb]
    cases brB n i with
    | true =>
      simp only [cond_true,if_true]
      rw [grd_t (by omega),Option.bind_some]
      exact ⟨by simp; omega,rfl⟩
    | false=>simp only [cond_false,Bool.false_eq_true,if_false]; exact ⟨by omega,trivial⟩) (fun a _=>by simp [M_j]) [] (by simp) (by omega)
   have e:iter (M_j n) N0 (0,[])=_:=this
   rw [e,Option.bind_some]
   congr 2
   simp only [id]
   rw [foldI_unit]; rfl
theorem p_vInts (a:List Int) (hl:a.length≤1048576):M_bv a a=some true:=by
 unfold M_bv
 rw [bne_self_eq_false,cond_false]
 rw [iter_any (f:=M_ao a a) a (fun _=>false) (.inr false) (.inl ()) (fun i x hx=>by
  have hlt:=(List.getElem?_eq_some_iff.1 hx).1
  have h1:decide ((i:Int) < a.length)=true:=by simp [hlt]
  simp only [M_ao,h1,cond_true,geti_nat,hx,Option.bind_some,bne_self_eq_false,cond_false]
  rw [w64_eq (by omega) (by omega)]; rfl) (by simp [M_ao]) (by omega)]
 simp
theorem unP_mem (p:Nat→Bool) (F:Nat) (i:Nat) (hi:i < F):decide ((i:Int)∈unP p F)=p i:=by
 have:∀ (N k:Nat) (a:List Int),(i:Int)∈foldI (fun j (_:Unit) a=>if p j then a++[(j:Int)] else a) k (List.replicate N ()) a↔(i:Int)∈a∨(k≤i∧i < k+N∧p i=true):=by
  intro N
  induction N with
  | zero=>intro k a; simp [foldI]; omega
  | succ N ih =>
    intro k a
    show (i:Int)∈foldI _ (k+1) (List.replicate N ()) _↔_
    rw [ih]
    show (i:Int)∈(if p k then a++[(k:Int)] else a)∨_↔_
    by_cases hk:p k=true
    · rw [if_pos hk,List.mem_append,List.mem_singleton]
      by_cases e:i=k
      · subst e; simp [hk]
      · have:¬ (i:Int)=k:=by omega
        simp only [this,or_false]
        constructor
        · rintro (h | ⟨h1,h2,h3⟩)
          · exact .inl h
          · exact .inr ⟨by omega,by omega,h3⟩
        · rintro (h | ⟨h1,h2,h3⟩)
          · exact .inl h
          · exact .inr ⟨by omega,by omega,h3⟩
    · rw [if_neg hk]
      by_cases e:i=k
      · subst e; simp [hk]
      · constructor
        · rintro (h | ⟨h1,h2,h3⟩)
          · exact .inl h
          · exact .inr ⟨by omega,by omega,h3⟩
        · rintro (h | ⟨h1,h2,h3⟩)
          · exact .inl h
          · exact .inr ⟨by omega,by omega,h3⟩
 unfold unP
 rw [Bool.eq_iff_iff,decide_eq_true_eq,this]
 simp only [List.not_mem_nil,false_or]
 constructor
 · rintro ⟨_,_,h⟩; exact h
 · intro h; exact ⟨by omega,by omega,h⟩
theorem p_vHas (l:List Int) (x:Int) (hl:l.length≤1048576):M_cu l x=some (decide (x∈l)):=by
 unfold M_cu
 rw [iter_any (f:=M_ap l x) l (fun y=>y==x) (.inr true) (.inl ()) (fun i y hy=>by
  have hlt:=(List.getElem?_eq_some_iff.1 hy).1
  have h1:decide ((i:Int) < l.length)=true:=by simp [hlt]
  simp only [M_ap,h1,cond_true,geti_nat,hy,Option.bind_some]
  rw [w64_eq (by omega) (by omega)]
  cases y==x <;> rfl) (by simp [M_ap]) (by omega),any_mem]
 cases l.any fun y=>y==x <;> rfl
theorem p_isSet1 {i F:Nat} (hi:i < F) (hF:F≤1048576):M_cv [(i:Int)] (F:Int)=some true:=by
 unfold M_cv
 rw [iter_any (f:=M_r [(i:Int)] (F:Int)) [(i:Int)] (fun _=>false) (.inr false) (.inl ()) (fun k x hx=>by
  have hlt:=(List.getElem?_eq_some_iff.1 hx).1
  have hk:k=0:=by simpa using hlt
  subst hk
  have hx':x=(i:Int):=by simpa using hx.symm
  subst hx'
  have hw:M_bj (i:Int) 0 ((F:Int) - 1)=some true:=by
   rw [p_within]
   unfold wi
   simp; omega
  have e1:decide (((0:Nat):Int) < (([(i:Int)]:List Int).length:Int))=true:=by simp
  have e2:decide ((0:Int) < ((0:Nat):Int))=false:=by simp
  simp only [M_r,e1,cond_true,geti_nat,hx,Option.bind_some]
  rw [w64_eq (n:=(F:Int) - 1) (by omega) (by omega),hw,Option.bind_some]
  simp only [Bool.not_true,cond_false,e2]
  rw [w64_eq (by omega) (by omega)]; rfl) (by simp [M_r]) (by simp)]
 simp
theorem p_rApart {n:TNetwork} (hn:netOk n=true) (hz:z_Network n≤1048576) {i:Nat} {f:TFiber} (hf:n.Fibers[i]?=some f):M_cp n [(i:Int)] f.A f.B=some (brB n i):=by
 have hlt:=(List.getElem?_eq_some_iff.1 hf).1
 have hN:=netOk_bR hn
 have hk:=netOk_fibR hn hf
 have h1:=hk.a0; have h2:=hk.ab; have h3:=hk.bm
 have hc:M_cw n [(i:Int)]=some (lbl n [(i:Int)],true):=by
  unfold M_cw M_ej
  rw [p_IsValidNetwork n hz,hn,Option.bind_some,cond_true,p_isSet1 hlt (by omega)]
  simp only [Option.bind_some,Bool.not_true,cond_false,p_comp hn [(i:Int)] (by simp)]
 unfold M_cp
 rw [hc,Option.bind_some]
 have e1:decide (0≤f.A)=true:=decide_eq_true h1
 have e2:decide (0≤f.B)=true:=decide_eq_true (by omega)
 have e3:decide (f.A < ((lbl n [(i:Int)]).length:Int))=true:=decide_eq_true (by rw [lbl_len]; omega)
 have e4:decide (f.B < ((lbl n [(i:Int)]).length:Int))=true:=decide_eq_true (by rw [lbl_len]; omega)
 simp only [cond_true,e1,e2,e3,e4]
 rw [lbl_len,grd_t ⟨by omega,by omega⟩,Option.bind_some,gt_get _ h1 (by omega),Option.bind_some,grd_t ⟨by omega,by omega⟩,Option.bind_some,gt_get _ (by omega) h3,Option.bind_some]
 unfold brB
 rw [hf]
def sepP (n:TNetwork) (g:List Int):Bool:=anyI (fun a (_:ByteArray)=>anyI (fun b (_:Unit)=>(gt (lbl n []) a==gt (lbl n []) b)&&(gt (lbl n g) a != gt (lbl n g) b)) (List.replicate a ())) n.Nodes
theorem p_separates {n:TNetwork} (hn:netOk n=true) (g:List Int) (hg:g.length≤1048576):M_cx n g (-1)=some (sepP n g):=by
 have hN:=netOk_bR hn
 unfold M_cx sepP
 rw [p_comp hn [] (by simp),Option.bind_some,p_comp hn g hg,Option.bind_some]
 have hgt:∀ (gone:List Int) (a:Nat),a < n.Nodes.length→(lbl n gone)[a]?=some (gt (lbl n gone) a):=fun gone a ha=>gt_at (by rw [lbl_len]; exact ha)
 rw [iter_anyI (f:=M_aq n (-1) (lbl n []) (lbl n g)) n.Nodes (fun a (_:ByteArray)=>anyI (fun b (_:Unit)=>(gt (lbl n []) a==gt (lbl n []) b)&&(gt (lbl n g) a != gt (lbl n g) b)) (List.replicate a ())) (.inr true) (.inl ()) (fun a x hx _=>by
  have hlt:=(List.getElem?_eq_some_iff.1 hx).1
  have e1:decide ((a:Int) < (n.Nodes.length:Int))=true:=by simp [hlt]
  have inner:iter (M_b (-1) (lbl n []) (lbl n g) (a:Int)) N0 0=some (if anyI (fun b (_:Unit)=>(gt (lbl n []) a==gt (lbl n []) b)&&(gt (lbl n g) a != gt (lbl n g) b)) (List.replicate a ()) then .inr true else .inl ()):=by
   refine iter_anyI (f:=M_b (-1) (lbl n []) (lbl n g) (a:Int)) (List.replicate a ()) _ (.inr true) (.inl ()) (fun b y hy _=>?_) (by simp [M_b]) (by simp; omega)
   have hb:=(List.getElem?_eq_some_iff.1 hy).1
   rw [List.length_replicate] at hb
   have f1:decide ((b:Int) < (a:Int))=true:=by simp [hb]
   have f2:((a:Int) != -1)=true:=bne_iff_ne.2 (by omega)
   have f3:((b:Int) != -1)=true:=bne_iff_ne.2 (by omega)
   simp only [M_b,f1,f2,f3,cond_true,Int.toNat_natCast,lbl_len,hgt _ a hlt,hgt _ b (by omega),Option.bind_some]
   rw [grd_t ⟨by omega,by omega⟩,Option.bind_some,grd_t ⟨by omega,by omega⟩,Option.bind_some,w64_eq (by omega) (by omega)]
   cases gt (lbl n []) a==gt (lbl n []) b with
   | false=>rfl
   | true =>
     simp only [cond_true,Bool.true_and]
     rw [Option.bind_some,Option.bind_some]
     cases gt (lbl n g) a != gt (lbl n g) b <;> rfl
  simp only [M_aq,e1,cond_true,inner,Option.bind_some]
  rw [w64_eq (by omega) (by omega)]
  cases anyI (fun b (_:Unit)=>(gt (lbl n []) a==gt (lbl n []) b)&&(gt (lbl n g) a != gt (lbl n g) b)) (List.replicate a ()) <;> rfl) (by simp [M_aq]) (by omega)]
 rw [Option.bind_some]
 cases anyI (fun a (_:ByteArray)=>anyI (fun b (_:Unit)=>(gt (lbl n []) a==gt (lbl n []) b)&&(gt (lbl n g) a != gt (lbl n g) b)) (List.replicate a ())) n.Nodes <;> rfl
theorem sep_bridge {n:TNetwork} (hn:netOk n=true) {i:Nat} (hb:brB n i=true) {g:List Int} (hg:(i:Int)∈g):sepP n g=true:=by
 have hN:=netOk_bR hn
 unfold brB at hb
 split at hb
 · rename_i f hf
   have hlt:=(List.getElem?_eq_some_iff.1 hf).1
   have hk:=netOk_fibR hn hf
   have h1:=hk.a0; have h2:=hk.ab; have h3:=hk.bm
   have hb':=bne_iff_ne.1 hb
   have hE:=(net_EdI hn).ed
   unfold sepP
   rw [anyI_iff]
   refine ⟨f.B.toNat,n.Nodes[f.B.toNat]'(by omega),List.getElem?_eq_getElem (by omega),?_⟩
   rw [anyI_iff]
   refine ⟨f.A.toNat,(),by rw [List.getElem?_replicate,if_pos (by omega)],?_⟩
   rw [Bool.and_eq_true]
   refine ⟨?_,?_⟩
   · have:=labels_flat (al:=alL []) hE (by omega:0 < n.Nodes.length) i f hf (by simp [alL])
     unfold lbl
     rw [this]; simp
   · rw [bne_iff_ne]
     intro e
     refine hb' ?_
     have:=labels_mono (al:=alL [(i:Int)]) (al':=alL g) hE (by omega:0 < n.Nodes.length) (fun j hj=>by
      unfold alL at hj ⊢
      simp only [Bool.not_eq_true',decide_eq_false_iff_not,List.mem_singleton] at hj ⊢
      intro e; exact hj (e ▸ hg)) (a:=f.B.toNat) (b:=f.A.toNat) (by omega) (by omega) e
     exact this.symm
 · cases hb
theorem p_critical {n:TNetwork} (hn:netOk n=true) (hz:z_Network n≤1048576):∃ l,M_cq n=some (l,true)∧∀ (j:Nat) (g:List Int),(groupsP n)[j]?=some g→sepP n g=true→0 < l.length:=by
 have hN:=netOk_bR hn
 have hgl:=groupsP_len n hN.2.2
 unfold M_cq
 rw [p_IsValidNetwork n hz,hn,Option.bind_some]
 simp only [Bool.not_true,cond_false]
 rw [p_groups n hN.2.2,Option.bind_some]
 obtain ⟨b,hb,hq⟩:=iter_inv (f:=M_ac n (groupsP n)) (fun t=>∃ k:Nat,t.1=(k:Int)∧k≤(groupsP n).length∧t.2.length≤k∧∀ (j:Nat) (g:List Int),j < k→(groupsP n)[j]?=some g→sepP n g=true→0 < t.2.length) (fun t=>(groupsP n).length - t.1.toNat)
  (fun b=>∀ (j:Nat) (g:List Int),(groupsP n)[j]?=some g→sepP n g=true→0 < b.length) (fun t hI=>by
   obtain ⟨t1,t2⟩:=t
   obtain ⟨k,e,hk,hl,hp⟩:=hI
   simp only at e hl hp
   subst e
   unfold M_ac
   by_cases hk2:k < (groupsP n).length
   · left
     have e1:decide ((k:Int) < ((groupsP n).length:Int))=true:=by simp [hk2]
     have e2:(groupsP n)[k]?=some (groupsP n)[k]:=List.getElem?_eq_getElem hk2
     have hgr:=(groups_rng hN.2.2 _ (List.getElem_mem hk2)).1
     simp only [e1,cond_true,Int.toNat_natCast,e2,Option.bind_some,bnd]
     rw [grd_t ⟨by omega,by omega⟩,Option.bind_some,p_separates hn _ (by omega),Option.bind_some]
     have w1:IntKind.wrap .i64 ((k:Int)+1)=((k+1:Nat):Int):=by rw [w64_eq (by omega) (by omega)]; rfl
     rw [w1]
     cases hs:sepP n (groupsP n)[k] with
     | true =>
       simp only [cond_true]
       rw [grd_t (by omega),Option.bind_some]
       exact ⟨_,rfl,⟨k+1,rfl,by omega,by simp; omega,fun j g _ _ _=>by simp⟩,by simp only [Int.toNat_natCast]; omega⟩
     | false =>
       simp only [cond_false]
       refine ⟨_,rfl,⟨k+1,rfl,by omega,by simp only; omega,fun j g hj hg hsg=>?_⟩,by simp only [Int.toNat_natCast]; omega⟩
       by_cases e:j=k
       · subst e
         rw [e2] at hg
         cases hg
         rw [hs] at hsg; cases hsg
       · exact hp j g (by omega) hg hsg
   · right
     have e1:decide ((k:Int) < ((groupsP n).length:Int))=false:=by simp; omega
     simp only [e1,cond_false]
     refine ⟨_,rfl,fun j g hg hsg=>hp j g ?_ hg hsg⟩
     have:=(List.getElem?_eq_some_iff.1 hg).1
     omega) N0 (0,[]) ⟨0,rfl,by omega,by simp,fun j g hj=>by omega⟩ (N0_lt (by simp; omega))
 rw [hb,Option.bind_some]
 exact ⟨b,rfl,hq⟩
theorem z_drawnG {K:Nat} {nodes:List ByteArray} {fs:List TFiber} (h:NetD K nodes fs):z_Network ⟨nodes.take K,fs⟩≤1048576∧fs.length≤15:=by
 have hs:∀ (l:List ByteArray),(∀ s∈l,s.size≤9)→(l.map fun x=>x.size).sum≤9 * l.length:=by
  intro l
  induction l with
  | nil=>intro _; simp
  | cons a l ih =>
    intro hl
    have h1:=hl a (by simp)
    have h2:=ih fun s hs=>hl s (by simp [hs])
    simp only [List.map_cons,List.sum_cons,List.length_cons]; omega
 have h1:=hs (nodes.take K) fun s hs=>h.z s (List.mem_of_mem_take hs)
 have h2:(nodes.take K).length≤10:=by rw [List.length_take]; have:=h.n; omega
 have h3:fs.length≤15:=by have:=h.f; omega
 unfold z_Network z_StringS z_FiberS
 simp only
 omega
def codeOk (code:List Int):Prop:=(∀ x∈code,0≤x∧x≤255)∧code.length≤65536
theorem cur0 {code:List Int} (h:codeOk code):CurOk (⟨code,0,0⟩:Tl1Cur) 0:=⟨h.1,h.2,by simp,by simp⟩
theorem p_drawNet {code:List Int} (h:codeOk code):∃ n,M_cy code=some n∧z_Network n≤1048576:=by
 obtain ⟨K,nodes,fs,c',h1,h2,h3⟩:=p_anyNetwork (cur0 h) (by omega)
 unfold M_cy
 rw [h1,Option.bind_some]
 simp only [bnd]
 rw [subT_pre _ _ h2.k]
 exact ⟨_,rfl,(z_drawnG h2).1⟩
theorem p_FnBridges (code:List Int) (o1:code.length≤9223372036854775807∧∀ x∈code,0≤x∧x≤255):M_ei code=some true:=by
 have hb:=o1.2
 unfold M_ei M_ek
 by_cases hl:(65536:Int) < (code.length:Int)
 · simp [hl]
 simp only [decide_eq_false hl,Option.bind_some,cond_false]
 have hc:codeOk code:=⟨hb,by omega⟩
 obtain ⟨n,d1,hz⟩:=p_drawNet hc
 have d2:M_cz code=some n:=by unfold M_cz; rw [d1]; rfl
 have i1:M_cn (⟨n.Nodes,n.Fibers⟩:TNetwork)=some (brP n):=p_impl_Bridges n hz
 have i2:M_co (⟨n.Nodes,n.Fibers⟩:TNetwork)=some (brP n):=p_spec_Bridges n hz
 have i3:M_cr (⟨n.Nodes,n.Fibers⟩:TNetwork)=some (ufP n):=p_impl_UnringedFibers n hz
 have i4:M_cs (⟨n.Nodes,n.Fibers⟩:TNetwork)=some (ufP n):=p_spec_UnringedFibers n hz
 have hbl:(brP n).1.length≤1048576:=by
  unfold brP
  cases hn:netOk n with
  | false=>simp
  | true =>
    have:=(netOk_bR hn).2.2
    have:=unP_len (brB n) n.Fibers.length
    simp only [if_true]; omega
 simp only [d2,Option.bind_some,i1,i2,beq_self_eq_true,Bool.not_true,cond_false,p_vInts _ hbl]
 cases hn:netOk n with
 | false =>
   have:(brP n).2=false:=by unfold brP; rw [hn]; rfl
   rw [this]; rfl
 | true =>
   have hN:=netOk_bR hn
   have e2:(brP n).2=true:=by unfold brP; rw [hn]; rfl
   have e1:(brP n).1=unP (brB n) n.Fibers.length:=by unfold brP; rw [hn]; rfl
   simp only [e2,Bool.not_true,cond_false]
   have hloop:iter (M_ad n (brP n)) N0 0=some (.inl ()):=by
    rw [iter_any (f:=M_ad n (brP n)) n.Fibers (fun _=>false) (.inr false) (.inl ()) (fun i f hf=>by
     have hlt:=(List.getElem?_eq_some_iff.1 hf).1
     have h1:decide ((i:Int) < (n.Fibers.length:Int))=true:=by simp [hlt]
     have h2:M_cp (⟨n.Nodes,n.Fibers⟩:TNetwork) [(i:Int)] f.A f.B=some (brB n i):=p_rApart hn hz hf
     simp only [M_ad,h1,cond_true,p_vHas _ _ hbl,Option.bind_some,bnd,Int.toNat_natCast,hf,h2]
     rw [grd_t ⟨by omega,by omega⟩,Option.bind_some,e1,unP_mem _ _ _ hlt]
     simp only [beq_self_eq_true,Bool.not_true,cond_false]
     rw [w64_eq (by omega) (by omega)]; rfl) (by simp [M_ad]) (by omega)]
    simp
   rw [hloop,Option.bind_some]
   simp only [i3,i4,Option.bind_some,beq_self_eq_true,Bool.not_true,cond_false]
   have h3:(cond (ufP n).2 ((M_bv (ufP n).1 (brP n).1).bind fun rZ32=>some (!rZ32)) (some false):Option Bool)=some false:=by
    cases ha:(arP n).2 with
    | false =>
      have:(ufP n).2=false:=by unfold ufP; rw [ha]; rfl
      rw [this]; rfl
    | true =>
      have u2:(ufP n).2=true:=by unfold ufP; rw [ha]; rfl
      have u1:(ufP n).1=(brP n).1:=by
       unfold ufP
       rw [ha,e1]
       exact unP_congr _ fun i hi=>(bridge_iff ha hi).symm
      rw [u2,cond_true,u1,p_vInts _ hbl]; rfl
   rw [h3,Option.bind_some]
   obtain ⟨l,c1,c2⟩:=p_critical hn hz
   have c1':M_cq (⟨n.Nodes,n.Fibers⟩:TNetwork)=some (l,true):=c1
   simp only [cond_false,c1',Option.bind_some,cond_true]
   by_cases h0:(brP n).1.length=0
   · have:(((brP n).1.length:Int)==0)=true:=by rw [h0]; rfl
     rw [this]; rfl
   · have e:(((brP n).1.length:Int)==0)=false:=beq_eq_false_iff_ne.2 (by omega)
     rw [e,cond_false]
     have hex:∃ i:Nat,brB n i=true∧i < n.Fibers.length:=by
      refine Classical.byContradiction fun hne=>h0 ?_
      rw [e1,unP_congr (p':=fun _=>false) _ fun i hi=>by
       cases hbi:brB n i with
       | false=>rfl
       | true=>exact absurd ⟨i,hbi,hi⟩ hne]
      have:∀ (N k:Nat) (a:List Int),foldI (fun i (_:Unit) a=>if (false:Bool)=true then a++[(i:Int)] else a) k (List.replicate N ()) a=a:=by
       intro N
       induction N with
       | zero=>intro k a; rfl
       | succ N ih=>intro k a; exact ih (k+1) a
      unfold unP
      rw [this]; rfl
     obtain ⟨i,hbi,hi⟩:=hex
     obtain ⟨g,g1,g2⟩:=group_ex hn (x:=(i:Int)) ⟨by omega,by omega⟩
     obtain ⟨j,hj⟩:=List.mem_iff_getElem?.1 g1
     have hpos:=c2 j g hj (sep_bridge hn hbi g2)
     have:decide ((0:Int) < (l.length:Int))=true:=by simp only [decide_eq_true_eq]; omega
     rw [this]
end Vs

namespace Vs
end Vs

