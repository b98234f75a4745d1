/-
  Part of the proof that the law FnLikeliest returns true at every input; no condition beside the row's own.
-/
import Derived.Test.YtgafcocdchcgeaaQe
import Derived.Test.YtgafcocdchcgeaaCa
set_option linter.defProp false
set_option linter.unusedSimpArgs false
set_option linter.unusedVariables false
namespace Vs
open Go
def z_StringS (xs:(List ByteArray)):Nat:=xs.length+(xs.map fun x=>x.size).sum
def z_FiberS (xs:(List TFiber)):Nat:=xs.length
def z_Network (x:TNetwork):Nat:=z_StringS x.Nodes+z_FiberS x.Fibers
def z_IntS (xs:(List Int)):Nat:=xs.length
def z_Outage (x:TOutage):Nat:=z_IntS x.Down
end Vs

namespace Vs
open Go
def wi (x a b:Int):Bool:=decide (a≤x)&&decide (x≤b)
theorem wi_iff {x a b:Int}:wi x a b=true↔a≤x∧x≤b:=by simp [wi]
theorem wi_false {x a b:Int}:wi x a b=false↔¬ (a≤x∧x≤b):=by rw [← wi_iff]; simp
theorem p_within (x a b:Int):M_c x a b=some (wi x a b):=by
 unfold M_c wi; by_cases h:a≤x <;> simp [h]
theorem p_l1In (x a b:Int):M_b x a b=some (wi x a b):=by
 unfold M_b wi; by_cases h:a≤x <;> simp [h]
def letB (c:UInt8):Bool:=decide (97≤c.toNat)&&decide (c.toNat≤122)
def digB (c:UInt8):Bool:=decide (48≤c.toNat)&&decide (c.toNat≤57)
def nameBad (i:Nat) (c:UInt8):Bool:=!letB c&&(!digB c||i==0)
def nameB (s:ByteArray):Bool:=!anyI nameBad s.data.toList&&wi s.size 1 8
theorem getz_nat (s:ByteArray) (i:Nat):getz s (i:Int)=s.data.toList[i]?:=by
 unfold getz
 rw [if_pos (by omega),Int.toNat_natCast]
 by_cases h:i < s.size
 · have h2:i < s.data.toList.length:=by simpa using h
   rw [getElem?_pos s i h,List.getElem?_eq_getElem h2]
   rfl
 · have h2:¬ i < s.data.toList.length:=by simpa using h
   rw [getElem?_neg s i h,List.getElem?_eq_none (Nat.le_of_not_lt h2)]
theorem size_list (s:ByteArray):s.size=s.data.toList.length:=by show s.data.size=s.data.toList.length; rw [Array.length_toList]
theorem letB_c (c:UInt8):letB c=(decide (97≤(c.toNat:Int))&&decide ((c.toNat:Int)≤122)):=by
 unfold letB
 congr 1 <;> exact decide_eq_decide.2 (by omega)
theorem digB_c (c:UInt8):digB c=(decide (48≤(c.toNat:Int))&&decide ((c.toNat:Int)≤57)):=by
 unfold digB
 congr 1 <;> exact decide_eq_decide.2 (by omega)
theorem p_isName (s:ByteArray) (hl:s.size≤1048576):M_cw s=some (nameB s):=by
 unfold M_cw nameB
 rw [size_list] at *
 rw [iter_anyI (f:=M_u s) s.data.toList nameBad (.inr false) (.inl ()) (fun i c hc _=>by
  have hlt:=(List.getElem?_eq_some_iff.1 hc).1
  have h1:decide ((i:Int) < s.size)=true:=decide_eq_true (by rw [size_list]; omega)
  simp only [M_u,h1,cond_true,getz_nat,hc,Option.bind_some,nameBad,letB_c,digB_c]
  rw [w64_eq (by omega) (by omega)]
  have hi:((i:Int)==0)=(i==0):=by rw [Bool.eq_iff_iff]; simp
  rw [hi]
  cases decide (97≤(c.toNat:Int)) <;> cases decide ((c.toNat:Int)≤122) <;> cases decide (48≤(c.toNat:Int)) <;> cases decide ((c.toNat:Int)≤57) <;> cases (i==0) <;> rfl) (by simp [M_u]) (by omega)]
 rw [← size_list]
 cases anyI nameBad s.data.toList <;> simp [p_within]
theorem p_l2Sign (c:UInt8):M_cx (c.toNat:Int)=some (letB c||digB c):=by
 unfold M_cx
 simp only [letB_c,digB_c]
 cases decide (97≤(c.toNat:Int)) <;> cases decide ((c.toNat:Int)≤122) <;> cases decide (48≤(c.toNat:Int)) <;> rfl
theorem fstc (c:UInt8):(cond (decide ((c.toNat:Int) < 97)) (some true) (some (decide (122 < (c.toNat:Int)))):Option Bool)=some (!letB c):=by
 rw [letB_c]
 by_cases h1:(c.toNat:Int) < 97
 · have h2:¬ 97≤(c.toNat:Int):=by omega
   simp [h1,h2]
 · have h2:97≤(c.toNat:Int):=by omega
   simp only [h1,decide_false,cond_false,h2,decide_true,Bool.true_and]
   by_cases h3:122 < (c.toNat:Int)
   · have h4:¬ (c.toNat:Int)≤122:=by omega
     simp [h3,h4]
   · have h4:(c.toNat:Int)≤122:=by omega
     simp [h3,h4]
theorem p_l2Name (s:ByteArray) (hl:s.size≤1048576):M_cy s=some (nameB s):=by
 unfold M_cy nameB
 simp only [p_l1In,Option.bind_some]
 rcases bt (wi s.size 1 8) with hw | hw
 · simp only [hw,Bool.not_true,cond_false,Bool.and_true]
   have hs:0 < s.data.toList.length:=by rw [← size_list]; have:=(wi_iff.1 hw).1; omega
   have h0:s.data.toList[0]?=some s.data.toList[0]:=List.getElem?_eq_getElem hs
   have g0:getz s 0=some s.data.toList[0]:=by rw [← h0]; exact getz_nat s 0
   simp only [g0,Option.bind_some]
   have key:=iter_anyI (f:=M_ap s) s.data.toList (fun _ c=>!(letB c||digB c)) (.inr false) (.inl ()) (fun i c hc _=>by
    have hlt:=(List.getElem?_eq_some_iff.1 hc).1
    have h1:decide ((i:Int) < s.size)=true:=decide_eq_true (by rw [size_list]; omega)
    rw [size_list] at hl
    simp only [M_ap,h1,cond_true,getz_nat,hc,Option.bind_some,p_l2Sign]
    rw [w64_eq (by omega) (by omega)]
    cases letB c <;> cases digB c <;> rfl) (by simp [M_ap]) (by rw [size_list] at hl; omega)
   rw [fstc]
   simp only [Option.bind_some,key]
   rcases bt (letB s.data.toList[0]) with hL | hL
   · simp only [hL,Bool.not_true,cond_false]
     have e:anyI (fun _ c=>!(letB c||digB c)) s.data.toList=anyI nameBad s.data.toList:=by
      refine anyI_congr fun i c hc _=>?_
      unfold nameBad
      by_cases hi:i=0
      · subst hi; rw [h0] at hc; cases hc; rw [hL]; rfl
      · have:(i==0)=false:=by simpa using hi
        rw [this]
        cases letB c <;> cases digB c <;> rfl
     rw [e]
     cases anyI nameBad s.data.toList <;> rfl
   · have:anyI nameBad s.data.toList=true:=anyI_iff.2 ⟨0,_,h0,by unfold nameBad; rw [hL]; simp⟩
     simp only [hL,this,Bool.not_false,cond_true,Bool.not_true]
 · simp [hw]
def idxZ (v:ByteArray) (xs:List ByteArray):Option (Nat×ByteArray):=findI (fun _ x=>x.toList==v.toList) xs
def fidx (v:ByteArray) (xs:List ByteArray):Int:=match idxZ v xs with | some q=>(q.1:Int) | none=>-1
theorem p_l2Find (xs:List ByteArray) (v:ByteArray) (hl:xs.length≤1048576):M_cz xs v=some (fidx v xs):=by
 unfold M_cz fidx
 rw [iter_findI (f:=M_aq xs v) xs (fun _ x=>x.toList==v.toList) (fun i _=>(i:Int)) () (fun i x hx _=>by
  have hlt:=(List.getElem?_eq_some_iff.1 hx).1
  have h1:decide ((i:Int) < xs.length)=true:=by simp [hlt]
  simp only [M_aq,h1,cond_true,geti_nat,hx,Option.bind_some]
  rw [w64_eq (by omega) (by omega)]
  cases x.toList==v.toList <;> rfl) (by simp [M_aq]) (by omega)]
 unfold idxZ
 cases findI (fun _ x=>x.toList==v.toList) xs <;> rfl
theorem p_Contains_z (xs:List ByteArray) (v:ByteArray) (hl:xs.length≤1048576):M_da xs v=some (xs.any fun x=>x.toList==v.toList):=by
 unfold M_da M_ds
 rw [iter_findI (f:=M_ar xs v) xs (fun _ x=>x.toList==v.toList) (fun i _=>(i:Int)) () (fun i x hx _=>by
  have hlt:=(List.getElem?_eq_some_iff.1 hx).1
  have h1:decide ((i:Int) < xs.length)=true:=by simp [hlt]
  simp only [M_ar,h1,cond_true,geti_nat,hx,Option.bind_some]
  rw [w64_eq (by omega) (by omega),show (v.toList==x.toList)=(x.toList==v.toList) from Bool.beq_comm ..]
  cases x.toList==v.toList <;> rfl) (by simp [M_ar]) (by omega)]
 cases e:findI (fun _ x=>x.toList==v.toList) xs with
 | none =>
   have:=findI_none.1 e
   have h:(xs.any fun x=>x.toList==v.toList)=false:=by
    rw [← anyI_any (fun x:ByteArray=>x.toList==v.toList),anyI_false]; exact this
   rw [h]; rfl
 | some q =>
   obtain ⟨i,x⟩:=q
   obtain ⟨h1,h2,_⟩:=findI_some.1 e
   have h:(xs.any fun x=>x.toList==v.toList)=true:=List.any_eq_true.2 ⟨x,List.mem_of_getElem? h1,h2⟩
   rw [h]; simp
def cmpI (x y:Int):Int:=if x < y then -1 else if y < x then 1 else 0
theorem p_cmp (x y:Int):M_bg x y=some (cmpI x y):=by
 unfold M_bg M_cd cmpI
 by_cases h:x < y
 · simp [h]
 · by_cases h2:y < x <;> simp [h,h2]
def cmpF (f g:TFiber):Int:=if f.A ≠ g.A then cmpI f.A g.A else if f.B ≠ g.B then cmpI f.B g.B else if f.Length ≠ g.Length then cmpI f.Length g.Length else cmpI f.Risk g.Risk
theorem cmpI_zero {x y:Int}:cmpI x y=0↔x=y:=by
 unfold cmpI
 split
 · simp; omega
 · split
   · simp; omega
   · simp; omega
theorem p_compareFibers (f g:TFiber):M_db f g=some (cmpF f g):=by
 unfold M_db
 simp only [p_cmp,Option.bind_some,bnd]
 unfold M_dt
 have key:=iter_findI (f:=M_as [cmpI f.A g.A,cmpI f.B g.B,cmpI f.Length g.Length,cmpI f.Risk g.Risk]) [cmpI f.A g.A,cmpI f.B g.B,cmpI f.Length g.Length,cmpI f.Risk g.Risk] (fun _ x=>x != 0) (fun _ x=>x) () (fun i x hx _=>by
  have hlt:=(List.getElem?_eq_some_iff.1 hx).1
  have h1:decide ((i:Int) < ([cmpI f.A g.A,cmpI f.B g.B,cmpI f.Length g.Length,cmpI f.Risk g.Risk].length:Nat))=true:=decide_eq_true (by omega)
  simp only [List.length_cons,List.length_nil] at hlt
  simp only [M_as,h1,cond_true,geti_nat,hx,Option.bind_some]
  rw [w64_eq (by omega) (by omega)]
  cases x != 0 <;> rfl) (by simp [M_as]) (by simp)
 rw [key]
 unfold cmpF findI
 simp only [List.zipIdx_cons,List.zipIdx_nil,List.find?_cons,List.find?_nil]
 by_cases h1:f.A=g.A
 · rw [cmpI_zero.2 h1]
   by_cases h2:f.B=g.B
   · rw [cmpI_zero.2 h2]
     by_cases h3:f.Length=g.Length
     · rw [cmpI_zero.2 h3]
       by_cases h4:f.Risk=g.Risk
       · simp [h1,h2,h3,h4,cmpI_zero.2]
       · have:(cmpI f.Risk g.Risk != 0)=true:=bne_iff_ne.2 fun e=>h4 (cmpI_zero.1 e)
         simp [h1,h2,h3,this]
     · have:(cmpI f.Length g.Length != 0)=true:=bne_iff_ne.2 fun e=>h3 (cmpI_zero.1 e)
       simp [h1,h2,h3,this]
   · have:(cmpI f.B g.B != 0)=true:=bne_iff_ne.2 fun e=>h2 (cmpI_zero.1 e)
     simp [h1,h2,this]
 · have:(cmpI f.A g.A != 0)=true:=bne_iff_ne.2 fun e=>h1 (cmpI_zero.1 e)
   simp [h1,this]
end Vs

namespace Vs
open Go
theorem slT_nat {α:Type} (xs:List α) (i:Nat) (h:i≤xs.length):slT xs (i:Int)=some (xs.take i):=by
 unfold slT
 rw [if_pos ⟨by omega,by simpa using h⟩]; simp
theorem z_net {n:TNetwork} (h:z_Network n≤1048576):n.Nodes.length≤1048576∧n.Fibers.length≤1048576∧∀ x∈n.Nodes,x.size≤1048576:=by
 unfold z_Network z_StringS z_FiberS at h
 refine ⟨by omega,by omega,fun x hx=>?_⟩
 obtain ⟨i,hi,rfl⟩:=List.getElem_of_mem hx
 have:n.Nodes[i].size≤(n.Nodes.map fun x:ByteArray=>x.size).sum:=sum_ge (fun x:ByteArray=>x.size) (xs:=n.Nodes) (i:=i) (x:=n.Nodes[i]) (by simp [hi])
 omega
def nodeBad (n:TNetwork) (i:Nat) (x:ByteArray):Bool:=!nameB x||(n.Nodes.take i).any fun y=>y.toList==x.toList
def fib1 (m:Nat) (f:TFiber):Bool:=decide (f.A < 0)||decide (f.B≤f.A)||decide ((m:Int)≤f.B)||!wi f.Length 1 5000||!wi f.Risk 0 9
def fibBad (n:TNetwork) (i:Nat) (f:TFiber):Bool:=fib1 n.Nodes.length f||(decide (0 < i)&&match n.Fibers[i - 1]? with | some g=>decide (0 < cmpF g f) | none=>false)
def netOk (n:TNetwork):Bool:=!anyI (nodeBad n) n.Nodes&&!anyI (fibBad n) n.Fibers&&wi n.Nodes.length 2 8&&decide (n.Fibers.length≤14)
theorem p_IsValidNetwork (n:TNetwork) (hz:z_Network n≤1048576):M_bm n=some (netOk n):=by
 obtain ⟨h1,h2,h3⟩:=z_net hz
 unfold M_bm netOk
 rw [iter_anyI (f:=M_at n) n.Nodes (nodeBad n) (.inr false) (.inl ()) (fun i x hx _=>by
  have hlt:=(List.getElem?_eq_some_iff.1 hx).1
  have e1:decide ((i:Int) < n.Nodes.length)=true:=by simp [hlt]
  simp only [M_at,e1,cond_true,geti_nat,hx,Option.bind_some,p_isName x (h3 x (List.mem_of_getElem? hx)),slT_nat n.Nodes i (Nat.le_of_lt hlt),p_Contains_z (n.Nodes.take i) x (by simp; omega),nodeBad]
  rw [w64_eq (by omega) (by omega)]
  rcases bt (nameB x) with e | e <;> rcases bt ((n.Nodes.take i).any (fun y=>y.toList==x.toList)) with e' | e' <;> simp only [e,e'] <;> rfl) (by simp [M_at]) (by omega)]
 rcases bt (anyI (nodeBad n) n.Nodes) with hN | hN
 · simp [hN]
 · simp only [hN,Bool.false_eq_true,if_false,Option.bind_some,Bool.not_false,Bool.true_and]
   rw [iter_anyI (f:=M_v n) n.Fibers (fibBad n) (.inr false) (.inl ()) (fun i x hx _=>by
    have hlt:=(List.getElem?_eq_some_iff.1 hx).1
    have e1:decide ((i:Int) < n.Fibers.length)=true:=by simp [hlt]
    simp only [M_v,e1,cond_true,geti_nat,hx,Option.bind_some,p_within]
    rw [w64_eq (n:=(i:Int)+1) (by omega) (by omega)]
    unfold fibBad fib1
    cases decide (x.A < 0)
    · cases decide (x.B≤x.A)
      · cases decide ((n.Nodes.length:Int)≤x.B)
        · cases wi x.Length 1 5000
          · rfl
          · cases wi x.Risk 0 9
            · rfl
            · by_cases hi:0 < i
              · have hi':decide ((0:Int) < (i:Int))=true:=by simp [hi]
                have hp:n.Fibers[i - 1]?=some n.Fibers[i - 1]:=List.getElem?_eq_getElem (by omega)
                have hw:IntKind.wrap .i64 ((i:Int) - 1)=((i - 1:Nat):Int):=by rw [w64_eq (by omega) (by omega)]; omega
                simp only [hi',cond_true,cond_false,Bool.not_true,hw,geti_nat,hp,Option.bind_some,p_compareFibers,hi,decide_true,Bool.true_and,Bool.false_or]
                cases decide (0 < cmpF n.Fibers[i - 1] x) <;> rfl
              · have hi':decide ((0:Int) < (i:Int))=false:=by simp; omega
                simp [hi',hi]
        · rfl
      · rfl
    · rfl) (by simp [M_v]) (by omega)]
   rcases bt (anyI (fibBad n) n.Fibers) with hF | hF
   · simp [hF]
   · simp only [hF,Bool.false_eq_true,if_false,Option.bind_some,Bool.not_false,Bool.true_and,p_within]
     have e:decide ((n.Fibers.length:Int)≤14)=decide (n.Fibers.length≤14):=decide_eq_decide.2 (by omega)
     rw [e]
     cases wi n.Nodes.length 2 8 <;> rfl
theorem find_dup (n:TNetwork) (i:Nat) (x:ByteArray) (hx:n.Nodes[i]?=some x) :
 (fidx x n.Nodes != (i:Int))=(n.Nodes.take i).any fun y=>y.toList==x.toList:=by
 unfold fidx
 cases e:idxZ x n.Nodes with
 | none =>
   have:=findI_none.1 e i x hx
   simp at this
 | some q =>
   obtain ⟨j,y⟩:=q
   obtain ⟨h1,h2,h3⟩:=findI_some.1 e
   simp only
   by_cases hj:j=i
   · subst hj
     have:((n.Nodes.take j).any fun y=>y.toList==x.toList)=false:=by
      rw [List.any_eq_false]
      intro z hz
      obtain ⟨k,hk,rfl⟩:=List.getElem_of_mem hz
      simp only [List.length_take] at hk
      have:=h3 k (n.Nodes.take j)[k] (by omega) (by rw [List.getElem_take]; exact List.getElem?_eq_getElem (by omega))
      rw [this]; simp
     rw [this]; simp
   · have hji:j < i:=by
      rcases Nat.lt_trichotomy j i with h | h | h
      · exact h
      · exact (hj h).elim
      · have:=h3 i x h hx
        simp at this
     have:((n.Nodes.take i).any fun y=>y.toList==x.toList)=true:=List.any_eq_true.2 ⟨y,by
      have:(n.Nodes.take i)[j]?=some y:=by rw [List.getElem?_take,if_pos hji]; exact h1
      exact List.mem_of_getElem? this,h2⟩
     rw [this]
     simp; omega
theorem p_l2Fiber (f:TFiber) (m:Nat) (hm:m≤8) (hm2:2≤m):M_dc f (m:Int)=some (!fib1 m f):=by
 unfold M_dc fib1
 simp only [p_l1In,Option.bind_some]
 rw [w64_eq (n:=(m:Int) - 1) (by omega) (by omega)]
 rcases bt (wi f.A 0 ((m:Int) - 1)) with h1 | h1
 · have h2:=wi_iff.1 h1
   rw [w64_eq (n:=f.A+1) (by omega) (by omega)]
   rcases bt (wi f.B (f.A+1) ((m:Int) - 1)) with h3 | h3
   · have h4:=wi_iff.1 h3
     have a1:decide (f.A < 0)=false:=by simp; omega
     have a2:decide (f.B≤f.A)=false:=by simp; omega
     have a3:decide ((m:Int)≤f.B)=false:=by simp; omega
     simp only [h1,h3,a1,a2,a3,cond_true,Bool.false_or]
     cases wi f.Length 1 5000 <;> cases wi f.Risk 0 9 <;> rfl
   · have h4:=wi_false.1 h3
     simp only [h1,h3,cond_true,cond_false]
     by_cases a2:f.B≤f.A
     · simp [a2]
     · have a3:(m:Int)≤f.B:=by omega
       simp [a3]
 · have h2:=wi_false.1 h1
   simp only [h1,cond_false]
   by_cases a1:f.A < 0
   · simp [a1]
   · by_cases a2:f.B≤f.A
     · simp [a2]
     · have a3:(m:Int)≤f.B:=by omega
       simp [a3]
structure FibOk (m:Int) (f:TFiber):Prop where
 a0:0≤f.A
 ab:f.A < f.B
 bm:f.B < m
 l1:1≤f.Length
 l2:f.Length≤5000
 r0:0≤f.Risk
 r9:f.Risk≤9
theorem fib1_ok {m:Nat} {f:TFiber} (h:fib1 m f=false):FibOk m f:=by
 unfold fib1 at h
 simp only [Bool.or_eq_false_iff,decide_eq_false_iff_not,Bool.not_eq_false',wi_iff] at h
 obtain ⟨⟨⟨⟨h1,h2⟩,h3⟩,h4,h5⟩,h6,h7⟩:=h
 exact ⟨by omega,by omega,by omega,h4,h5,h6,h7⟩
theorem p_before (f g:TFiber) (m:Nat) (hm:m≤8) (hf:FibOk m f) (hg:FibOk m g):∃ r,M_bn f g=some r∧decide (0 < r)=decide (0 < cmpF f g):=by
 obtain ⟨a1,a2,a3,a4,a5,a6,a7⟩:=hf
 obtain ⟨b1,b2,b3,b4,b5,b6,b7⟩:=hg
 have sgn:∀ x y:Int,decide (0 < x - y)=decide (0 < cmpI x y):=by
  intro x y
  unfold cmpI
  by_cases h:x < y
  · rw [if_pos h]; exact decide_eq_decide.2 (by omega)
  · rw [if_neg h]
    by_cases h2:y < x
    · rw [if_pos h2]; exact decide_eq_decide.2 (by omega)
    · rw [if_neg h2]; exact decide_eq_decide.2 (by omega)
 unfold M_bn cmpF
 rw [w64_eq (n:=f.A - g.A) (by omega) (by omega),w64_eq (n:=f.B - g.B) (by omega) (by omega),w64_eq (n:=f.Length - g.Length) (by omega) (by omega),w64_eq (n:=f.Risk - g.Risk) (by omega) (by omega)]
 by_cases h1:f.A=g.A
 · have e1:(f.A != g.A)=false:=by rw [h1]; simp
   by_cases h2:f.B=g.B
   · have e2:(f.B != g.B)=false:=by rw [h2]; simp
     by_cases h3:f.Length=g.Length
     · have e3:(f.Length != g.Length)=false:=by rw [h3]; simp
       exact ⟨f.Risk - g.Risk,by simp only [e1,e2,e3,cond_false],by simp only [h1,h2,h3,ne_eq,not_true,if_false]; exact sgn _ _⟩
     · have e3:(f.Length != g.Length)=true:=bne_iff_ne.2 h3
       exact ⟨f.Length - g.Length,by simp only [e1,e2,e3,cond_false,cond_true],by simp only [h1,h2,h3,ne_eq,not_true,not_false_eq_true,if_false,if_true]; exact sgn _ _⟩
   · have e2:(f.B != g.B)=true:=bne_iff_ne.2 h2
     exact ⟨f.B - g.B,by simp only [e1,e2,cond_false,cond_true],by simp only [h1,h2,ne_eq,not_true,not_false_eq_true,if_false,if_true]; exact sgn _ _⟩
 · have e1:(f.A != g.A)=true:=bne_iff_ne.2 h1
   exact ⟨f.A - g.A,by simp only [e1,cond_true],by simp only [h1,ne_eq,not_false_eq_true,if_true]; exact sgn _ _⟩
theorem p_l2Good (n:TNetwork) (hz:z_Network n≤1048576):M_bh n=some (netOk n):=by
 obtain ⟨z1,z2,z3⟩:=z_net hz
 unfold M_bh netOk
 simp only [p_l1In,Option.bind_some]
 rcases bt (wi n.Nodes.length 2 8) with hw | hw
 · have hw2:=wi_iff.1 hw
   have e:decide (14 < (n.Fibers.length:Int))=!decide (n.Fibers.length≤14):=by
    rw [← decide_not]; exact decide_eq_decide.2 (by omega)
   simp only [hw,e,Bool.not_true,cond_false,Option.bind_some,Bool.and_true]
   rcases bt (decide (n.Fibers.length≤14)) with h14 | h14
   · simp only [h14,Bool.not_true,cond_false,Bool.and_true]
     rw [iter_anyI (f:=M_au n) n.Nodes (nodeBad n) (.inr false) (.inl ()) (fun i x hx _=>by
      have hlt:=(List.getElem?_eq_some_iff.1 hx).1
      have e1:decide ((i:Int) < n.Nodes.length)=true:=by simp [hlt]
      simp only [M_au,e1,cond_true,geti_nat,hx,Option.bind_some,p_l2Name x (z3 x (List.mem_of_getElem? hx)),p_l2Find n.Nodes x z1,find_dup n i x hx,nodeBad]
      rw [w64_eq (by omega) (by omega)]
      rcases bt (nameB x) with e | e <;> rcases bt ((n.Nodes.take i).any (fun y=>y.toList==x.toList)) with e' | e' <;> simp only [e,e'] <;> rfl) (by simp [M_au]) (by omega)]
     rcases bt (anyI (nodeBad n) n.Nodes) with hN | hN
     · simp [hN]
     · simp only [hN,Bool.false_eq_true,if_false,Option.bind_some,Bool.not_false,Bool.true_and]
       rw [iter_anyI (f:=M_av n) n.Fibers (fibBad n) (.inr false) (.inl ()) (fun i x hx hprev=>by
        have hlt:=(List.getElem?_eq_some_iff.1 hx).1
        have e1:decide ((i:Int) < n.Fibers.length)=true:=by simp [hlt]
        simp only [M_av,e1,cond_true,geti_nat,hx,Option.bind_some,p_l2Fiber x n.Nodes.length (by omega) (by omega),Bool.not_not]
        rw [w64_eq (n:=(i:Int)+1) (by omega) (by omega)]
        unfold fibBad
        rcases bt (fib1 n.Nodes.length x) with h1 | h1
        · simp [h1]
        · simp only [h1,cond_false,Bool.false_or]
          by_cases hi:0 < i
          · have hi':decide ((0:Int) < (i:Int))=true:=by simp [hi]
            have hp:n.Fibers[i - 1]?=some n.Fibers[i - 1]:=List.getElem?_eq_getElem (by omega)
            have hw:IntKind.wrap .i64 ((i:Int) - 1)=((i - 1:Nat):Int):=by rw [w64_eq (by omega) (by omega)]; omega
            have hb:=hprev (i - 1) n.Fibers[i - 1] (by omega) hp
            unfold fibBad at hb
            simp only [Bool.or_eq_false_iff] at hb
            obtain ⟨r,r1,r2⟩:=p_before n.Fibers[i - 1] x n.Nodes.length (by omega) (fib1_ok hb.1) (fib1_ok h1)
            simp only [hi',cond_true,hw,geti_nat,hp,Option.bind_some,r1,r2,hi,decide_true,Bool.true_and]
            cases decide (0 < cmpF n.Fibers[i - 1] x) <;> rfl
          · have hi':decide ((0:Int) < (i:Int))=false:=by simp; omega
            simp [hi',hi]) (by simp [M_av]) (by omega)]
       cases anyI (fibBad n) n.Fibers <;> rfl
   · simp [h14]
 · simp [hw]
end Vs

namespace Vs
open Go
theorem netOk_b {n:TNetwork} (h:netOk n=true):2≤n.Nodes.length∧n.Nodes.length≤8∧n.Fibers.length≤14:=by
 unfold netOk at h
 simp only [Bool.and_eq_true,decide_eq_true_eq,wi_iff] at h
 omega
theorem netOk_fib {n:TNetwork} (h:netOk n=true) {i:Nat} {f:TFiber} (hf:n.Fibers[i]?=some f):FibOk n.Nodes.length f:=by
 unfold netOk at h
 simp only [Bool.and_eq_true,Bool.not_eq_true'] at h
 have:=anyI_false.1 h.1.1.2 i f hf
 unfold fibBad at this
 simp only [Bool.or_eq_false_iff] at this
 exact fib1_ok this.1
def idxs (r:Int):Nat→List TFiber→List Int
 | _,[]=>[]
 | i,f::fs=>if f.Risk=r then (i:Int)::idxs r (i+1) fs else idxs r (i+1) fs
theorem idxs_cons (r:Int) (i:Nat) (f:TFiber) (fs:List TFiber):idxs r i (f::fs)=if f.Risk=r then (i:Int)::idxs r (i+1) fs else idxs r (i+1) fs:=rfl
theorem idxs_len (r:Int):∀ (fs:List TFiber) (i:Nat),(idxs r i fs).length≤fs.length
 | [],i=>by simp [idxs]
 | f :: fs, i => by
   have:=idxs_len r fs (i+1)
   rw [idxs_cons]; split <;> simp <;> omega
theorem idxs_mem (r:Int):∀ (fs:List TFiber) (i:Nat) (x:Int),x∈idxs r i fs↔∃ j f,fs[j]?=some f∧f.Risk=r∧x=((i+j:Nat):Int)
 | [],i,x=>by simp [idxs]
 | f :: fs, i, x => by
   have ih:=idxs_mem r fs (i+1) x
   have step:(∃ j g,(f::fs)[j]?=some g∧g.Risk=r∧x=((i+j:Nat):Int))↔(f.Risk=r∧x=(i:Int))∨∃ j g,fs[j]?=some g∧g.Risk=r∧x=((i+1+j:Nat):Int):=by
    constructor
    · rintro ⟨j,g,h1,h2,h3⟩
      cases j with
      | zero=>simp at h1; subst h1; exact .inl ⟨h2,h3⟩
      | succ j=>exact .inr ⟨j,g,by simpa using h1,h2,by rw [h3]; congr 1; omega⟩
    · rintro (⟨h1,h2⟩ | ⟨j,g,h1,h2,h3⟩)
      · exact ⟨0,f,rfl,h1,h2⟩
      · exact ⟨j+1,g,by simpa using h1,h2,by rw [h3]; congr 1; omega⟩
   rw [step,← ih]
   rw [idxs_cons]
   split
   · rename_i h; simp [h]
   · rename_i h; simp [h]
theorem idxs_fold (r:Int):∀ (fs:List TFiber) (i:Nat) (acc:List Int),walkL (fun i (f:TFiber) (a:List Int)=>(.inl (if f.Risk=r then a++[(i:Int)] else a):List Int ⊕ List Int)) (fun a=>a) i fs acc=acc++idxs r i fs
 | [],i,acc=>by simp [walkL,idxs]
 | f :: fs, i, acc => by
   simp only [walkL]
   rw [idxs_fold r fs (i+1)]
   rw [idxs_cons]
   split <;> simp
def risks:List Int:=[1,2,3,4,5,6,7,8,9]
def groupsP (n:TNetwork):List (List Int):=((risks.map fun r=>idxs r 0 n.Fibers).filter fun l=>decide (0 < l.length))++(idxs 0 0 n.Fibers).map fun i=>[i]
theorem groupsP_len (n:TNetwork) (h:n.Fibers.length≤14):(groupsP n).length≤23:=by
 have:=idxs_len 0 n.Fibers 0
 have h2:=List.length_filter_le (fun l:List Int=>decide (0 < l.length)) (risks.map fun r=>idxs r 0 n.Fibers)
 have h3:(risks.map fun r=>idxs r 0 n.Fibers).length=9:=rfl
 unfold groupsP
 simp only [List.length_append,List.length_map]
 omega
theorem idx_loop {f:Int×List Int→Option ((Int×List Int) ⊕ List Int)} (fs:List TFiber) (r:Int) (hl:fs.length≤1048576)
 (h1:∀ (i:Nat) x (a:List Int),fs[i]?=some x→a.length≤i→f ((i:Int),a)=some (.inl (((i+1:Nat):Int),if x.Risk=r then a++[(i:Int)] else a)))
 (h2:∀ a,f ((fs.length:Int),a)=some (.inr a)):iter f N0 (0,[])=some (idxs r 0 fs):=by
 have:=iter_list (f:=f) fs (fun i (a:List Int)=>((i:Int),a)) (fun i x a=>.inl (if x.Risk=r then a++[(i:Int)] else a)) (fun a=>a) (fun i a=>a.length≤i) (fun i a x hx hI=>by
  refine .inl ⟨_,rfl,?_,h1 i x a hx hI⟩
  split <;> first | omega | (simp only [List.length_append,List.length_cons,List.length_nil]; omega)) (fun a _=>h2 a) [] (by simp) (by omega)
 rw [show iter f N0 (0,[])=_ from this,idxs_fold]; rfl
theorem app_loop {f:Int×List (List Int)→Option ((Int×List (List Int)) ⊕ List (List Int))} (fs:List TFiber) (G:List (List Int)) (hl:fs.length≤1048576) (hG:G.length≤100)
 (h1:∀ (i:Nat) x (a:List (List Int)),fs[i]?=some x→a.length≤100+i→f ((i:Int),a)=some (.inl (((i+1:Nat):Int),if x.Risk=0 then a++[[(i:Int)]] else a)))
 (h2:∀ a,f ((fs.length:Int),a)=some (.inr a)):iter f N0 (0,G)=some (G++(idxs 0 0 fs).map fun i=>[i]):=by
 have:=iter_list (f:=f) fs (fun i (a:List (List Int))=>((i:Int),a)) (fun i x a=>.inl (if x.Risk=0 then a++[[(i:Int)]] else a)) (fun a=>a) (fun i a=>a.length≤100+i) (fun i a x hx hI=>by
  refine .inl ⟨_,rfl,?_,h1 i x a hx hI⟩
  split <;> first | omega | (simp only [List.length_append,List.length_cons,List.length_nil]; omega)) (fun a _=>h2 a) G (by omega) (by omega)
 rw [show iter f N0 (0,G)=_ from this]
 have gen:∀ (fs:List TFiber) (i:Nat) (acc:List (List Int)),walkL (fun i (f:TFiber) (a:List (List Int))=>(.inl (if f.Risk=0 then a++[[(i:Int)]] else a):List (List Int) ⊕ List (List Int))) (fun a=>a) i fs acc=acc++(idxs 0 i fs).map fun i=>[i]:=by
  intro fs
  induction fs with
  | nil=>intro i acc; simp [walkL,idxs]
  | cons f fs ih =>
    intro i acc
    simp only [walkL]
    rw [ih (i+1)]
    rw [idxs_cons]
    split <;> simp
 rw [gen]
theorem risk_loop {f:Int×List (List Int)→Option ((Int×List (List Int)) ⊕ List (List Int))} (fs:List TFiber)
 (h1:∀ (r:Int) (a:List (List Int)),1≤r→r≤9→a.length≤10→f (r,a)=some (.inl (r+1,if 0 < (idxs r 0 fs).length then a++[idxs r 0 fs] else a)))
 (h2:∀ a,f (10,a)=some (.inr a)):iter f N0 (1,[])=some ((risks.map fun r=>idxs r 0 fs).filter fun l=>decide (0 < l.length)):=by
 have:=iter_list (f:=f) risks (fun i (a:List (List Int))=>((i:Int)+1,a)) (fun i r a=>.inl (if 0 < (idxs r 0 fs).length then a++[idxs r 0 fs] else a)) (fun a=>a) (fun i a=>a.length≤i) (fun i a r hr hI=>by
  have hi:i < 9:=by have:=(List.getElem?_eq_some_iff.1 hr).1; simpa [risks] using this
  have e:(i:Int)+1=r:=by
   rcases i with _ | _ | _ | _ | _ | _ | _ | _ | _ | i <;> first | (simp [risks] at hr; omega) | omega
  refine .inl ⟨_,rfl,?_,?_⟩
  · split <;> first | omega | (simp only [List.length_append,List.length_cons,List.length_nil]; omega)
  · rw [e,h1 r a (by omega) (by omega) (by omega)]
    have:((i+1:Nat):Int)+1=r+1:=by omega
    rw [this]) (fun a _=>by have:=h2 a; simpa [risks] using this) [] (by simp) (by simp [risks])
 rw [show iter f N0 (1,[])=_ from this]
 have gen:∀ (rs:List Int) (i:Nat) (acc:List (List Int)),walkL (fun (_:Nat) (r:Int) (a:List (List Int))=>(.inl (if 0 < (idxs r 0 fs).length then a++[idxs r 0 fs] else a):List (List Int) ⊕ List (List Int))) (fun a=>a) i rs acc =
  acc++(rs.map fun r=>idxs r 0 fs).filter fun l=>decide (0 < l.length):=by
  intro rs
  induction rs with
  | nil=>intro i acc; simp [walkL]
  | cons r rs ih =>
    intro i acc
    simp only [walkL]
    rw [ih (i+1),List.map_cons,List.filter_cons]
    by_cases h:0 < (idxs r 0 fs).length
    · simp [h]
    · simp [h]
 rw [gen]; rfl
theorem p_groups (n:TNetwork) (h:n.Fibers.length≤14):M_bu n=some (groupsP n):=by
 unfold M_bu
 rw [risk_loop (f:=M_aa n) n.Fibers (fun r a hr1 hr9 ha=>by
  have e1:decide (r≤9)=true:=by simp [hr9]
  simp only [M_aa,e1,cond_true]
  rw [idx_loop (f:=M_z n (r,a)) n.Fibers r (by omega) (fun i x b hx hb=>by
   have hlt:=(List.getElem?_eq_some_iff.1 hx).1
   have e1:decide ((i:Int) < n.Fibers.length)=true:=by simp [hlt]
   simp only [M_z,e1,cond_true,geti_nat,hx,Option.bind_some,bnd]
   rw [grd_t (by omega),w64_eq (by omega) (by omega)]
   by_cases e:x.Risk=r
   · simp [e]
   · simp [e,cond_ite]) (fun a=>by simp [M_z])]
  simp only [Option.bind_some,bnd]
  rw [grd_t (by omega),w64_eq (by omega) (by omega)]
  by_cases e:0 < (idxs r 0 n.Fibers).length
  · have e':decide ((0:Int) < ((idxs r 0 n.Fibers).length:Int))=true:=by simpa using e
    simp only [e',cond_true,if_pos e,Option.bind_some]
  · have e':decide ((0:Int) < ((idxs r 0 n.Fibers).length:Int))=false:=by simpa using e
    simp only [e',cond_false,if_neg e]) (fun a=>by simp [M_aa])]
 simp only [Option.bind_some]
 have hl:=List.length_filter_le (fun l:List Int=>decide (0 < l.length)) (risks.map fun r=>idxs r 0 n.Fibers)
 have hl9:(risks.map fun r=>idxs r 0 n.Fibers).length=9:=rfl
 rw [app_loop (f:=M_ab n) n.Fibers _ (by omega) (by omega) (fun i x a hx ha=>by
  have hlt:=(List.getElem?_eq_some_iff.1 hx).1
  have e1:decide ((i:Int) < n.Fibers.length)=true:=by simp [hlt]
  simp only [M_ab,e1,cond_true,geti_nat,hx,Option.bind_some,bnd]
  rw [grd_t (by omega),w64_eq (by omega) (by omega)]
  by_cases e:x.Risk=0
  · simp [e]
  · simp [e,cond_ite]) (fun a=>by simp [M_ab])]
 rfl
theorem p_l2Group (n:TNetwork) (h:n.Fibers.length≤14) (i:Nat) (f:TFiber) (hf:n.Fibers[i]?=some f) (hr:f.Risk ≠ 0):M_dg n (i:Int)=some (idxs f.Risk 0 n.Fibers):=by
 unfold M_dg
 have e:(f.Risk==0)=false:=by simpa using hr
 simp only [geti_nat,hf,Option.bind_some,e,cond_false]
 rw [idx_loop (f:=M_x n (i:Int)) n.Fibers f.Risk (by omega) (fun j x b hx hb=>by
  have hlt:=(List.getElem?_eq_some_iff.1 hx).1
  have e1:decide ((j:Int) < n.Fibers.length)=true:=by simp [hlt]
  simp only [M_x,e1,cond_true,geti_nat,hx,hf,Option.bind_some,bnd]
  rw [grd_t (by omega),w64_eq (by omega) (by omega)]
  by_cases e:x.Risk=f.Risk
  · simp [e]
  · simp [e,cond_ite]) (fun a=>by simp [M_x])]
 rfl
theorem idxs_pos {r:Int} {fs:List TFiber}:0 < (idxs r 0 fs).length↔∃ (j:Nat) (f:TFiber),fs[j]?=some f∧f.Risk=r:=by
 constructor
 · intro h
   obtain ⟨x,hx⟩:=List.exists_mem_of_length_pos h
   obtain ⟨j,f,h1,h2,_⟩:=(idxs_mem r fs 0 x).1 hx
   exact ⟨j,f,h1,h2⟩
 · rintro ⟨j,f,h1,h2⟩
   exact List.length_pos_of_mem ((idxs_mem r fs 0 _).2 ⟨j,f,h1,h2,rfl⟩)
theorem p_l2Groups (n:TNetwork) (h:n.Fibers.length≤14):M_be n=some (groupsP n):=by
 unfold M_be
 rw [risk_loop (f:=M_ax n) n.Fibers (fun r a hr1 hr9 ha=>by
  have e1:decide (r≤9)=true:=by simp [hr9]
  simp only [M_ax,e1,cond_true]
  have key:iter (M_j n (r,a)) N0 0=some (if 0 < (idxs r 0 n.Fibers).length then a++[idxs r 0 n.Fibers] else a):=by
   rw [iter_anyI (f:=M_j n (r,a)) n.Fibers (fun _ f=>decide (f.Risk=r)) (a++[idxs r 0 n.Fibers]) a (fun i x hx _=>by
    have hlt:=(List.getElem?_eq_some_iff.1 hx).1
    have e1:decide ((i:Int) < n.Fibers.length)=true:=by simp [hlt]
    simp only [M_j,e1,cond_true,geti_nat,hx,Option.bind_some,bnd]
    by_cases e:x.Risk=r
    · have e0:x.Risk ≠ 0:=by omega
      have e2:(x.Risk==r)=true:=by simp [e]
      rw [p_l2Group n h i x hx e0]
      simp only [e2,cond_true,Option.bind_some]
      rw [grd_t (by omega)]
      simp [e]
    · have e2:(x.Risk==r)=false:=by simp [e]
      simp only [e2,cond_false]
      rw [w64_eq (by omega) (by omega)]
      simp [e]) (by simp [M_j]) (by omega)]
   by_cases hp:0 < (idxs r 0 n.Fibers).length
   · rw [if_pos hp]
     obtain ⟨j,f,h1,h2⟩:=idxs_pos.1 hp
     have:anyI (fun _ (f:TFiber)=>decide (f.Risk=r)) n.Fibers=true:=anyI_iff.2 ⟨j,f,h1,by simp [h2]⟩
     rw [this]; rfl
   · rw [if_neg hp]
     have:anyI (fun _ (f:TFiber)=>decide (f.Risk=r)) n.Fibers=false:=anyI_false.2 fun i x hx=>by
      simp only [decide_eq_false_iff_not]
      intro e; exact hp (idxs_pos.2 ⟨i,x,hx,e⟩)
     rw [this]; rfl
  rw [key]
  simp only [Option.bind_some]
  rw [w64_eq (by omega) (by omega)]) (fun a=>by simp [M_ax])]
 simp only [Option.bind_some]
 have hl:=List.length_filter_le (fun l:List Int=>decide (0 < l.length)) (risks.map fun r=>idxs r 0 n.Fibers)
 have hl9:(risks.map fun r=>idxs r 0 n.Fibers).length=9:=rfl
 rw [app_loop (f:=M_y n) n.Fibers _ (by omega) (by omega) (fun i x a hx ha=>by
  have hlt:=(List.getElem?_eq_some_iff.1 hx).1
  have e1:decide ((i:Int) < n.Fibers.length)=true:=by simp [hlt]
  simp only [M_y,e1,cond_true,geti_nat,hx,Option.bind_some,bnd]
  rw [grd_t (by omega),w64_eq (by omega) (by omega)]
  by_cases e:x.Risk=0
  · simp [e]
  · simp [e,cond_ite]) (fun a=>by simp [M_y])]
 rfl
end Vs

namespace Vs
open Go
theorem p_ContainsFunc_i (xs:List Int) (f:Int→Option Bool) (p:Int→Bool) (hf:∀ x,f x=some (p x)) (hl:xs.length≤1048576):M_bv xs f=some (xs.any p):=by
 unfold M_bv M_du
 rw [iter_findI (f:=M_ay xs f) xs (fun _ x=>p x) (fun i _=>(i:Int)) () (fun i x hx _=>by
  have hlt:=(List.getElem?_eq_some_iff.1 hx).1
  have h1:decide ((i:Int) < xs.length)=true:=by simp [hlt]
  simp only [M_ay,h1,cond_true,geti_nat,hx,hf,Option.bind_some]
  rw [w64_eq (by omega) (by omega)]
  rcases bt (p x) with e | e <;> simp only [e] <;> rfl) (by simp [M_ay]) (by omega)]
 rw [← anyI_any]
 cases e:findI (fun _ x=>p x) xs with
 | none =>
   have:=findI_none.1 e
   have h:anyI (fun _ x=>p x) xs=false:=anyI_false.2 this
   rw [h]; rfl
 | some q =>
   obtain ⟨i,x⟩:=q
   obtain ⟨h1,h2,_⟩:=findI_some.1 e
   have h:anyI (fun _ x=>p x) xs=true:=anyI_iff.2 ⟨i,x,h1,h2⟩
   rw [h]; simp
def outOk (n:TNetwork) (o:TOutage):Bool:=netOk n&&wi o.Unit 2 20&&decide (o.Down.length=(groupsP n).length)&&!o.Down.any fun d=>!wi d 0 o.Unit
theorem beq_len {α β:Type} (a:List α) (b:List β):((a.length:Int)==(b.length:Int))=decide (a.length=b.length):=by
 rw [Bool.eq_iff_iff]; simp; omega
theorem p_impl_Outage (n:TNetwork) (o:TOutage) (hz:z_Network n≤1048576) (ho:o.Down.length≤1048576):M_bo n o=some (outOk n o):=by
 unfold M_bo outOk
 simp only [p_IsValidNetwork n hz,Option.bind_some,p_within]
 rcases bt (netOk n) with hn | hn
 · have hb:=netOk_b hn
   simp only [hn,cond_true,p_groups n hb.2.2,Option.bind_some,beq_len,p_ContainsFunc_i o.Down (fun x0=>M_dk x0 o) (fun d=>!wi d 0 o.Unit) (fun d=>by unfold M_dk; simp only [p_within,Option.bind_some]) ho]
   cases wi o.Unit 2 20 <;> cases decide (o.Down.length=(groupsP n).length) <;> simp
 · simp [hn]
theorem p_spec_Outage (n:TNetwork) (o:TOutage) (hz:z_Network n≤1048576) (ho:o.Down.length≤1048576):M_bp n o=some (outOk n o):=by
 unfold M_bp outOk
 simp only [p_l2Good n hz,Option.bind_some,p_l1In]
 rcases bt (netOk n) with hn | hn
 · have hb:=netOk_b hn
   simp only [hn,Bool.not_true,cond_false,p_l2Groups n hb.2.2,Option.bind_some,Bool.true_and]
   have e:((o.Down.length:Int) != ((groupsP n).length:Int))=!decide (o.Down.length=(groupsP n).length):=by rw [bne,beq_len]
   rw [e,iter_anyI (f:=M_az o) o.Down (fun _ d=>!wi d 0 o.Unit) (.inr false) (.inl ()) (fun i x hx _=>by
    have hlt:=(List.getElem?_eq_some_iff.1 hx).1
    have h1:decide ((i:Int) < o.Down.length)=true:=by simp [hlt]
    simp only [M_az,h1,cond_true,geti_nat,hx,p_l1In,Option.bind_some]
    rw [w64_eq (by omega) (by omega)]
    rcases bt (wi x 0 o.Unit) with e | e <;> simp only [e] <;> rfl) (by simp [M_az]) (by omega),anyI_any]
   cases wi o.Unit 2 20 <;> cases decide (o.Down.length=(groupsP n).length) <;> cases (o.Down.any fun d=>!wi d 0 o.Unit) <;> rfl
 · simp [hn]
end Vs

namespace Vs
open Go
def bitG (_:Nat) (x:Int) (m:Int):Int:=bits .or .i64 m (IntKind.wrap .i64 (1 * 2 ^ (min (Int.toNat x) (IntKind.bits .i64))))
def maskP (l:List Int):Int:=foldI bitG 0 l 0
theorem p_l6Mask (l:List Int) (h0:∀ x∈l,0≤x∧x < 1048576) (hl:l.length≤1048576):M_dl l=some (maskP l):=by
 unfold M_dl
 have:iter (M_ah l) N0 (0,0)=some (maskP l):=by
  refine iter_foldI (f:=M_ah l) l (fun i (a:Int)=>(a,(i:Int))) bitG id (fun _ _=>True) (fun i a x hx _=>?_) (fun a _=>by simp [M_ah]) 0 trivial (by omega)
  have hlt:=(List.getElem?_eq_some_iff.1 hx).1
  have h1:decide ((i:Int) < l.length)=true:=by simp [hlt]
  have h2:=h0 x (List.mem_of_getElem? hx)
  have h3:IntKind.wrap .u64 x=x:=w64u_eq h2.1 (by omega)
  simp only [M_ah,h1,cond_true,geti_nat,hx,Option.bind_some,h3,grd_t h2.1]
  rw [w64_eq (n:=(i:Int)+1) (by omega) (by omega)]
  exact ⟨trivial,rfl⟩
 rw [this]; rfl
def wtG (u s:Int) (i:Nat) (d a:Int):Int:=if bits .and .i64 (Int.fdiv s (2 ^ (min i (IntKind.bits .i64)))) 1==1 then IntKind.wrap .i64 (a * d) else IntKind.wrap .i64 (a * IntKind.wrap .i64 (u - d))
def weightP (o:TOutage) (s:Int):Int:=foldI (wtG o.Unit s) 0 o.Down 1
theorem p_impl_weight (o:TOutage) (s:Int) (hl:o.Down.length≤1048576):M_bw o s=some (weightP o s):=by
 unfold M_bw
 have:iter (M_q o s) N0 (1,0)=some (weightP o s):=by
  refine iter_foldI (f:=M_q o s) o.Down (fun i (a:Int)=>(a,(i:Int))) (wtG o.Unit s) id (fun _ _=>True) (fun i a x hx _=>?_) (fun a _=>by simp [M_q]) 1 trivial (by omega)
  have hlt:=(List.getElem?_eq_some_iff.1 hx).1
  have h1:decide ((i:Int) < o.Down.length)=true:=by simp [hlt]
  have h2:(0:Int)≤(i:Int):=by omega
  simp only [M_q,h1,cond_true,geti_nat,hx,Option.bind_some,grd_t h2,Int.toNat_natCast]
  rw [w64_eq (n:=(i:Int)+1) (by omega) (by omega)]
  refine ⟨trivial,?_⟩
  unfold wtG
  rcases bt (bits .and .i64 (Int.fdiv s (2 ^ (min i (IntKind.bits .i64)))) 1==1) with e | e <;> simp only [e] <;> rfl
 rw [this]; rfl
theorem p_spec_weight (o:TOutage) (s:Int) (hl:o.Down.length≤1048576):M_by o s=some (weightP o s):=by
 unfold M_by
 have:iter (M_s o s) N0 (1,0)=some (weightP o s):=by
  refine iter_foldI (f:=M_s o s) o.Down (fun i (a:Int)=>(a,(i:Int))) (wtG o.Unit s) id (fun _ _=>True) (fun i a x hx _=>?_) (fun a _=>by simp [M_s]) 1 trivial (by omega)
  have hlt:=(List.getElem?_eq_some_iff.1 hx).1
  have h1:decide ((i:Int) < o.Down.length)=true:=by simp [hlt]
  have h2:(0:Int)≤(i:Int):=by omega
  have h3:IntKind.wrap .u64 (i:Int)=(i:Int):=w64u_eq h2 (by omega)
  simp only [M_s,h1,cond_true,geti_nat,hx,Option.bind_some,h3,grd_t h2,Int.toNat_natCast]
  rw [w64_eq (n:=(i:Int)+1) (by omega) (by omega)]
  refine ⟨trivial,?_⟩
  unfold wtG
  rcases bt (bits .and .i64 (Int.fdiv s (2 ^ (min i (IntKind.bits .i64)))) 1==1) with e | e <;> simp only [e] <;> rfl
 rw [this]; rfl
end Vs

namespace Vs
open Go
def gt (o:List Int) (v:Nat):Int:=o.getD v 0
def mn (a b:Int):Int:=if b < a then b else a
theorem mn_le (a b:Int):mn a b≤a∧mn a b≤b∧(mn a b=a∨mn a b=b):=by unfold mn; split <;> omega
theorem gt_set (o:List Int) (a v:Nat) (x:Int) (ha:a < o.length):gt (o.set a x) v=if v=a then x else gt o v:=by
 unfold gt
 rw [List.getD_eq_getElem?_getD,List.getD_eq_getElem?_getD,List.getElem?_set]
 by_cases h:a=v
 · subst h; simp [ha]
 · rw [if_neg h,if_neg (Ne.symm h)]
def relax (o:List Int) (a b:Nat):List Int:=(o.set a (mn (gt o a) (gt o b))).set b (mn (gt o a) (gt o b))
theorem relax_len (o:List Int) (a b:Nat):(relax o a b).length=o.length:=by simp [relax]
theorem gt_relax (o:List Int) (a b v:Nat) (ha:a < o.length) (hb:b < o.length):gt (relax o a b) v=if v=a∨v=b then mn (gt o a) (gt o b) else gt o v:=by
 unfold relax
 rw [gt_set _ _ _ _ (by simpa using hb),gt_set _ _ _ _ ha]
 by_cases h:v=b <;> by_cases h2:v=a <;> simp [h,h2]
def passP (al:Nat→Bool):Nat→List TFiber→List Int→List Int
 | _,[],o=>o
 | i,f::fs,o=>passP al (i+1) fs (if al i then relax o f.A.toNat f.B.toNat else o)
def Ed (fs:List TFiber) (N:Nat):Prop:=∀ f∈fs,f.A.toNat < N∧f.B.toNat < N
theorem Ed.tl {f:TFiber} {fs:List TFiber} {N:Nat} (h:Ed (f::fs) N):Ed fs N:=fun g hg=>h g (List.mem_cons_of_mem _ hg)
theorem Ed.hd {f:TFiber} {fs:List TFiber} {N:Nat} (h:Ed (f::fs) N):f.A.toNat < N∧f.B.toNat < N:=h f List.mem_cons_self
def one (al:Nat→Bool) (i:Nat) (f:TFiber) (o:List Int):List Int:=if al i then relax o f.A.toNat f.B.toNat else o
theorem one_len (al:Nat→Bool) (i:Nat) (f:TFiber) (o:List Int):(one al i f o).length=o.length:=by unfold one; split <;> simp [relax_len]
theorem pass_cons (al:Nat→Bool) (i:Nat) (f:TFiber) (fs:List TFiber) (o:List Int):passP al i (f::fs) o=passP al (i+1) fs (one al i f o):=rfl
theorem pass_len (al:Nat→Bool):∀ (fs:List TFiber) (i:Nat) (o:List Int),(passP al i fs o).length=o.length
 | [],_,_=>rfl
 | f::fs,i,o=>by rw [pass_cons,pass_len al fs,one_len]
theorem one_le (al:Nat→Bool) (i:Nat) (f:TFiber) (o:List Int) (h:f.A.toNat < o.length∧f.B.toNat < o.length) (v:Nat):gt (one al i f o) v≤gt o v:=by
 unfold one
 split
 · rw [gt_relax _ _ _ _ h.1 h.2]
   have:=mn_le (gt o f.A.toNat) (gt o f.B.toNat)
   split
   · rename_i e; rcases e with e | e <;> subst e <;> omega
   · omega
 · omega
theorem pass_le (al:Nat→Bool):∀ (fs:List TFiber) (i:Nat) (o:List Int),Ed fs o.length→∀ v,gt (passP al i fs o) v≤gt o v
 | [],_,_,_,v=>Int.le_refl _
 | f :: fs, i, o, h, v => by
   rw [pass_cons]
   have h1:=pass_le al fs (i+1) (one al i f o) (by rw [one_len]; exact h.tl) v
   have h2:=one_le al i f o h.hd v
   omega
def Flat (al:Nat→Bool) (i:Nat) (fs:List TFiber) (F:Nat→Int):Prop:=∀ j f,fs[j]?=some f→al (i+j)=true→F f.A.toNat=F f.B.toNat
theorem Flat.tl {al:Nat→Bool} {i:Nat} {f:TFiber} {fs:List TFiber} {F:Nat→Int} (h:Flat al i (f::fs) F):Flat al (i+1) fs F:=fun j g hg ha=>h (j+1) g (by simpa using hg) (by rw [show i+(j+1)=i+1+j by omega]; exact ha)
theorem Flat.hd {al:Nat→Bool} {i:Nat} {f:TFiber} {fs:List TFiber} {F:Nat→Int} (h:Flat al i (f::fs) F) (ha:al i=true):F f.A.toNat=F f.B.toNat:=h 0 f rfl ha
theorem one_ge {al:Nat→Bool} {i:Nat} {f:TFiber} {o:List Int} {F:Nat→Int} (h:f.A.toNat < o.length∧f.B.toNat < o.length) (hF:al i=true→F f.A.toNat=F f.B.toNat) (ho:∀ v,F v≤gt o v) (v:Nat):F v≤gt (one al i f o) v:=by
 unfold one
 split
 · rename_i ha
   rw [gt_relax _ _ _ _ h.1 h.2]
   have:=mn_le (gt o f.A.toNat) (gt o f.B.toNat)
   have e:=hF ha
   have h1:=ho f.A.toNat
   have h2:=ho f.B.toNat
   split
   · rename_i e'; rcases e' with e' | e' <;> subst e' <;> omega
   · exact ho v
 · exact ho v
theorem pass_ge {al:Nat→Bool} {F:Nat→Int}:∀ (fs:List TFiber) (i:Nat) (o:List Int),Ed fs o.length→Flat al i fs F→(∀ v,F v≤gt o v)→∀ v,F v≤gt (passP al i fs o) v
 | [],_,_,_,_,ho,v=>ho v
 | f :: fs, i, o, h, hF, ho, v => by
   rw [pass_cons]
   exact pass_ge fs (i+1) _ (by rw [one_len]; exact h.tl) hF.tl (fun v=>one_ge h.hd hF.hd ho v) v
theorem pass_hit {al:Nat→Bool} {F:Nat→Int}:∀ (fs:List TFiber) (i:Nat) (o:List Int),Ed fs o.length→Flat al i fs F→(∀ v,F v≤gt o v) →
 ∀ j f,fs[j]?=some f→al (i+j)=true→(gt o f.A.toNat=F f.A.toNat∨gt o f.B.toNat=F f.B.toNat)→gt (passP al i fs o) f.A.toNat=F f.A.toNat∧gt (passP al i fs o) f.B.toNat=F f.B.toNat
 | [],_,_,_,_,_,j,f,hf,_,_=>by simp at hf
 | g :: fs, i, o, h, hF, ho, j, f, hf, ha, hx => by
   have ho':=fun v=>one_ge (al:=al) (i:=i) h.hd hF.hd ho v
   have hl:=one_le al i g o h.hd
   have hEd:Ed fs (one al i g o).length:=by rw [one_len]; exact h.tl
   rw [pass_cons]
   cases j with
   | zero =>
     simp at hf; subst hf
     have e:=hF.hd ha
     have hm:=mn_le (gt o g.A.toNat) (gt o g.B.toNat)
     have h1:=ho g.A.toNat
     have h2:=ho g.B.toNat
     have ga:gt (one al i g o) g.A.toNat=mn (gt o g.A.toNat) (gt o g.B.toNat):=by
      have ha0:al i=true:=ha; unfold one; rw [if_pos ha0,gt_relax _ _ _ _ h.hd.1 h.hd.2,if_pos (.inl rfl)]
     have gb:gt (one al i g o) g.B.toNat=mn (gt o g.A.toNat) (gt o g.B.toNat):=by
      have ha0:al i=true:=ha; unfold one; rw [if_pos ha0,gt_relax _ _ _ _ h.hd.1 h.hd.2,if_pos (.inr rfl)]
     have p1:=pass_ge fs (i+1) _ hEd hF.tl ho' g.A.toNat
     have p2:=pass_ge fs (i+1) _ hEd hF.tl ho' g.B.toNat
     have q1:=pass_le al fs (i+1) _ hEd g.A.toNat
     have q2:=pass_le al fs (i+1) _ hEd g.B.toNat
     rcases hx with hx | hx <;> omega
   | succ j =>
     refine pass_hit fs (i+1) _ hEd hF.tl ho' j f (by simpa using hf) (by rw [show i+1+j=i+(j+1) by omega]; exact ha) ?_
     have l1:=hl f.A.toNat
     have l2:=hl f.B.toNat
     have g1:=ho' f.A.toNat
     have g2:=ho' f.B.toNat
     rcases hx with hx | hx
     · left; omega
     · right; omega
def Clo (al:Nat→Bool) (i:Nat) (fs:List TFiber) (X:Nat→Prop):Prop:=∀ j f,fs[j]?=some f→al (i+j)=true→(X f.A.toNat↔X f.B.toNat)
theorem pass_clo {al:Nat→Bool} {X:Nat→Prop}:∀ (fs:List TFiber) (i:Nat) (o:List Int),Ed fs o.length→Clo al i fs X→(∀ v,v < o.length→(X v↔X (gt o v).toNat))→∀ v,v < o.length→(X v↔X (gt (passP al i fs o) v).toNat)
 | [],_,_,_,_,ho,v,hv=>ho v hv
 | f :: fs, i, o, h, hX, ho, v, hv => by
   rw [pass_cons]
   refine pass_clo fs (i+1) _ (by rw [one_len]; exact h.tl) (fun j g hg ha=>hX (j+1) g (by simpa using hg) (by rw [show i+(j+1)=i+1+j by omega]; exact ha)) (fun v hv=>?_) v (by rw [one_len]; exact hv)
   rw [one_len] at hv
   unfold one
   split
   · rename_i ha
     rw [gt_relax _ _ _ _ h.hd.1 h.hd.2]
     have e:=hX 0 f rfl ha
     have e1:=ho f.A.toNat h.hd.1
     have e2:=ho f.B.toNat h.hd.2
     split
     · rename_i e'
       rcases (mn_le (gt o f.A.toNat) (gt o f.B.toNat)).2.2 with m | m <;> rw [m] <;> rcases e' with e' | e' <;> subst e'
       · exact e1
       · rw [← e]; exact e1
       · rw [e]; exact e2
       · exact e2
     · exact ho v hv
   · exact ho v hv
theorem pass_rng {al:Nat→Bool} {N:Int}:∀ (fs:List TFiber) (i:Nat) (o:List Int),Ed fs o.length→(∀ v,v < o.length→0≤gt o v∧gt o v < N)→∀ v,v < o.length→0≤gt (passP al i fs o) v∧gt (passP al i fs o) v < N
 | [],_,_,_,ho,v,hv=>ho v hv
 | f :: fs, i, o, h, ho, v, hv => by
   rw [pass_cons]
   refine pass_rng fs (i+1) _ (by rw [one_len]; exact h.tl) (fun v hv=>?_) v (by rw [one_len]; exact hv)
   rw [one_len] at hv
   unfold one
   split
   · rw [gt_relax _ _ _ _ h.hd.1 h.hd.2]
     have e1:=ho f.A.toNat h.hd.1
     have e2:=ho f.B.toNat h.hd.2
     split
     · rcases (mn_le (gt o f.A.toNat) (gt o f.B.toNat)).2.2 with m | m <;> rw [m] <;> assumption
     · exact ho v hv
   · exact ho v hv
theorem gt_ext {o o':List Int} (hl:o.length=o'.length) (h:∀ v,gt o v=gt o' v):o=o':=by
 apply List.ext_getElem hl
 intro i h1 h2
 have:=h i
 unfold gt at this
 rw [List.getD_eq_getElem?_getD,List.getD_eq_getElem?_getD,List.getElem?_eq_getElem h1,List.getElem?_eq_getElem h2] at this
 exact this
theorem pass_fix {al:Nat→Bool}:∀ (fs:List TFiber) (i:Nat) (o:List Int),Ed fs o.length→(∀ v,gt (passP al i fs o) v=gt o v)→Flat al i fs (gt o)
 | [],_,_,_,_,j,f,hf,_=>by simp at hf
 | g :: fs, i, o, h, hfix, j, f, hf, ha => by
   rw [pass_cons] at hfix
   have hl:=one_le al i g o h.hd
   have hEd:Ed fs (one al i g o).length:=by rw [one_len]; exact h.tl
   have hp:=pass_le al fs (i+1) (one al i g o) hEd
   have e:one al i g o=o:=gt_ext (one_len ..) fun v=>by have:=hl v; have:=hp v; have:=hfix v; omega
   cases j with
   | zero =>
     simp at hf; subst hf
     have ga:gt (one al i g o) g.A.toNat=mn (gt o g.A.toNat) (gt o g.B.toNat):=by
      have ha0:al i=true:=ha; unfold one; rw [if_pos ha0,gt_relax _ _ _ _ h.hd.1 h.hd.2,if_pos (.inl rfl)]
     have gb:gt (one al i g o) g.B.toNat=mn (gt o g.A.toNat) (gt o g.B.toNat):=by
      have ha0:al i=true:=ha; unfold one; rw [if_pos ha0,gt_relax _ _ _ _ h.hd.1 h.hd.2,if_pos (.inr rfl)]
     rw [e] at ga gb
     omega
   | succ j =>
     rw [e] at hfix
     exact pass_fix fs (i+1) o h.tl hfix j f (by simpa using hf) (by rw [show i+1+j=i+(j+1) by omega]; exact ha)
def rep (P:List Int→List Int):Nat→List Int→List Int
 | 0,o=>o
 | n+1,o=>P (rep P n o)
def initP (N:Nat):List Int:=(List.range N).map fun i:Nat=>(i:Int)
theorem gt_init (N v:Nat) (h:v < N):gt (initP N) v=v:=by unfold gt initP; simp [h]
def labels (al:Nat→Bool) (fs:List TFiber) (N:Nat):List Int:=rep (passP al 0 fs) N (initP N)
theorem rep_len (al:Nat→Bool) (fs:List TFiber) (o:List Int):∀ n,(rep (passP al 0 fs) n o).length=o.length
 | 0=>rfl
 | n+1=>by rw [rep,pass_len,rep_len al fs o n]
theorem conv {al:Nat→Bool} {fs:List TFiber} {N:Nat} (hE:Ed fs N) (hN:0 < N) {k:Nat} {F:List Int} (hF:F=rep (passP al 0 fs) k (initP N)) (hfix:passP al 0 fs F=F):labels al fs N=F:=by
 have hlen:(initP N).length=N:=by simp [initP]
 have hrl:∀ t,(rep (passP al 0 fs) t (initP N)).length=N:=fun t=>by rw [rep_len,hlen]
 have hFl:F.length=N:=by rw [hF]; exact hrl k
 have hflat:Flat al 0 fs (gt F):=pass_fix fs 0 F (by rw [hFl]; exact hE) fun v=>by rw [hfix]
 -- going down
 have hdec:∀ t v,gt (rep (passP al 0 fs) (t+1) (initP N)) v≤gt (rep (passP al 0 fs) t (initP N)) v:=fun t v=>pass_le al fs 0 _ (by rw [hrl]; exact hE) v
 have hle0:∀ t v,gt (rep (passP al 0 fs) t (initP N)) v≤gt (initP N) v:=by
  intro t
  induction t with
  | zero=>intro v; exact Int.le_refl _
  | succ t ih=>intro v; have:=hdec t v; have:=ih v; omega
 have hinvF:∀ X:Nat→Prop,Clo al 0 fs X→∀ t v,v < N→(X v↔X (gt (rep (passP al 0 fs) t (initP N)) v).toNat):=by
  intro X hX t
  induction t with
  | zero=>intro v hv; rw [rep,gt_init N v hv]; simp
  | succ t ih =>
    intro v hv
    exact pass_clo fs 0 _ (by rw [hrl]; exact hE) hX (fun v hv=>ih v (by rw [hrl] at hv; exact hv)) v (by rw [hrl]; exact hv)
 have hrng:∀ t v,v < N→0≤gt (rep (passP al 0 fs) t (initP N)) v∧gt (rep (passP al 0 fs) t (initP N)) v < N:=by
  intro t
  induction t with
  | zero=>intro v hv; rw [rep,gt_init N v hv]; omega
  | succ t ih =>
    intro v hv
    exact pass_rng fs 0 _ (by rw [hrl]; exact hE) (fun v hv=>ih v (by rw [hrl] at hv; exact hv)) v (by rw [hrl]; exact hv)
 -- F is below all
 have hge:∀ t v,gt F v≤gt (rep (passP al 0 fs) t (initP N)) v:=by
  have base:∀ v,gt F v≤gt (initP N) v:=fun v=>by rw [hF]; exact hle0 k v
  intro t
  induction t with
  | zero=>exact base
  | succ t ih=>intro v; exact pass_ge fs 0 _ (by rw [hrl]; exact hE) hflat ih v
 have hFF:∀ v,v < N→gt F (gt F v).toNat=gt F v:=by
  intro v hv
  have h1:=hinvF (fun w=>gt F w=gt F v) (fun j f hf ha=>by show gt F f.A.toNat=gt F v↔gt F f.B.toNat=gt F v; rw [hflat j f hf ha]) k v hv
  rw [← hF] at h1
  exact h1.1 rfl
 have hfin:∀ t,(∀ v,v < N→gt (rep (passP al 0 fs) t (initP N)) v=gt F v)→rep (passP al 0 fs) t (initP N)=F:=by
  intro t h
  refine gt_ext (by rw [hrl,hFl]) fun v=>?_
  by_cases hv:v < N
  · exact h v hv
  · unfold gt
    rw [List.getD_eq_getElem?_getD,List.getD_eq_getElem?_getD,List.getElem?_eq_none (by rw [hrl]; omega),List.getElem?_eq_none (by rw [hFl]; omega)]
 -- counting
 let S:Nat→Nat→Bool:=fun t v=>decide (gt (rep (passP al 0 fs) t (initP N)) v=gt F v)
 have hmono:∀ t v,v < N→S t v=true→S (t+1) v=true:=by
  intro t v hv h
  simp only [S,decide_eq_true_eq] at h ⊢
  have:=hdec t v
  have:=hge (t+1) v
  omega
 have hcount:∀ t,t+1≤(List.range N).countP (S t)∨(List.range N).countP (S t)=N:=by
  intro t
  induction t with
  | zero =>
    left
    refine List.countP_pos_iff.2 ⟨0,List.mem_range.2 hN,?_⟩
    refine decide_eq_true (?_:gt (initP N) 0=gt F 0)
    have h1:=hge 0 0
    have h2:=hrng k 0 hN
    rw [← hF] at h2
    rw [rep,gt_init N 0 hN] at h1
    have e0:=gt_init N 0 hN
    have:((0:Nat):Int)=0:=rfl
    omega
  | succ t ih =>
    have hle:(List.range N).countP (S t)≤(List.range N).countP (S (t+1)):=List.countP_mono_left fun v hv h=>hmono t v (List.mem_range.1 hv) h
    have hmax:(List.range N).countP (S (t+1))≤N:=by have:=List.countP_le_length (p:=S (t+1)) (l:=List.range N); simpa using this
    rcases ih with ih | ih
    · by_cases hall:∀ v,v < N→S t v=true
      · right
        have:(List.range N).countP (S (t+1))=(List.range N).length:=List.countP_eq_length.2 fun v hv=>hmono t v (List.mem_range.1 hv) (hall v (List.mem_range.1 hv))
        simpa using this
      · left
        obtain ⟨v,hv⟩:=Classical.not_forall.1 hall
        obtain ⟨hv1,hv2⟩:=Classical.not_imp.1 hv
        -- a fiber between the settled and the others
        have hcr:¬ Clo al 0 fs (fun w=>S t w=true):=by
         intro hclo
         have h1:=hinvF _ hclo k v hv1
         rw [← hF] at h1
         apply hv2
         rw [h1]
         have hr:=hrng k v hv1
         rw [← hF] at hr
         have hm:(gt F v).toNat < N:=by omega
         have h2:=hge t (gt F v).toNat
         have h3:=hle0 t (gt F v).toNat
         rw [gt_init N _ hm] at h3
         have h4:=hFF v hv1
         simp only [S,decide_eq_true_eq]
         omega
        have:∃ j f,fs[j]?=some f∧al (0+j)=true∧¬ (S t f.A.toNat=true↔S t f.B.toNat=true):=by
         apply Classical.byContradiction
         intro hno
         apply hcr
         intro j f hf ha
         apply Classical.byContradiction
         intro hne
         exact hno ⟨j,f,hf,ha,hne⟩
        obtain ⟨j,f,hf,ha,hne⟩:=this
        have hEf:=hE f (List.mem_of_getElem? hf)
        have hx:gt (rep (passP al 0 fs) t (initP N)) f.A.toNat=gt F f.A.toNat∨gt (rep (passP al 0 fs) t (initP N)) f.B.toNat=gt F f.B.toNat:=by
         apply Classical.byContradiction
         intro hno
         apply hne
         simp only [S,decide_eq_true_eq]
         constructor
         · intro h; exact (hno (.inl h)).elim
         · intro h; exact (hno (.inr h)).elim
        have hhit:=pass_hit fs 0 _ (by rw [hrl]; exact hE) hflat (hge t) j f hf ha hx
        obtain ⟨w,hwN,hw1,hw2⟩:∃ w,w < N∧S t w=false∧S (t+1) w=true:=by
         cases eA:S t f.A.toNat with
         | false=>exact ⟨f.A.toNat,hEf.1,eA,by simp only [S,decide_eq_true_eq]; exact hhit.1⟩
         | true =>
           cases eB:S t f.B.toNat with
           | false=>exact ⟨f.B.toNat,hEf.2,eB,by simp only [S,decide_eq_true_eq]; exact hhit.2⟩
           | true=>rw [eA,eB] at hne; exact (hne Iff.rfl).elim
        have hlt:(List.range N).countP (S t) < (List.range N).countP (S (t+1)):=by
         have e1:List.range N=List.range w++(w::(List.range (N - w - 1)).map (w+1+·)):=by
          have:N=w+(1+(N - w - 1)):=by omega
          conv=>lhs; rw [this,List.range_add,List.range_add]
          simp [Function.comp_def,Nat.add_assoc]
         rw [e1]
         simp only [List.countP_append,List.countP_cons,hw1,hw2]
         have a1:(List.range w).countP (S t)≤(List.range w).countP (S (t+1)):=List.countP_mono_left fun v hv h=>hmono t v (by have:=List.mem_range.1 hv; omega) h
         have a2:((List.range (N - w - 1)).map (w+1+·)).countP (S t)≤((List.range (N - w - 1)).map (w+1+·)).countP (S (t+1)):=List.countP_mono_left fun v hv h=>by
          obtain ⟨u,hu,rfl⟩:=List.mem_map.1 hv
          have:=List.mem_range.1 hu
          exact hmono t _ (by omega) h
         simp only [↓reduceIte,Bool.false_eq_true]
         omega
        omega
    · right; omega
 have hall:(List.range N).countP (S N)=N:=by
  rcases hcount N with h | h
  · have:=List.countP_le_length (p:=S N) (l:=List.range N)
    simp at this; omega
  · exact h
 refine hfin N fun v hv=>?_
 have:∀ v∈List.range N,S N v=true:=List.countP_eq_length.1 (by simpa using hall)
 simpa [S] using this v (List.mem_range.2 hv)
end Vs

namespace Vs
open Go
def passS (al:Nat→Bool):Nat→List TFiber→Bool×List Int→Bool×List Int
 | _,[],p=>p
 | i,f::fs,p=>passS al (i+1) fs (if al i&&!(gt p.2 f.A.toNat==gt p.2 f.B.toNat) then (true,relax p.2 f.A.toNat f.B.toNat) else p)
theorem passS_true (al:Nat→Bool):∀ (fs:List TFiber) (i:Nat) (o:List Int),(passS al i fs (true,o)).1=true
 | [],_,_=>rfl
 | f :: fs, i, o => by
   rw [passS]
   split
   · exact passS_true al fs (i+1) _
   · exact passS_true al fs (i+1) _
theorem relax_same {o:List Int} {a b:Nat} (ha:a < o.length) (hb:b < o.length) (h:gt o a=gt o b):relax o a b=o:=by
 refine gt_ext (relax_len ..) fun v=>?_
 rw [gt_relax o a b v ha hb]
 have hm:=(mn_le (gt o a) (gt o b)).2.2
 split
 · rename_i e
   rcases e with e | e <;> subst e <;> omega
 · rfl
theorem passS_spec (al:Nat→Bool):∀ (fs:List TFiber) (i:Nat) (c:Bool) (o:List Int),Ed fs o.length→(passS al i fs (c,o)).2=passP al i fs o ∧
 ((passS al i fs (c,o)).1=true→c=true∨∃ w,w < o.length∧gt (passP al i fs o) w < gt o w)∧((passS al i fs (c,o)).1=false→passP al i fs o=o)
 | [],_,c,o,_=>⟨rfl,fun h=>.inl h,fun _=>rfl⟩
 | f :: fs, i, c, o, hE => by
   rw [passS,pass_cons]
   by_cases hc:(al i&&!(gt o f.A.toNat==gt o f.B.toNat))=true
   · rw [if_pos hc]
     simp only [Bool.and_eq_true,Bool.not_eq_true',beq_eq_false_iff_ne,ne_eq] at hc
     have e1:one al i f o=relax o f.A.toNat f.B.toNat:=by unfold one; rw [if_pos hc.1]
     rw [e1]
     have hl:(relax o f.A.toNat f.B.toNat).length=o.length:=relax_len ..
     obtain ⟨h1,h2,h3⟩:=passS_spec al fs (i+1) true (relax o f.A.toNat f.B.toNat) (by rw [hl]; exact hE.tl)
     refine ⟨h1,fun _=>.inr ?_,fun h=>?_⟩
     · have hp:=pass_le al fs (i+1) (relax o f.A.toNat f.B.toNat) (by rw [hl]; exact hE.tl)
       have hm:=mn_le (gt o f.A.toNat) (gt o f.B.toNat)
       have ga:=gt_relax o f.A.toNat f.B.toNat f.A.toNat hE.hd.1 hE.hd.2
       have gb:=gt_relax o f.A.toNat f.B.toNat f.B.toNat hE.hd.1 hE.hd.2
       rw [if_pos (.inl rfl)] at ga
       rw [if_pos (.inr rfl)] at gb
       have pa:=hp f.A.toNat
       have pb:=hp f.B.toNat
       by_cases hlt:gt o f.A.toNat < gt o f.B.toNat
       · exact ⟨f.B.toNat,hE.hd.2,by omega⟩
       · exact ⟨f.A.toNat,hE.hd.1,by have:=hc.2; omega⟩
     · rw [passS_true] at h; cases h
   · rw [if_neg hc]
     have e1:one al i f o=o:=by
      unfold one
      split
      · rename_i ha
        simp only [ha,Bool.true_and,Bool.not_eq_true',Bool.not_eq_false,beq_iff_eq] at hc
        exact relax_same hE.hd.1 hE.hd.2 hc
      · rfl
     rw [e1]
     exact passS_spec al fs (i+1) c o hE.tl
def sm (g:Nat→Nat):Nat→Nat
 | 0=>0
 | n+1=>sm g n+g n
theorem sm_le {f g:Nat→Nat}:∀ (n:Nat),(∀ v,v < n→f v≤g v)→sm f n≤sm g n
 | 0,_=>Nat.le_refl _
 | n + 1, h => by
   have h1:=sm_le n fun v hv=>h v (by omega)
   have h2:=h n (by omega)
   simp only [sm]; omega
theorem sm_lt {f g:Nat→Nat}:∀ (n:Nat),(∀ v,v < n→f v≤g v)→(∃ w,w < n∧f w < g w)→sm f n < sm g n
 | 0,_,h=>by obtain ⟨w,hw,_⟩:=h; omega
 | n + 1, h, ⟨w, hw, hlt⟩ => by
   have h2:=h n (by omega)
   simp only [sm]
   by_cases e:w=n
   · subst e
     have h1:=sm_le (f:=f) (g:=g) w fun v hv=>h v (by omega)
     omega
   · have:=sm_lt n (fun v hv=>h v (by omega)) ⟨w,by omega,hlt⟩
     omega
theorem sm_bd {f:Nat→Nat} {c:Nat}:∀ (n:Nat),(∀ v,v < n→f v≤c)→sm f n≤n * c
 | 0,_=>by simp [sm]
 | n + 1, h => by
   have h1:=sm_bd n fun v hv=>h v (by omega)
   have h2:=h n (by omega)
   simp only [sm,Nat.succ_mul]; omega
theorem rep_comm (P:List Int→List Int):∀ (n:Nat) (o:List Int),rep P n (P o)=P (rep P n o)
 | 0,_=>rfl
 | n+1,o=>by rw [rep,rep_comm P n o]; rfl
theorem foldI_rep {α:Type} (P:List Int→List Int):∀ (xs:List α) (k:Nat) (o:List Int),foldI (fun _ (_:α) o=>P o) k xs o=rep P xs.length o
 | [],_,_=>rfl
 | x :: xs, k, o => by
   rw [foldI,foldI_rep P xs]
   exact rep_comm P xs.length o
theorem foldI_init {α:Type}:∀ (xs:List α) (k:Nat) (l:List Int),foldI (fun i (_:α) (l:List Int)=>l++[(i:Int)]) k xs l=l++(List.range' k xs.length).map fun i:Nat=>(i:Int)
 | [],_,l=>by simp [foldI]
 | x :: xs, k, l => by
   rw [foldI,foldI_init xs]
   simp [List.range'_succ,List.append_assoc]
theorem initP_eq {α:Type} (xs:List α):foldI (fun i (_:α) (l:List Int)=>l++[(i:Int)]) 0 xs []=initP xs.length:=by
 rw [foldI_init,List.nil_append,initP,List.range_eq_range']
theorem initP_len (N:Nat):(initP N).length=N:=by simp [initP]
theorem foldI_pass (al:Nat→Bool):∀ (fs:List TFiber) (k:Nat) (o:List Int),foldI (fun i f o=>one al i f o) k fs o=passP al k fs o
 | [],_,_=>rfl
 | f::fs,k,o=>by rw [foldI,pass_cons]; exact foldI_pass al fs (k+1) _
theorem foldI_passS (al:Nat→Bool):∀ (fs:List TFiber) (k:Nat) (p:Bool×List Int),foldI (fun i (f:TFiber) (p:Bool×List Int)=>if al i&&!(gt p.2 f.A.toNat==gt p.2 f.B.toNat) then (true,relax p.2 f.A.toNat f.B.toNat) else p) k fs p=passS al k fs p
 | [],_,_=>rfl
 | f::fs,k,p=>by rw [foldI,passS]; exact foldI_passS al fs (k+1) _
theorem gt_at {o:List Int} {i:Nat} (h:i < o.length):o[i]?=some (gt o i):=by
 unfold gt
 rw [List.getD_eq_getElem?_getD,List.getElem?_eq_getElem h]; rfl
theorem fix_loop {al:Nat→Bool} {fs:List TFiber} {N:Nat} (hE:Ed fs N) (hN:0 < N) (hN2:N≤1048576) {f:Bool×List Int→Option ((Bool×List Int) ⊕ List Int)}
 (h1:∀ o:List Int,o.length=N→f (true,o)=some (.inl (passS al 0 fs (false,o)))) (h2:∀ o,f (false,o)=some (.inr o)):iter f N0 (true,initP N)=some (labels al fs N):=by
 have hrl:∀ t,(rep (passP al 0 fs) t (initP N)).length=N:=fun t=>by rw [rep_len,initP_len]
 have hrng:∀ t v,v < N→0≤gt (rep (passP al 0 fs) t (initP N)) v∧gt (rep (passP al 0 fs) t (initP N)) v < N:=by
  intro t
  induction t with
  | zero=>intro v hv; rw [rep,gt_init N v hv]; omega
  | succ t ih =>
    intro v hv
    exact pass_rng fs 0 _ (by rw [hrl]; exact hE) (fun v hv=>ih v (by rw [hrl] at hv; exact hv)) v (by rw [hrl]; exact hv)
 let μ:Bool×List Int→Nat:=fun s=>sm (fun v=>(gt s.2 v).toNat) N+(if s.1 then 1 else 0)
 let I:Bool×List Int→Prop:=fun s=>∃ k,s.2=rep (passP al 0 fs) k (initP N)∧(s.1=false→passP al 0 fs s.2=s.2)
 have hbd:μ (true,initP N) < N0:=by
  have:=sm_bd (f:=fun v=>(gt (initP N) v).toNat) (c:=N) N fun v hv=>by
   show (gt (initP N) v).toNat≤N
   rw [gt_init N v hv]; omega
  have h3:N * N≤1048576 * 1048576:=Nat.mul_le_mul hN2 hN2
  have:μ (true,initP N)≤N * N+1:=by simp only [μ,if_true]; omega
  exact N0_lt (by omega)
 suffices hst:∀ s,I s→(∃ s',f s=some (.inl s')∧I s'∧μ s' < μ s)∨∃ b,f s=some (.inr b)∧b=labels al fs N by
  obtain ⟨b,hb,hq⟩:=iter_inv (f:=f) I μ (fun b=>b=labels al fs N) hst N0 (true,initP N) ⟨0,rfl,fun h=>by cases h⟩ hbd
  rw [hb,hq]
 rintro ⟨m,o⟩ ⟨k,hk,hfix⟩
 simp only at hk hfix
 cases m with
 | false=>exact .inr ⟨o,h2 o,(conv hE hN hk (hfix rfl)).symm⟩
 | true =>
   left
   have hol:o.length=N:=by rw [hk]; exact hrl k
   obtain ⟨s1,s2,s3⟩:=passS_spec al fs 0 false o (by rw [hol]; exact hE)
   refine ⟨_,h1 o hol,⟨k+1,by rw [s1,hk]; rfl,fun h=>?_⟩,?_⟩
   · rw [s1]
     have:=s3 h
     rw [this,this]
   · simp only [μ]
     have hle:∀ v,v < N→(gt (passP al 0 fs o) v).toNat≤(gt o v).toNat:=fun v _=>by
      have:=pass_le al fs 0 o (by rw [hol]; exact hE) v
      omega
     rw [s1]
     cases hc:(passS al 0 fs (false,o)).1 with
     | false =>
       have:=sm_le (f:=fun v=>(gt (passP al 0 fs o) v).toNat) (g:=fun v=>(gt o v).toNat) N hle
       simp only [Bool.false_eq_true,if_false,if_true]; omega
     | true =>
       have:∃ w,w < N∧(gt (passP al 0 fs o) w).toNat < (gt o w).toNat:=by
        rcases s2 hc with h | ⟨w,hw,h⟩
        · cases h
        · refine ⟨w,by omega,?_⟩
          have h4:=(hrng (k+1) w (by omega)).1
          have e:rep (passP al 0 fs) (k+1) (initP N)=passP al 0 fs o:=by rw [hk]; rfl
          rw [e] at h4
          omega
       have:=sm_lt (f:=fun v=>(gt (passP al 0 fs o) v).toNat) (g:=fun v=>(gt o v).toNat) N hle this
       simp only [if_true]; omega
end Vs

namespace Vs
open Go
theorem p_ContI (xs:List Int) (v:Int) (hl:xs.length≤1048576):M_cm xs v=some (decide (v∈xs)):=by
 unfold M_cm M_dr
 rw [iter_findI (f:=M_am xs v) xs (fun _ x=>v==x) (fun i _=>(i:Int)) () (fun i x hx _=>by
  have hlt:=(List.getElem?_eq_some_iff.1 hx).1
  have h1:decide ((i:Int) < xs.length)=true:=by simp [hlt]
  simp only [M_am,h1,cond_true,geti_nat,hx,Option.bind_some]
  rw [w64_eq (by omega) (by omega)]
  cases v==x <;> rfl) (by simp [M_am]) (by omega)]
 cases e:findI (fun _ x=>v==x) xs with
 | none =>
   have:=findI_none.1 e
   have h:¬ v∈xs:=fun hm=>by
    obtain ⟨i,hi⟩:=List.getElem?_of_mem hm
    have:=this i v hi
    simp at this
   rw [decide_eq_false h]; rfl
 | some q =>
   obtain ⟨i,x⟩:=q
   obtain ⟨h1,h2,_⟩:=findI_some.1 e
   have h:v∈xs:=by
    have:=eq_of_beq h2
    rw [this]; exact List.mem_of_getElem? h1
   rw [decide_eq_true h]; simp
theorem p_init1 (n:TNetwork) (hN:n.Nodes.length≤1048576):iter (M_ae n) N0 (0,[])=some (initP n.Nodes.length):=by
 rw [← initP_eq n.Nodes]
 exact iter_foldI (f:=M_ae n) n.Nodes (fun i (l:List Int)=>((i:Int),l)) (fun i _ l=>l++[(i:Int)]) id (fun i l=>l.length=i) (fun i l x hx hI=>by
  have hlt:=(List.getElem?_eq_some_iff.1 hx).1
  have h1:decide ((i:Int) < n.Nodes.length)=true:=by simp [hlt]
  refine ⟨by simp [hI],?_⟩
  simp only [M_ae,h1,cond_true,bnd,hI]
  rw [grd_t (by omega),w64_eq (by omega) (by omega)]
  rfl) (fun l hI=>by simp [M_ae]) [] rfl (by omega)
theorem p_init2 (n:TNetwork) (hN:n.Nodes.length≤1048576):iter (M_af n) N0 (0,[])=some (initP n.Nodes.length):=by
 rw [← initP_eq n.Nodes]
 exact iter_foldI (f:=M_af n) n.Nodes (fun i (l:List Int)=>((i:Int),l)) (fun i _ l=>l++[(i:Int)]) id (fun i l=>l.length=i) (fun i l x hx hI=>by
  have hlt:=(List.getElem?_eq_some_iff.1 hx).1
  have h1:decide ((i:Int) < n.Nodes.length)=true:=by simp [hlt]
  refine ⟨by simp [hI],?_⟩
  simp only [M_af,h1,cond_true,bnd,hI]
  rw [grd_t (by omega),w64_eq (by omega) (by omega)]
  rfl) (fun l hI=>by simp [M_af]) [] rfl (by omega)
def EdI (fs:List TFiber) (N:Nat):Prop:=∀ f∈fs,0≤f.A∧f.A < N∧0≤f.B∧f.B < N
theorem EdI.ed {fs:List TFiber} {N:Nat} (h:EdI fs N):Ed fs N:=fun f hf=>by have:=h f hf; omega
def alL (gone:List Int) (i:Nat):Bool:=!decide ((i:Int)∈gone)
theorem p_pass (n:TNetwork) (gone:List Int) (o:List Int) (hE:EdI n.Fibers o.length) (hF:n.Fibers.length≤1048576) (hg:gone.length≤1048576) :
 iter (M_h n gone) N0 (0,o)=some (passP (alL gone) 0 n.Fibers o):=by
 rw [← foldI_pass]
 refine iter_foldI (f:=M_h n gone) n.Fibers (fun i (l:List Int)=>((i:Int),l)) (fun i f o=>one (alL gone) i f o) id (fun _ l=>l.length=o.length) (fun i l f hf hI=>?_) (fun l hI=>by simp [M_h]) o rfl (by omega)
 have hlt:=(List.getElem?_eq_some_iff.1 hf).1
 have h1:decide ((i:Int) < n.Fibers.length)=true:=by simp [hlt]
 refine ⟨by rw [one_len]; exact hI,?_⟩
 have hEf:=hE f (List.mem_of_getElem? hf)
 rw [← hI] at hEf
 simp only [M_h,h1,cond_true,geti_nat,hf,Option.bind_some,p_ContI gone i hg,w64_eq (n:=(i:Int)+1) (by omega) (by omega)]
 unfold one
 rcases bt (alL gone i) with e | e
 · have e':(!decide ((i:Int)∈gone))=true:=e
   rw [e',cond_true,grd_t ⟨hEf.1,hEf.2.1⟩,grd_t ⟨hEf.2.2.1,hEf.2.2.2⟩]
   simp only [Option.bind_some,gt_at (show f.A.toNat < l.length by omega),gt_at (show f.B.toNat < l.length by omega),bnd,e,if_true]
   rw [List.getElem?_eq_getElem (by simp; omega)]
   rfl
 · have e':(!decide ((i:Int)∈gone))=false:=e
   rw [e',cond_false,e]; rfl
theorem p_components (n:TNetwork) (gone:List Int) (hE:EdI n.Fibers n.Nodes.length) (hN:n.Nodes.length≤1048576) (hF:n.Fibers.length≤1048576) (hg:gone.length≤1048576) :
 M_bq n gone=some (labels (alL gone) n.Fibers n.Nodes.length):=by
 unfold M_bq
 rw [p_init1 n hN]
 simp only [Option.bind_some]
 have:iter (M_ag n gone) N0 (0,initP n.Nodes.length)=some (labels (alL gone) n.Fibers n.Nodes.length):=by
  unfold labels
  rw [← foldI_rep (passP (alL gone) 0 n.Fibers) n.Nodes 0 (initP n.Nodes.length)]
  refine iter_foldI (f:=M_ag n gone) n.Nodes (fun i (l:List Int)=>((i:Int),l)) (fun _ _ o=>passP (alL gone) 0 n.Fibers o) id (fun _ l=>l.length=n.Nodes.length) (fun i l x hx hI=>?_) (fun l hI=>by simp [M_ag]) _ (initP_len _) (by omega)
  have hlt:=(List.getElem?_eq_some_iff.1 hx).1
  have h1:decide ((i:Int) < n.Nodes.length)=true:=by simp [hlt]
  refine ⟨by rw [pass_len]; exact hI,?_⟩
  simp only [M_ag,h1,cond_true]
  rw [p_pass n gone l (by rw [hI]; exact hE) hF hg,w64_eq (by omega) (by omega)]
  rfl
 rw [this]; rfl
def alM (g:Int) (i:Nat):Bool:=!(bits .and .i64 (Int.fdiv g (2 ^ (min i (IntKind.bits .i64)))) 1==1)
theorem p_passS (n:TNetwork) (g:Int) (o:List Int) (hE:EdI n.Fibers o.length) (hF:n.Fibers.length≤1048576) :
 iter (M_i n g) N0 (false,0,o)=some (passS (alM g) 0 n.Fibers (false,o)):=by
 rw [← foldI_passS]
 refine iter_foldI (f:=M_i n g) n.Fibers (fun i (p:Bool×List Int)=>(p.1,(i:Int),p.2)) (fun i (f:TFiber) (p:Bool×List Int)=>if alM g i&&!(gt p.2 f.A.toNat==gt p.2 f.B.toNat) then (true,relax p.2 f.A.toNat f.B.toNat) else p) id (fun _ p=>p.2.length=o.length) (fun i p f hf hI=>?_) (fun l hI=>by simp [M_i]) (false,o) rfl (by omega)
 have hlt:=(List.getElem?_eq_some_iff.1 hf).1
 have h1:decide ((i:Int) < n.Fibers.length)=true:=by simp [hlt]
 refine ⟨by split <;> simp [relax_len,hI],?_⟩
 have hEf:=hE f (List.mem_of_getElem? hf)
 rw [← hI] at hEf
 have gA:=gt_at (o:=p.2) (show f.A.toNat < p.2.length by omega)
 have gB:=gt_at (o:=p.2) (show f.B.toNat < p.2.length by omega)
 simp only [M_i,h1,cond_true,geti_nat,hf,Option.bind_some,w64_eq (n:=(i:Int)+1) (by omega) (by omega),w64u_eq (n:=(i:Int)) (by omega) (by omega),Int.toNat_natCast]
 rw [grd_t (by omega),grd_t ⟨hEf.1,hEf.2.1⟩,grd_t ⟨hEf.2.2.1,hEf.2.2.2⟩]
 simp only [Option.bind_some,gA,gB,bnd]
 have eb:(bits .and .i64 (Int.fdiv g (2 ^ (min i (IntKind.bits .i64)))) 1==1)=!alM g i:=by simp [alM]
 rw [eb]
 rcases bt (alM g i) with e | e
 · simp only [e,Bool.not_true,cond_false,Option.bind_some,Bool.true_and]
   rcases bt (gt p.2 f.A.toNat==gt p.2 f.B.toNat) with e2 | e2
   · simp only [e2,cond_true,Bool.not_true,Bool.false_eq_true,if_false]
     rfl
   · simp only [e2,cond_false,Bool.not_false,if_true]
     have hm:M_bf (gt p.2 f.A.toNat) (gt p.2 f.B.toNat)=some (mn (gt p.2 f.A.toNat) (gt p.2 f.B.toNat)):=by
      have hne:gt p.2 f.A.toNat ≠ gt p.2 f.B.toNat:=by simpa using e2
      unfold M_bf mn
      by_cases h2:gt p.2 f.A.toNat < gt p.2 f.B.toNat
      · rw [decide_eq_true h2,cond_true,if_neg (by omega)]
      · rw [decide_eq_false h2,cond_false,if_pos (by omega)]
     simp only [hm,Option.bind_some]
     rw [List.getElem?_eq_getElem (by simp; omega)]
     rfl
 · simp only [e,Bool.not_false,cond_true,Option.bind_some,Bool.false_and,Bool.false_eq_true,if_false]
   rfl
theorem p_l6Labels (n:TNetwork) (g:Int) (hE:EdI n.Fibers n.Nodes.length) (hN0:0 < n.Nodes.length) (hN:n.Nodes.length≤1048576) (hF:n.Fibers.length≤1048576) :
 M_bk n g=some (labels (alM g) n.Fibers n.Nodes.length):=by
 unfold M_bk
 rw [p_init2 n hN]
 simp only [Option.bind_some]
 rw [fix_loop (al:=alM g) (fs:=n.Fibers) (N:=n.Nodes.length) (f:=M_an n g) hE.ed hN0 hN (fun o ho=>by
  simp only [M_an,cond_true]
  rw [p_passS n g o (by rw [ho]; exact hE) hF]
  rfl) (fun o=>by simp [M_an])]
 rfl
end Vs

namespace Vs
open Go
theorem bits64:IntKind.bits .i64=64:=rfl
theorem ofNat64 (a:Nat):BitVec.ofInt 64 (a:Int)=BitVec.ofNat 64 a:=by
 apply BitVec.eq_of_toNat_eq
 simp [BitVec.toNat_ofInt]
theorem bor (a b:Nat) (ha:a < 2 ^ 62) (hb:b < 2 ^ 62):bits .or .i64 (a:Int) (b:Int)=((a ||| b:Nat):Int):=by
 have hab:a ||| b < 2 ^ 62:=Nat.or_lt_two_pow ha hb
 show IntKind.wrap .i64 ((BitVec.ofInt 64 (a:Int) ||| BitVec.ofInt 64 (b:Int)).toNat:Int)=_
 rw [ofNat64,ofNat64,BitVec.toNat_or,BitVec.toNat_ofNat,BitVec.toNat_ofNat,Nat.mod_eq_of_lt (by omega),Nat.mod_eq_of_lt (by omega),w64_eq (by omega) (by omega)]
theorem tbit (m i:Nat) (hi:i < 64) (hm:m < 2 ^ 62):(bits .and .i64 (Int.fdiv (m:Int) (2 ^ (min i (IntKind.bits .i64)))) 1==1)=m.testBit i:=by
 have e1:min i (IntKind.bits .i64)=i:=by rw [bits64]; omega
 have e2:Int.fdiv (m:Int) (2 ^ i)=((m / 2 ^ i:Nat):Int):=by
  rw [Int.fdiv_eq_ediv_of_nonneg _ (by exact_mod_cast Nat.zero_le (2 ^ i))]
  simp
 have hlt:m / 2 ^ i < 2 ^ 62:=Nat.lt_of_le_of_lt (Nat.div_le_self ..) hm
 rw [e1,e2]
 have e3:bits .and .i64 ((m / 2 ^ i:Nat):Int) 1=((m / 2 ^ i % 2:Nat):Int):=by
  show IntKind.wrap .i64 ((BitVec.ofInt 64 ((m / 2 ^ i:Nat):Int) &&& BitVec.ofInt 64 ((1:Nat):Int)).toNat:Int)=_
  rw [ofNat64,ofNat64,BitVec.toNat_and,BitVec.toNat_ofNat,BitVec.toNat_ofNat,Nat.mod_eq_of_lt (by omega),Nat.mod_eq_of_lt (by omega),Nat.and_one_is_mod,w64_eq (by omega) (by omega)]
 rw [e3,Nat.testBit_eq_decide_div_mod_eq]
 have:=Nat.mod_two_eq_zero_or_one (m / 2 ^ i)
 rcases this with h | h <;> rw [h] <;> rfl
theorem shl1 (x:Nat) (hx:x < 62):IntKind.wrap .i64 (1 * 2 ^ (min x (IntKind.bits .i64)))=((2 ^ x:Nat):Int):=by
 have e1:min x (IntKind.bits .i64)=x:=by rw [bits64]; omega
 have h:2 ^ x < 2 ^ 62:=Nat.pow_lt_pow_right (by omega) hx
 have e2:((1:Int) * 2 ^ x)=((2 ^ x:Nat):Int):=by simp
 have key:∀ q:Nat,q < 2 ^ 62→IntKind.wrap .i64 (q:Int)=(q:Int):=fun q hq=>w64_eq (by omega) (by omega)
 rw [e1,e2,key _ h]
theorem mask_spec:∀ (g:List Int) (k:Nat) (m:Nat),(∀ x∈g,0≤x∧x < 62)→m < 2 ^ 62→∃ m':Nat,foldI bitG k g (m:Int)=(m':Int)∧m' < 2 ^ 62∧∀ i,m'.testBit i=(m.testBit i||decide ((i:Int)∈g))
 | [],_,m,_,hm=>⟨m,rfl,hm,fun i=>by simp⟩
 | x :: g, k, m, hg, hm => by
   have hx:=hg x List.mem_cons_self
   have hp:2 ^ x.toNat < 2 ^ 62:=Nat.pow_lt_pow_right (by omega) (by omega)
   have e:bitG k x (m:Int)=((m ||| 2 ^ x.toNat:Nat):Int):=by
    unfold bitG
    rw [shl1 x.toNat (by omega),bor m _ hm hp]
   obtain ⟨m',h1,h2,h3⟩:=mask_spec g (k+1) (m ||| 2 ^ x.toNat) (fun y hy=>hg y (List.mem_cons_of_mem _ hy)) (Nat.or_lt_two_pow hm hp)
   refine ⟨m',by rw [foldI,e]; exact h1,h2,fun i=>?_⟩
   rw [h3,Nat.testBit_or,Nat.testBit_two_pow,Bool.or_assoc]
   congr 1
   by_cases h:x.toNat=i
   · have:x=(i:Int):=by omega
     simp [this]
   · have:¬ ((i:Int)=x):=by omega
     simp [h,this]
theorem maskP_spec (g:List Int) (hg:∀ x∈g,0≤x∧x < 62):∃ m:Nat,maskP g=(m:Int)∧m < 2 ^ 62∧∀ i,m.testBit i=decide ((i:Int)∈g):=by
 obtain ⟨m,h1,h2,h3⟩:=mask_spec g 0 0 hg (by decide)
 exact ⟨m,h1,h2,fun i=>by rw [h3]; simp⟩
def bitB (s:Int) (i:Nat):Bool:=bits .and .i64 (Int.fdiv s (2 ^ (min i (IntKind.bits .i64)))) 1==1
def goneL (s:Int) (gr:List (List Int)):List Int:=foldI (fun i g (a:List Int)=>if bitB s i then a++g else a) 0 gr []
def goneM (s:Int) (gr:List (List Int)):Int:=foldI (fun i g (a:Int)=>if bitB s i then bits .or .i64 a (maskP g) else a) 0 gr 0
theorem gone_spec (s:Int):∀ (gr:List (List Int)) (k:Nat) (l:List Int) (m:Nat),(∀ g∈gr,∀ x∈g,0≤x∧x < 62)→m < 2 ^ 62→(∀ i,m.testBit i=decide ((i:Int)∈l)) →
 ∃ m' : Nat, foldI (fun i g (a : Int) => if bitB s i then bits .or .i64 a (maskP g) else a) k gr (m : Int) = (m' : Int) ∧ m' < 2 ^ 62 ∧
   ∀ i,m'.testBit i=decide ((i:Int)∈foldI (fun i g (a:List Int)=>if bitB s i then a++g else a) k gr l)
 | [],_,l,m,_,hm,h=>⟨m,rfl,hm,h⟩
 | g :: gr, k, l, m, hg, hm, h => by
   simp only [foldI]
   rcases bt (bitB s k) with e | e
   · obtain ⟨q,q1,q2,q3⟩:=maskP_spec g (hg g List.mem_cons_self)
     simp only [e,if_true,q1,bor m q hm q2]
     exact gone_spec s gr (k+1) (l++g) (m ||| q) (fun g' h'=>hg g' (List.mem_cons_of_mem _ h')) (Nat.or_lt_two_pow hm q2) fun i=>by
      rw [Nat.testBit_or,h,q3]; simp
   · simp only [e,Bool.false_eq_true,if_false]
     exact gone_spec s gr (k+1) l m (fun g' h'=>hg g' (List.mem_cons_of_mem _ h')) hm h
theorem al_eq (s:Int) (gr:List (List Int)) (hg:∀ g∈gr,∀ x∈g,0≤x∧x < 62) (i:Nat) (hi:i < 64):alM (goneM s gr) i=alL (goneL s gr) i:=by
 obtain ⟨m,h1,h2,h3⟩:=gone_spec s gr 0 [] 0 hg (by decide) (fun i=>by simp)
 have e:goneM s gr=(m:Int):=h1
 unfold alM alL
 rw [e,tbit m i hi h2,h3]
 rfl
theorem passP_congr {al al':Nat→Bool}:∀ (fs:List TFiber) (k:Nat) (o:List Int),(∀ i,i < k+fs.length→al i=al' i)→passP al k fs o=passP al' k fs o
 | [],_,_,_=>rfl
 | f :: fs, k, o, h => by
   rw [pass_cons,pass_cons]
   have e:one al k f o=one al' k f o:=by unfold one; rw [h k (by simp)]
   rw [e]
   exact passP_congr fs (k+1) _ fun i hi=>h i (by simp only [List.length_cons]; omega)
theorem labels_congr {al al':Nat→Bool} {fs:List TFiber} {N:Nat} (h:∀ i,i < fs.length→al i=al' i):labels al fs N=labels al' fs N:=by
 unfold labels
 have:passP al 0 fs=passP al' 0 fs:=funext fun o=>passP_congr fs 0 o fun i hi=>h i (by omega)
 rw [this]
end Vs

namespace Vs
open Go
theorem idxs_rng {r:Int} {fs:List TFiber} (h:fs.length≤14):∀ x∈idxs r 0 fs,0≤x∧x < 14:=by
 intro x hx
 obtain ⟨j,f,hj,_,rfl⟩:=(idxs_mem r fs 0 x).1 hx
 have:=(List.getElem?_eq_some_iff.1 hj).1
 omega
theorem groups_rng {n:TNetwork} (h:n.Fibers.length≤14):∀ g∈groupsP n,g.length≤14∧∀ x∈g,0≤x∧x < 14:=by
 intro g hg
 unfold groupsP at hg
 rw [List.mem_append] at hg
 rcases hg with hg | hg
 · obtain ⟨r,_,rfl⟩:=List.mem_map.1 (List.mem_filter.1 hg).1
   exact ⟨Nat.le_trans (idxs_len ..) h,idxs_rng h⟩
 · obtain ⟨x,hx,rfl⟩:=List.mem_map.1 hg
   exact ⟨by simp,fun y hy=>by rw [List.mem_singleton.1 hy]; exact idxs_rng h x hx⟩
theorem goneL_len (s:Int):∀ (gr:List (List Int)) (k:Nat) (l:List Int),(∀ g∈gr,g.length≤14)→(foldI (fun i g (a:List Int)=>if bitB s i then a++g else a) k gr l).length≤l.length+14 * gr.length
 | [],_,l,_=>by simp [foldI]
 | g :: gr, k, l, h => by
   have h1:=h g List.mem_cons_self
   simp only [foldI]
   split
   · have:=goneL_len s gr (k+1) (l++g) fun g' h'=>h g' (List.mem_cons_of_mem _ h')
     simp only [List.length_append,List.length_cons] at this ⊢; omega
   · have:=goneL_len s gr (k+1) l fun g' h'=>h g' (List.mem_cons_of_mem _ h')
     simp only [List.length_cons]; omega
def conP (n:TNetwork) (o:TOutage) (hp:List Int→Bool):Int :=
 foldI (fun i (_:Nat) (a:Int)=>if hp (goneL (i:Int) (groupsP n)) then IntKind.wrap .i64 (a+weightP o (i:Int)) else a) 0 (List.range (2 ^ (groupsP n).length)) 0
theorem p_goneM (s:Int) (gr:List (List Int)) (hg:∀ g∈gr,g.length≤14∧∀ x∈g,0≤x∧x < 14) (hK:gr.length≤23):M_bx gr s=some (goneM s gr):=by
 unfold M_bx
 have:iter (M_r gr s) N0 (0,0)=some (goneM s gr):=by
  refine iter_foldI (f:=M_r gr s) gr (fun i (a:Int)=>(a,(i:Int))) (fun i g (a:Int)=>if bitB s i then bits .or .i64 a (maskP g) else a) id (fun i l=>True) (fun i a g hx hI=>?_) (fun l hI=>by simp [M_r]) 0 trivial (by omega)
  have hlt:=(List.getElem?_eq_some_iff.1 hx).1
  have h1:decide ((i:Int) < gr.length)=true:=by simp [hlt]
  have hgl:=hg g (List.mem_of_getElem? hx)
  refine ⟨trivial,?_⟩
  simp only [M_r,h1,cond_true,geti_nat,hx,w64u_eq (n:=(i:Int)) (by omega) (by omega),Int.toNat_natCast]
  rw [grd_t (by omega),w64_eq (n:=(i:Int)+1) (by omega) (by omega)]
  simp only [Option.bind_some,p_l6Mask g (fun x hx=>by have:=hgl.2 x hx; omega) (by omega)]
  have eb:(bits .and .i64 (Int.fdiv s (2 ^ (min i (IntKind.bits .i64)))) 1==1)=bitB s i:=rfl
  rw [eb]
  rcases bt (bitB s i) with e | e
  · rw [e,cond_true]; rfl
  · rw [e,cond_false]; rfl
 rw [this]; rfl
theorem range_at {L i x:Nat} (h:(List.range L)[i]?=some x):x=i∧i < L:=by
 obtain ⟨h1,h2⟩:=List.getElem?_eq_some_iff.1 h
 simp at h1 h2
 exact ⟨h2.symm,h1⟩
theorem pow_lim {K:Nat} (h:K≤23):2 ^ K≤8388608:=by
 have:2 ^ K≤2 ^ 23:=Nat.pow_le_pow_right (by omega) h
 omega
end Vs

namespace Vs
open Go
theorem labels_len (al:Nat→Bool) (fs:List TFiber) (N:Nat):(labels al fs N).length=N:=by unfold labels; rw [rep_len,initP_len]
def allZ (l:List Int):Bool:=l.all fun x=>x==0
theorem foldI_allZ:∀ (xs:List Int) (k:Nat) (b:Bool),foldI (fun _ (x:Int) (b:Bool)=>if b then x==0 else false) k xs b=(b&&allZ xs)
 | [],_,b=>by simp [foldI,allZ]
 | x :: xs, k, b => by
   rw [foldI,foldI_allZ xs]
   cases b <;> simp [allZ]
theorem p_allZ (xs:List Int) (hl:xs.length≤1048576):iter (M_e xs) N0 (true,0)=some (allZ xs):=by
 have:=iter_foldI (f:=M_e xs) xs (fun i (b:Bool)=>(b,(i:Int))) (fun _ (x:Int) (b:Bool)=>if b then x==0 else false) id (fun _ _=>True) (fun i b x hx _=>by
  have hlt:=(List.getElem?_eq_some_iff.1 hx).1
  have h1:decide ((i:Int) < xs.length)=true:=by simp [hlt]
  refine ⟨trivial,?_⟩
  simp only [M_e,h1,cond_true,Int.toNat_natCast,hx,w64_eq (n:=(i:Int)+1) (by omega) (by omega)]
  rw [grd_t ⟨by omega,by omega⟩]
  cases b <;> rfl) (fun b _=>by simp [M_e]) true trivial (by omega)
 rw [foldI_allZ] at this
 exact this
def qB (fr to:Int) (lab:List Int):Bool:=if fr < 0 then allZ lab else gt lab fr.toNat==gt lab to.toNat
def labG (n:TNetwork) (l:List Int):List Int:=labels (alL l) n.Fibers n.Nodes.length
theorem net_ed {n:TNetwork} (h:netOk n=true):EdI n.Fibers n.Nodes.length:=by
 intro f hf
 obtain ⟨i,hi⟩:=List.getElem?_of_mem hf
 have:=netOk_fib h hi
 obtain ⟨h1,h2,h3⟩:=this
 omega
theorem p_l16Connected (n:TNetwork) (o:TOutage) (fr to:Int) (h:netOk n=true) (ho:o.Down.length≤1048576) (hft:fr < 0∨(0≤fr∧fr < n.Nodes.length∧0≤to∧to < n.Nodes.length)) :
 M_dm n o fr to=some (conP n o fun l=>qB fr to (labG n l)):=by
 have hb:=netOk_b h
 have hE:=net_ed h
 unfold M_dm conP
 rw [p_l2Groups n (by omega)]
 simp only [Option.bind_some]
 have hK:=groupsP_len n (by omega)
 have hgr:=groups_rng (n:=n) (by omega)
 generalize groupsP n=gr at hK hgr
 have hL:=pow_lim hK
 have:iter (M_t n o fr to gr) N0 (0,0)=some (foldI (fun i (_:Nat) (a:Int)=>if qB fr to (labG n (goneL (i:Int) gr)) then IntKind.wrap .i64 (a+weightP o (i:Int)) else a) 0 (List.range (2 ^ gr.length)) 0):=by
  have hu:IntKind.wrap .u64 (gr.length:Int)=(gr.length:Int):=w64u_eq (by omega) (by omega)
  refine iter_foldI (f:=M_t n o fr to gr) (List.range (2 ^ gr.length)) (fun i (a:Int)=>(a,(i:Int))) _ id (fun i a=>True) (fun i a x hx hI=>?_) (fun a hI=>?_) 0 trivial (by simp; omega)
  · obtain ⟨rfl,hi⟩:=range_at hx
    refine ⟨trivial,?_⟩
    have h1:decide ((x:Int) < IntKind.wrap .i64 (1 * 2 ^ (min gr.length (IntKind.bits .i64))))=true:=by
     rw [shl1 _ (by omega)]; exact decide_eq_true (by exact_mod_cast hi)
    have hlab:M_bk n (goneM (x:Int) gr)=some (labG n (goneL (x:Int) gr)):=by
     rw [p_l6Labels n _ hE (by omega) (by omega) (by omega)]
     unfold labG
     rw [labels_congr fun i hi=>al_eq (x:Int) gr (fun g hg y hy=>by have:=(hgr g hg).2 y hy; omega) i (by omega)]
    have hlen:(labG n (goneL (x:Int) gr)).length=n.Nodes.length:=labels_len ..
    simp only [M_t,hu,Int.toNat_natCast]
    rw [grd_t (by omega)]
    simp only [h1,cond_true,Option.bind_some,p_goneM (x:Int) gr hgr hK,hlab,w64_eq (n:=(x:Int)+1) (by omega) (by omega)]
    generalize labG n (goneL (x:Int) gr)=lab at hlen
    have hq:((cond (decide (0≤fr)) ((grd (0≤fr∧fr < (lab.length:Int))).bind fun kZ8=>(lab[(Int.toNat fr)]?).bind fun yZ9=>(grd (0≤to∧to < (lab.length:Int))).bind fun kZ10=>(lab[(Int.toNat to)]?).bind fun yZ11=>some (yZ9==yZ11)) (some false):Option Bool).bind fun oZ12=>(cond (decide (fr < 0)) ((iter (M_e lab) N0 (true,0)).bind fun oZ19=>some oZ19) (some oZ12):Option Bool))=some (qB fr to lab):=by
     unfold qB
     rcases hft with hf | ⟨f1,f2,f3,f4⟩
     · rw [decide_eq_false (show ¬ 0≤fr by omega),cond_false,decide_eq_true hf,if_pos hf]
       simp only [Option.bind_some,cond_true,p_allZ lab (by omega)]
     · rw [decide_eq_true f1,decide_eq_false (show ¬ fr < 0 by omega),if_neg (show ¬ fr < 0 by omega),grd_t ⟨f1,by omega⟩,grd_t ⟨f3,by omega⟩]
       simp only [Option.bind_some,cond_true,cond_false,gt_at (show fr.toNat < lab.length by omega),gt_at (show to.toNat < lab.length by omega)]
    have hassoc:∀ {α β γ:Type} (m:Option α) (f:α→Option β) (g:β→Option γ),(m.bind fun x=>(f x).bind g)=(m.bind f).bind g:=fun m f g=>by cases m <;> rfl
    rw [hassoc,hq]
    simp only [Option.bind_some]
    rcases bt (qB fr to lab) with e | e
    · rw [e,cond_true,p_spec_weight o _ ho]; rfl
    · rw [e,cond_false]; rfl
  · have h1:decide (((List.range (2 ^ gr.length)).length:Int) < IntKind.wrap .i64 (1 * 2 ^ (min gr.length (IntKind.bits .i64))))=false:=by
     rw [shl1 _ (by omega)]; simp
    simp only [M_t,hu,Int.toNat_natCast]
    rw [grd_t (by omega)]
    simp only [h1,cond_false]; rfl
 rw [this]; rfl
end Vs

namespace Vs
open Go
theorem idxs_cons_len (r:Int) (i:Nat) (f:TFiber) (fs:List TFiber):(idxs r i (f::fs)).length=(if f.Risk=r then 1 else 0)+(idxs r (i+1) fs).length:=by
 rw [idxs_cons]; split <;> simp <;> omega
theorem one_risk (x:Int):(if x=1 then 1 else 0)+(if x=2 then 1 else 0)+(if x=3 then 1 else 0)+(if x=4 then 1 else 0)+(if x=5 then 1 else 0)+(if x=6 then 1 else 0)+(if x=7 then 1 else 0)+(if x=8 then 1 else 0)+(if x=9 then 1 else 0)+(if x=0 then 1 else 0)≤(1:Nat):=by
 by_cases h1:x=1; · subst h1; decide
 by_cases h2:x=2; · subst h2; decide
 by_cases h3:x=3; · subst h3; decide
 by_cases h4:x=4; · subst h4; decide
 by_cases h5:x=5; · subst h5; decide
 by_cases h6:x=6; · subst h6; decide
 by_cases h7:x=7; · subst h7; decide
 by_cases h8:x=8; · subst h8; decide
 by_cases h9:x=9; · subst h9; decide
 simp only [h1,h2,h3,h4,h5,h6,h7,h8,h9,if_false]
 split <;> omega
theorem idxs_total:∀ (fs:List TFiber) (i:Nat),(idxs 1 i fs).length+(idxs 2 i fs).length+(idxs 3 i fs).length+(idxs 4 i fs).length+(idxs 5 i fs).length+(idxs 6 i fs).length+(idxs 7 i fs).length+(idxs 8 i fs).length+(idxs 9 i fs).length+(idxs 0 i fs).length≤fs.length
 | [],i=>by simp [idxs]
 | f :: fs, i => by
   have h1:=idxs_total fs (i+1)
   have h2:=one_risk f.Risk
   simp only [idxs_cons_len,List.length_cons]
   omega
theorem filter_pos_len:∀ (ls:List (List Int)),(ls.filter fun l=>decide (0 < l.length)).length≤(ls.map List.length).sum
 | []=>by simp
 | l :: ls => by
   have:=filter_pos_len ls
   rw [List.filter_cons]
   simp only [List.map_cons,List.sum_cons]
   split
   · rename_i h; simp at h; simp; omega
   · omega
theorem groupsP_le (n:TNetwork):(groupsP n).length≤n.Fibers.length:=by
 have h1:=idxs_total n.Fibers 0
 have h2:=filter_pos_len (risks.map fun r=>idxs r 0 n.Fibers)
 unfold groupsP
 simp only [List.length_append,List.length_map]
 simp only [risks,List.map_cons,List.map_nil,List.sum_cons,List.sum_nil] at h2
 simp only [risks,List.map_cons,List.map_nil]
 omega
theorem outOk_b {n:TNetwork} {o:TOutage} (h:outOk n o=true):2≤o.Unit∧o.Unit≤20∧o.Down.length≤14∧∀ d∈o.Down,0≤d∧d≤o.Unit:=by
 unfold outOk at h
 simp only [Bool.and_eq_true,decide_eq_true_eq,wi_iff,Bool.not_eq_true',List.any_eq_false,Bool.not_eq_false] at h
 obtain ⟨⟨⟨h1,h2⟩,h3⟩,h4⟩:=h
 have:=groupsP_le n
 have:=(netOk_b h1).2.2
 refine ⟨h2.1,h2.2,by omega,fun d hd=>?_⟩
 have:=h4 d hd
 simpa using this
theorem pow_bound (u:Int) (h2:2≤u) (h20:u≤20):∀ k:Nat,1≤u ^ k∧u ^ k≤20 ^ k
 | 0=>by simp
 | k + 1 => by
   obtain ⟨a,b⟩:=pow_bound u h2 h20 k
   rw [Int.pow_succ,Int.pow_succ]
   have c1:(1:Int) * 1≤u ^ k * u:=Int.mul_le_mul a (by omega) (by omega) (by omega)
   have c2:u ^ k * u≤20 ^ k * 20:=Int.mul_le_mul b h20 (by omega) (Int.le_of_lt (Int.pow_pos (by omega)))
   exact ⟨by omega,c2⟩
theorem pow_14 (u:Int) (h2:2≤u) (h20:u≤20) (k:Nat) (hk:k≤14):1≤u ^ k∧u ^ k≤1638400000000000000:=by
 obtain ⟨a,b⟩:=pow_bound u h2 h20 k
 refine ⟨a,Int.le_trans b ?_⟩
 have:(20:Int) ^ k≤20 ^ 14:=by
  have:(20:Nat) ^ k≤20 ^ 14:=Nat.pow_le_pow_right (by omega) hk
  exact_mod_cast this
 have e:(20:Int) ^ 14=1638400000000000000:=by decide
 omega
def allP (o:TOutage):Int:=o.Unit ^ o.Down.length
theorem all_fold (u:Int) (h2:2≤u) (h20:u≤20):∀ (ds:List Int) (i k:Nat),k+ds.length≤14→foldI (fun (_:Nat) (_:Int) a=>IntKind.wrap .i64 (a * u)) i ds (u ^ k)=u ^ (k+ds.length)
 | [],i,k,_=>rfl
 | d :: ds, i, k, h => by
   simp only [List.length_cons] at h
   have:=pow_14 u h2 h20 (k+1) (by omega)
   rw [Int.pow_succ] at this
   simp only [foldI]
   rw [w64_eq (by omega) (by omega),← Int.pow_succ,all_fold u h2 h20 ds (i+1) (k+1) (by omega)]
   congr 1; simp; omega
theorem all_loop {f:Int×Int→Option ((Int×Int) ⊕ Int)} (o:TOutage) (h2:2≤o.Unit) (h20:o.Unit≤20) (hl:o.Down.length≤14)
 (h1:∀ (i:Nat) (a:Int),i < o.Down.length→f (a,(i:Int))=some (.inl (IntKind.wrap .i64 (a * o.Unit),((i+1:Nat):Int)))) (hf:∀ a,f (a,(o.Down.length:Int))=some (.inr a)) :
 iter f N0 (1,0)=some (allP o):=by
 have:=iter_foldI (f:=f) o.Down (fun i (a:Int)=>(a,(i:Int))) (fun (_:Nat) (_:Int) a=>IntKind.wrap .i64 (a * o.Unit)) id (fun _ _=>True) (fun i a x hx _=>⟨trivial,h1 i a (List.getElem?_eq_some_iff.1 hx).1⟩) (fun a _=>hf a) 1 trivial (by omega)
 rw [show iter f N0 (1,0)=_ from this]
 have e:=all_fold o.Unit h2 h20 o.Down 0 0 (by omega)
 rw [Int.pow_zero,Nat.zero_add] at e
 rw [e]; rfl
theorem bits_and_u64 {a b:Nat} (ha:a < 2 ^ 64) (hb:b < 2 ^ 64):bits .and .u64 (a:Int) (b:Int)=((a &&& b:Nat):Int):=by
 have h:a &&& b≤a:=Nat.and_le_left
 unfold bits
 show IntKind.wrap .u64 (((BitVec.ofInt 64 (a:Int) &&& BitVec.ofInt 64 (b:Int)).toNat:Nat):Int)=_
 rw [BitVec.toNat_and,BitVec.ofInt_natCast,BitVec.ofInt_natCast,BitVec.toNat_ofNat,BitVec.toNat_ofNat,Nat.mod_eq_of_lt ha,Nat.mod_eq_of_lt hb,w64u_eq (by omega) (by omega)]
theorem mask32 {x:Int} (h0:0≤x) (h1:x < 18446744073709551616):bits .and .u64 x 4294967295=x % 4294967296:=by
 obtain ⟨a,rfl⟩:=Int.eq_ofNat_of_zero_le h0
 have:=bits_and_u64 (a:=a) (b:=4294967295) (by omega) (by omega)
 have e:a &&& 4294967295=a % 4294967296:=Nat.and_two_pow_sub_one_eq_mod a 32
 rw [e] at this
 simpa using this
theorem shr32 {x:Int} (h0:0≤x):Int.fdiv x (2 ^ (min (Int.toNat 32) (IntKind.bits .u64)))=x / 4294967296:=by
 have e:(2:Int) ^ (min (Int.toNat 32) (IntKind.bits .u64))=4294967296:=by decide
 rw [e,Int.fdiv_eq_ediv_of_nonneg _ (by omega)]
theorem mul64_y (x d:Int) (h0:0≤x) (h1:x < 18446744073709551616) (d0:0≤d) (d1:d≤1000):M_bl x d=some (x * d / 18446744073709551616,x * d % 18446744073709551616):=by
 unfold M_bl
 rw [shr32 h0,shr32 d0,mask32 h0 h1,mask32 d0 (by omega)]
 have hd1:d / 4294967296=0:=by omega
 have hd2:d % 4294967296=d:=by omega
 rw [hd1,hd2,Int.mul_zero,Int.mul_zero]
 have ha:0≤x / 4294967296:=by omega
 have ha2:x / 4294967296 < 4294967296:=by omega
 have hb:0≤x % 4294967296:=by omega
 have hb2:x % 4294967296 < 4294967296:=by omega
 have hp0:0≤x / 4294967296 * d:=Int.mul_nonneg ha d0
 have hp1:x / 4294967296 * d≤4294967296 * 1000:=Int.mul_le_mul (by omega) d1 d0 (by omega)
 have hq0:0≤x % 4294967296 * d:=Int.mul_nonneg hb d0
 have hq1:x % 4294967296 * d≤4294967296 * 1000:=Int.mul_le_mul (by omega) d1 d0 (by omega)
 have hx:x * d=x / 4294967296 * d * 4294967296+x % 4294967296 * d:=by
  have:x=x / 4294967296 * 4294967296+x % 4294967296:=by omega
  have h:x * d=(x / 4294967296 * 4294967296+x % 4294967296) * d:=congrArg (· * d) this
  rw [Int.add_mul,Int.mul_right_comm] at h
  exact h
 generalize x / 4294967296 * d=p at *
 generalize x % 4294967296 * d=q at *
 generalize x * d=r at *
 have z0:IntKind.wrap .u64 0=0:=w64u_eq (by omega) (by omega)
 rw [z0,w64u_eq hp0 (by omega),w64u_eq hq0 (by omega),shr32 hq0,w64u_eq (n:=p+q / 4294967296) (by omega) (by omega),shr32 (x:=p+q / 4294967296) (by omega),mask32 (x:=p+q / 4294967296) (by omega) (by omega),Int.zero_add,
  w64u_eq (n:=(p+q / 4294967296) / 4294967296) (by omega) (by omega),Int.add_zero,w64u_eq (n:=(p+q / 4294967296) % 4294967296) (by omega) (by omega),shr32 (x:=(p+q / 4294967296) % 4294967296) (by omega),
  w64u_eq (n:=(p+q / 4294967296) / 4294967296+(p+q / 4294967296) % 4294967296 / 4294967296) (by omega) (by omega),IntKind.wrap_u64]
 congr 2
 omega
theorem mul64_x (d y:Int) (h0:0≤y) (h1:y < 18446744073709551616) (d0:0≤d) (d1:d≤1000):M_bl d y=some (d * y / 18446744073709551616,d * y % 18446744073709551616):=by
 unfold M_bl
 rw [shr32 h0,shr32 d0,mask32 h0 h1,mask32 d0 (by omega)]
 have hd1:d / 4294967296=0:=by omega
 have hd2:d % 4294967296=d:=by omega
 rw [hd1,hd2,Int.zero_mul,Int.zero_mul]
 have ha:0≤y / 4294967296:=by omega
 have ha2:y / 4294967296 < 4294967296:=by omega
 have hb:0≤y % 4294967296:=by omega
 have hb2:y % 4294967296 < 4294967296:=by omega
 have hp0:0≤d * (y / 4294967296):=Int.mul_nonneg d0 ha
 have hp1:d * (y / 4294967296)≤1000 * 4294967296:=Int.mul_le_mul d1 (by omega) ha (by omega)
 have hq0:0≤d * (y % 4294967296):=Int.mul_nonneg d0 hb
 have hq1:d * (y % 4294967296)≤1000 * 4294967296:=Int.mul_le_mul d1 (by omega) hb (by omega)
 have hx:d * y=d * (y / 4294967296) * 4294967296+d * (y % 4294967296):=by
  have:y=y / 4294967296 * 4294967296+y % 4294967296:=by omega
  have h:d * y=d * (y / 4294967296 * 4294967296+y % 4294967296):=congrArg (d * ·) this
  rw [Int.mul_add,← Int.mul_assoc] at h
  exact h
 generalize d * (y / 4294967296)=p at *
 generalize d * (y % 4294967296)=q at *
 generalize d * y=r at *
 have z0:IntKind.wrap .u64 0=0:=w64u_eq (by omega) (by omega)
 rw [z0,w64u_eq hp0 (by omega),w64u_eq hq0 (by omega),shr32 hq0]
 simp only [Int.zero_add]
 rw [w64u_eq (n:=q / 4294967296) (by omega) (by omega),shr32 (x:=q / 4294967296) (by omega),mask32 (x:=q / 4294967296) (by omega) (by omega),
  w64u_eq (n:=q / 4294967296 / 4294967296) (by omega) (by omega),w64u_eq (n:=q / 4294967296 % 4294967296+p) (by omega) (by omega),shr32 (x:=q / 4294967296 % 4294967296+p) (by omega),
  w64u_eq (n:=q / 4294967296 / 4294967296+(q / 4294967296 % 4294967296+p) / 4294967296) (by omega) (by omega),IntKind.wrap_u64]
 congr 2
 omega
theorem p_l16Part (x den all:Int) (x0:0≤x) (xa:x < all) (al:all≤1638400000000000000) (d0:1≤den) (d1:den≤1000):∃ P R,M_cp x den all=some P∧x * den=P * all+R∧0≤R∧R < all∧0≤P∧P≤den:=by
 unfold M_cp
 obtain ⟨b,hb,R,h1,h2,h3,h4,h5⟩:=iter_inv (f:=M_l x den all) (fun s=>x * s.2.2=s.1 * all+s.2.1∧0≤s.2.1∧s.2.1 < all∧0≤s.1∧s.1≤s.2.2∧0≤s.2.2∧s.2.2≤den) (fun s=>(den - s.2.2).toNat)
  (fun b=>∃ R,x * den=b * all+R∧0≤R∧R < all∧0≤b∧b≤den) (fun s hI=>by
   obtain ⟨o,r,i⟩:=s
   obtain ⟨e1,e2,e3,e4,e5,e6,e7⟩:=hI
   simp only at e1 e2 e3 e4 e5 e6 e7
   by_cases hi:i < den
   · left
     have q1:decide (i < den)=true:=by simp [hi]
     have hxi:x * (i+1)=x * i+x:=by rw [Int.mul_add,Int.mul_one]
     by_cases hr:all - x≤r
     · refine ⟨(o+1,r - (all - x),i+1),?_,⟨?_,?_,?_,?_,?_,?_,?_⟩,?_⟩
       · simp only [M_l,q1,cond_true]
         rw [w64_eq (n:=all - x) (by omega) (by omega),w64_eq (n:=i+1) (by omega) (by omega),w64_eq (n:=o+1) (by omega) (by omega),w64_eq (n:=r - (all - x)) (by omega) (by omega)]
         simp [hr]
       · simp only; rw [hxi,e1,Int.add_mul,Int.one_mul]; omega
       all_goals simp only
       all_goals omega
     · refine ⟨(o,r+x,i+1),?_,⟨?_,?_,?_,?_,?_,?_,?_⟩,?_⟩
       · simp only [M_l,q1,cond_true]
         rw [w64_eq (n:=all - x) (by omega) (by omega),w64_eq (n:=i+1) (by omega) (by omega),w64_eq (n:=r+x) (by omega) (by omega)]
         simp [hr]
       · simp only; rw [hxi,e1]; omega
       all_goals simp only
       all_goals omega
   · right
     have:i=den:=by omega
     subst this
     exact ⟨o,by simp [M_l],r,e1,e2,e3,e4,e5⟩) N0 (0,0,0) ⟨by simp,by simp,by simp; omega,by simp,by simp,by simp,by simp; omega⟩ (N0_lt (by simp; omega))
 exact ⟨b,R,by rw [hb]; rfl,h1,h2,h3,h4,h5⟩
end Vs

namespace Vs
open Go
def MTg (n:TNetwork) (o:TOutage) (v num den:Int):Bool:=outOk n o&&wi v 0 (allP o)&&wi den 1 1000&&wi num 0 den
def MTr (n:TNetwork) (o:TOutage) (v num den:Int):Bool×Bool:=if MTg n o v num den then (decide (num * allP o≤v * den),true) else (false,false)
theorem allP_b {n:TNetwork} {o:TOutage} (h:outOk n o=true):1≤allP o∧allP o≤1638400000000000000:=by
 obtain ⟨h1,h2,h3,_⟩:=outOk_b h
 exact pow_14 o.Unit h1 h2 _ h3
theorem p_impl_MeetsTarget (x1:TNetwork) (x2:TOutage) (x3 x4 x5:Int) (z1:z_Network x1≤1048576) (z2:z_Outage x2≤1048576):M_bj x1 x2 x3 x4 x5=some (MTr x1 x2 x3 x4 x5):=by
 unfold M_bj MTr MTg
 simp only [p_impl_Outage x1 x2 z1 z2,Option.bind_some,p_within]
 rcases bt (outOk x1 x2) with e1 | e1
 · obtain ⟨b1,b2,b3,_⟩:=outOk_b e1
   obtain ⟨a1,a2⟩:=allP_b e1
   rw [all_loop (f:=M_ba x2) x2 b1 b2 b3 (fun i a hi=>by
    have q:decide ((i:Int) < x2.Down.length)=true:=by simp [hi]
    simp only [M_ba,q,cond_true]
    rw [w64_eq (n:=(i:Int)+1) (by omega) (by omega)]; rfl) (fun a=>by simp [M_ba])]
   simp only [e1,Bool.not_true,cond_false,Option.bind_some,Bool.true_and]
   rcases bt (wi x3 0 (allP x2)) with e2 | e2
   · rcases bt (wi x5 1 1000) with e3 | e3
     · rcases bt (wi x4 0 x5) with e4 | e4
       · have v:=wi_iff.1 e2
         have d:=wi_iff.1 e3
         have m:=wi_iff.1 e4
         simp only [e2,e3,e4,Bool.not_true,cond_false,Option.bind_some,Bool.and_self,if_true]
         rw [w64u_eq (n:=x3) (by omega) (by omega),w64u_eq (n:=x5) (by omega) (by omega),w64u_eq (n:=x4) (by omega) (by omega),w64u_eq (n:=allP x2) (by omega) (by omega),
          mul64_y x3 x5 (by omega) (by omega) (by omega) (by omega),mul64_x x4 (allP x2) (by omega) (by omega) (by omega) (by omega)]
         simp only [Option.bind_some]
         generalize x3 * x5=X
         generalize x4 * allP x2=Y
         by_cases c1:Y / 18446744073709551616 < X / 18446744073709551616
         · have c2:Y≤X:=by omega
           simp [c1,c2]
         · simp only [c1,decide_false,cond_false]
           by_cases c3:X / 18446744073709551616=Y / 18446744073709551616
           · have e:(X / 18446744073709551616==Y / 18446744073709551616)=true:=by simp [c3]
             rw [e]
             simp only [cond_true]
             have:decide (Y % 18446744073709551616≤X % 18446744073709551616)=decide (Y≤X):=decide_eq_decide.2 (by omega)
             rw [this]
           · have e:(X / 18446744073709551616==Y / 18446744073709551616)=false:=by simp [c3]
             have c4:¬ Y≤X:=by omega
             rw [e]
             simp [c4]
       · simp [e2,e3,e4]
     · simp [e2,e3]
   · simp [e2]
 · simp [e1]
theorem p_spec_MeetsTarget (x1:TNetwork) (x2:TOutage) (x3 x4 x5:Int) (z1:z_Network x1≤1048576) (z2:z_Outage x2≤1048576):M_cc x1 x2 x3 x4 x5=some (MTr x1 x2 x3 x4 x5):=by
 unfold M_cc MTr MTg
 simp only [p_spec_Outage x1 x2 z1 z2,Option.bind_some,p_l1In]
 rcases bt (outOk x1 x2) with e1 | e1
 · obtain ⟨b1,b2,b3,_⟩:=outOk_b e1
   obtain ⟨a1,a2⟩:=allP_b e1
   rw [all_loop (f:=M_bb x2) x2 b1 b2 b3 (fun i a hi=>by
    have q:decide ((i:Int) < x2.Down.length)=true:=by simp [hi]
    simp only [M_bb,q,cond_true]
    rw [w64_eq (n:=(i:Int)+1) (by omega) (by omega)]; rfl) (fun a=>by simp [M_bb])]
   simp only [e1,Bool.not_true,cond_false,Option.bind_some,Bool.true_and]
   rcases bt (wi x5 1 1000) with e3 | e3
   · rcases bt (wi x4 0 x5) with e4 | e4
     · rcases bt (wi x3 0 (allP x2)) with e2 | e2
       · have v:=wi_iff.1 e2
         have d:=wi_iff.1 e3
         have m:=wi_iff.1 e4
         have hne:allP x2 ≠ 0:=by omega
         have hv0:0≤x3:=v.1
         have hm0:0≤x3 % allP x2:=Int.emod_nonneg _ hne
         have hm1:x3 % allP x2 < allP x2:=Int.emod_lt_of_pos _ (by omega)
         obtain ⟨P,R,p1,p2,p3,p4,p5,p6⟩:=p_l16Part (x3 % allP x2) x5 (allP x2) hm0 hm1 a2 d.1 d.2
         have t1:Int.tmod x3 (allP x2)=x3 % allP x2:=Int.tmod_eq_emod_of_nonneg hv0
         have t2:Int.tdiv x3 (allP x2)=x3 / allP x2:=Int.tdiv_eq_ediv_of_nonneg hv0
         have q0:0≤x3 / allP x2:=Int.ediv_nonneg hv0 (by omega)
         have q1:x3 / allP x2≤1:=by
          have:x3 / allP x2≤allP x2 / allP x2:=Int.ediv_le_ediv (by omega) v.2
          rwa [Int.ediv_self hne] at this
         have hqd:0≤x3 / allP x2 * x5∧x3 / allP x2 * x5≤1000:=by
          rcases (show x3 / allP x2=0∨x3 / allP x2=1 by omega) with e | e <;> rw [e] <;> omega
         simp only [e2,e3,e4,Bool.not_true,cond_false,Option.bind_some,Bool.and_self,if_true,grd_t hne,t1,t2,p1]
         rw [w64_eq (n:=x3 / allP x2) (by omega) (by omega),w64_eq (n:=x3 / allP x2 * x5) (by omega) (by omega),w64_eq (n:=x3 / allP x2 * x5+P) (by omega) (by omega)]
         have key:decide (x4≤x3 / allP x2 * x5+P)=decide (x4 * allP x2≤x3 * x5):=by
          apply decide_eq_decide.2
          have hx:x3=x3 / allP x2 * allP x2+x3 % allP x2:=by have:=Int.emod_add_mul_ediv x3 (allP x2); rw [Int.mul_comm (x3 / allP x2)]; omega
          have hxx:x3 * x5=x3 / allP x2 * x5 * allP x2+(P * allP x2+R):=by
           rw [← p2]
           have h:x3 * x5=(x3 / allP x2 * allP x2+x3 % allP x2) * x5:=congrArg (· * x5) hx
           rw [Int.add_mul,Int.mul_right_comm] at h
           exact h
          rw [hxx]
          generalize x3 / allP x2 * x5=q at *
          constructor
          · intro h
            have:=Int.mul_le_mul_of_nonneg_right h (show 0≤allP x2 by omega)
            rw [Int.add_mul] at this
            omega
          · intro h
            apply Decidable.byContradiction
            intro hc
            have h2:q+P+1≤x4:=by omega
            have:=Int.mul_le_mul_of_nonneg_right h2 (show 0≤allP x2 by omega)
            rw [Int.add_mul,Int.add_mul,Int.one_mul] at this
            omega
         rw [key]
       · simp [e2,e3,e4]
     · simp [e3,e4]
   · simp [e3]
 · simp [e1]
end Vs

namespace Vs
open Go
def endsB (n:TNetwork) (fr to:Int):Bool:=wi fr 0 ((n.Nodes.length:Int) - 1)&&wi to 0 ((n.Nodes.length:Int) - 1)&&(fr != to)
theorem p_isNode (n:TNetwork) (l:List Int) (hz:z_Network n≤1048576) (hl:l.length≤1048576):M_cq n l=some (netOk n&&!l.any fun x=>!wi x 0 ((n.Nodes.length:Int) - 1)):=by
 obtain ⟨h1,_,_⟩:=z_net hz
 unfold M_cq
 rw [p_IsValidNetwork n hz,p_ContainsFunc_i l (fun x0=>M_cr x0 n) (fun x=>!wi x 0 ((n.Nodes.length:Int) - 1)) (fun x=>by
  unfold M_cr
  rw [w64_eq (by omega) (by omega)]
  simp only [p_within,Option.bind_some]) hl]
 cases netOk n <;> rfl
theorem p_isConnection (n:TNetwork) (o:TOutage) (fr to:Int) (hz:z_Network n≤1048576) (ho:o.Down.length≤1048576):M_cs n o fr to=some (outOk n o&&endsB n fr to):=by
 unfold M_cs endsB
 simp only [p_impl_Outage n o hz ho,Option.bind_some,bnd,p_isNode n [fr,to] hz (by simp)]
 rcases bt (outOk n o) with e | e
 · have hn:netOk n=true:=by
    unfold outOk at e
    simp only [Bool.and_eq_true] at e
    exact e.1.1.1
   have ea:([fr,to].any fun x=>!wi x 0 ((n.Nodes.length:Int) - 1))=(!wi fr 0 ((n.Nodes.length:Int) - 1)||!wi to 0 ((n.Nodes.length:Int) - 1)):=by simp [List.any]
   rw [e,hn,ea]
   cases wi fr 0 ((n.Nodes.length:Int) - 1) <;> cases wi to 0 ((n.Nodes.length:Int) - 1) <;> simp
 · rw [e]; rfl
theorem p_l6Ends (n:TNetwork) (fr to:Int) (hz:z_Network n≤1048576):M_ct n fr to=some (netOk n&&endsB n fr to):=by
 obtain ⟨h1,_,_⟩:=z_net hz
 unfold M_ct endsB
 rw [w64_eq (by omega) (by omega)]
 simp only [p_l2Good n hz,p_l1In,Option.bind_some]
 cases netOk n <;> cases wi fr 0 ((n.Nodes.length:Int) - 1) <;> cases wi to 0 ((n.Nodes.length:Int) - 1) <;> simp
theorem ends_rng {n:TNetwork} {fr to:Int} (h:endsB n fr to=true):0≤fr∧fr < n.Nodes.length∧0≤to∧to < n.Nodes.length:=by
 unfold endsB at h
 simp only [Bool.and_eq_true,wi_iff] at h
 omega
end Vs

namespace Vs
open Go
end Vs

namespace Vs
open Go
def naP (n:TNetwork) (o:TOutage):Int×Bool:=if outOk n o then (conP n o fun l=>qB (-1) (-1) (labG n l),true) else (0,false)
theorem outOk_net {n:TNetwork} {o:TOutage} (h:outOk n o=true):netOk n=true:=by
 unfold outOk at h
 simp only [Bool.and_eq_true] at h
 exact h.1.1.1
theorem p_spec_NetworkAvailability (n:TNetwork) (o:TOutage) (hz:z_Network n≤1048576) (ho:z_Outage o≤1048576):M_dn n o=some (naP n o):=by
 have ho':o.Down.length≤1048576:=ho
 unfold M_dn naP
 simp only [p_spec_Outage n o hz ho',Option.bind_some]
 rcases bt (outOk n o) with e | e
 · have hn:=outOk_net e
   rw [e,p_l16Connected n o (-1) (-1) hn ho' (.inl (by omega))]
   rfl
 · rw [e]; rfl
end Vs

namespace Vs
open Go
def setBad (l:List Int) (n:Int) (i:Nat) (x:Int):Bool:=!wi x 0 (n - 1)||(decide (0 < i)&&match l[i - 1]? with | some y=>decide (x≤y) | none=>false)
def setB (l:List Int) (n:Int):Bool:=!anyI (setBad l n) l
theorem setB_mem {l:List Int} {n:Int} (h:setB l n=true):∀ x∈l,0≤x∧x < n:=by
 intro x hx
 unfold setB at h
 simp only [Bool.not_eq_true'] at h
 obtain ⟨i,hi,rfl⟩:=List.getElem_of_mem hx
 have:=anyI_false.1 h i l[i] (by simp [hi])
 unfold setBad at this
 simp only [Bool.or_eq_false_iff,Bool.not_eq_false',wi_iff] at this
 omega
theorem p_isSet (l:List Int) (n:Int) (hn:0≤n) (hn2:n≤1048576) (hl:l.length≤1048576):M_bz l n=some (setB l n):=by
 unfold M_bz setB
 rw [iter_anyI (f:=M_ac l n) l (setBad l n) (.inr false) (.inl ()) (fun i x hx _=>by
  have hlt:=(List.getElem?_eq_some_iff.1 hx).1
  have h1:decide ((i:Int) < l.length)=true:=by simp [hlt]
  simp only [M_ac,h1,cond_true,geti_nat,hx,Option.bind_some,p_within]
  rw [w64_eq (n:=n - 1) (by omega) (by omega),w64_eq (n:=(i:Int)+1) (by omega) (by omega)]
  unfold setBad
  rcases bt (wi x 0 (n - 1)) with e | e
  · by_cases hi:0 < i
    · have hi':decide ((0:Int) < (i:Int))=true:=by simp [hi]
      have hp:l[i - 1]?=some l[i - 1]:=List.getElem?_eq_getElem (by omega)
      have hw:IntKind.wrap .i64 ((i:Int) - 1)=((i - 1:Nat):Int):=by rw [w64_eq (by omega) (by omega)]; omega
      simp only [e,hi',cond_true,cond_false,Bool.not_true,hw,geti_nat,hp,Option.bind_some,hi,decide_true,Bool.true_and,Bool.false_or]
      rcases bt (decide (x≤l[i - 1])) with e2 | e2 <;> simp only [e2] <;> rfl
    · have hi':decide ((0:Int) < (i:Int))=false:=by simp; omega
      simp [e,hi',hi]
  · simp [e]) (by simp [M_ac]) (by omega)]
 cases anyI (setBad l n) l <;> rfl
theorem p_set (l:List Int) (h0:∀ x∈l,0≤x) (hl:l.length≤1048576):iter (M_ai l) N0 (0,0)=some (maskP l):=by
 refine iter_foldI (f:=M_ai l) l (fun i (a:Int)=>(a,(i:Int))) bitG id (fun _ _=>True) (fun i a x hx _=>?_) (fun a _=>by simp [M_ai]) 0 trivial (by omega)
 have hlt:=(List.getElem?_eq_some_iff.1 hx).1
 have h1:decide ((i:Int) < l.length)=true:=by simp [hlt]
 have h2:=h0 x (List.mem_of_getElem? hx)
 simp only [M_ai,h1,cond_true,geti_nat,hx,Option.bind_some,grd_t h2]
 rw [w64_eq (n:=(i:Int)+1) (by omega) (by omega)]
 exact ⟨trivial,rfl⟩
end Vs

namespace Vs
open Go
def stW (n:TNetwork) (o:TOutage) (l:List Int):Int×Bool:=if outOk n o&&setB l o.Down.length then (weightP o (maskP l),true) else (0,false)
theorem p_impl_StateWeight (n:TNetwork) (o:TOutage) (l:List Int) (hz:z_Network n≤1048576) (ho:o.Down.length≤1048576) (hl:l.length≤1048576):M_cv n o l=some (stW n o l):=by
 unfold M_cv stW
 simp only [p_impl_Outage n o hz ho,Option.bind_some,p_isSet l o.Down.length (by omega) (by omega) hl]
 rcases bt (outOk n o) with e1 | e1
 · rcases bt (setB l o.Down.length) with e2 | e2
   · simp only [e1,e2,Bool.not_true,cond_false,Option.bind_some,p_set l (fun x hx=>(setB_mem e2 x hx).1) hl,p_impl_weight o _ ho]
     rfl
   · simp [e1,e2]
 · simp [e1]
end Vs

namespace Vs
open Go
def bitsL (s:Int) (k:Nat):List Int:=((List.range k).filter fun i=>bitB s i).map fun i:Nat=>(i:Int)
theorem bitsL_succ (s:Int) (k:Nat):bitsL s (k+1)=if bitB s k then bitsL s k++[(k:Int)] else bitsL s k:=by
 unfold bitsL
 rw [List.range_succ,List.filter_append,List.map_append]
 by_cases h:bitB s k=true
 · simp [h]
 · simp [h]
theorem bitsL_len (s:Int) (k:Nat):(bitsL s k).length≤k:=by
 unfold bitsL
 rw [List.length_map]
 exact Nat.le_trans (List.length_filter_le ..) (by simp)
theorem foldI_bits (s:Int) {α:Type}:∀ (xs:List α) (k:Nat),foldI (fun i (_:α) (a:List Int)=>if bitB s i then a++[(i:Int)] else a) k xs (bitsL s k)=bitsL s (k+xs.length)
 | [],k=>rfl
 | x :: xs, k => by
   simp only [foldI,List.length_cons]
   rw [← bitsL_succ,foldI_bits s xs (k+1)]
   congr 1; omega
theorem p_bitsI (o:TOutage) (s mo:Int) (l0:List Int) (ho:o.Down.length≤1048576):iter (M_m o (mo,s,l0)) N0 (0,[])=some (bitsL s o.Down.length):=by
 have key:=iter_foldI (f:=M_m o (mo,s,l0)) o.Down (fun i (l:List Int)=>((i:Int),l)) (fun i _ (a:List Int)=>if bitB s i then a++[(i:Int)] else a) id (fun i l=>l.length≤i) (fun i l x hx hI=>by
  have hlt:=(List.getElem?_eq_some_iff.1 hx).1
  have h1:decide ((i:Int) < o.Down.length)=true:=by simp [hlt]
  refine ⟨by split <;> (try simp only [List.length_append,List.length_cons,List.length_nil]) <;> omega,?_⟩
  simp only [M_m,h1,cond_true,Int.toNat_natCast,bnd]
  rw [grd_t (by omega),w64_eq (n:=(i:Int)+1) (by omega) (by omega)]
  simp only [Option.bind_some]
  have eb:(bits .and .i64 (Int.fdiv s (2 ^ (min i (IntKind.bits .i64)))) 1==1)=bitB s i:=rfl
  rw [eb]
  rcases bt (bitB s i) with e | e
  · rw [e,cond_true,grd_t (by omega)]; rfl
  · rw [e,cond_false]; rfl) (fun l _=>by simp [M_m]) [] (Nat.le_refl 0) (by omega)
 have e0:((0:Nat):Int)=0:=rfl
 simp only [e0] at key
 rw [key]
 have:=foldI_bits s o.Down 0
 rw [Nat.zero_add] at this
 exact congrArg some this
theorem p_bitsS (gr:List (List Int)) (s mo:Int) (ho:gr.length≤1048576):iter (M_n gr (s,mo)) N0 (0,[])=some (bitsL s gr.length):=by
 have key:=iter_foldI (f:=M_n gr (s,mo)) gr (fun i (l:List Int)=>((i:Int),l)) (fun i _ (a:List Int)=>if bitB s i then a++[(i:Int)] else a) id (fun i l=>l.length≤i) (fun i l x hx hI=>by
  have hlt:=(List.getElem?_eq_some_iff.1 hx).1
  have h1:decide ((i:Int) < gr.length)=true:=by simp [hlt]
  refine ⟨by split <;> (try simp only [List.length_append,List.length_cons,List.length_nil]) <;> omega,?_⟩
  simp only [M_n,h1,cond_true,w64u_eq (n:=(i:Int)) (by omega) (by omega),Int.toNat_natCast,bnd]
  rw [grd_t (by omega),w64_eq (n:=(i:Int)+1) (by omega) (by omega)]
  simp only [Option.bind_some]
  have eb:(bits .and .i64 (Int.fdiv s (2 ^ (min i (IntKind.bits .i64)))) 1==1)=bitB s i:=rfl
  rw [eb]
  rcases bt (bitB s i) with e | e
  · rw [e,cond_true,grd_t (by omega)]; rfl
  · rw [e,cond_false]; rfl) (fun l _=>by simp [M_n]) [] (Nat.le_refl 0) (by omega)
 have e0:((0:Nat):Int)=0:=rfl
 simp only [e0] at key
 rw [key]
 have:=foldI_bits s gr 0
 rw [Nat.zero_add] at this
 exact congrArg some this
theorem goneL_bits (s:Int) (gr:List (List Int)):∀ (k:Nat) (xs:List (List Int)) (a:List Int),(∀ i g,xs[i]?=some g→gr[k+i]?=some g)→a=(bitsL s k).flatMap (fun g=>(gr[g.toNat]?).getD []) →
 foldI (fun i g (a:List Int)=>if bitB s i then a++g else a) k xs a=(bitsL s (k+xs.length)).flatMap fun g=>(gr[g.toNat]?).getD []
 | k,[],a,_,ha=>ha
 | k, g :: xs, a, hg, ha => by
   simp only [foldI,List.length_cons]
   have h0:=hg 0 g rfl
   rw [Nat.add_zero] at h0
   rw [goneL_bits s gr (k+1) xs _ (fun i g' h=>by have:=hg (i+1) g' (by simpa using h); rw [show k+1+i=k+(i+1) by omega]; exact this) (by
    rw [bitsL_succ]
    by_cases h:bitB s k=true
    · rw [if_pos h,if_pos h,List.flatMap_append,← ha]
      simp [h0]
    · rw [if_neg h,if_neg h]; exact ha)]
   congr 2; omega
theorem p_fibersOf (n:TNetwork) (s:Int) (hz:n.Fibers.length≤14):M_cu n (bitsL s (groupsP n).length)=some (goneL s (groupsP n)):=by
 unfold M_cu
 rw [p_groups n hz]
 simp only [Option.bind_some]
 have hK:=groupsP_len n hz
 have hgr:=groups_rng hz
 generalize groupsP n=gr at hK hgr
 have hbl:=bitsL_len s gr.length
 have hmem:∀ x∈bitsL s gr.length,0≤x∧x < (gr.length:Int):=fun x hx=>by
  unfold bitsL at hx
  obtain ⟨i,hi,rfl⟩:=List.mem_map.1 hx
  have:=List.mem_range.1 (List.mem_filter.1 hi).1
  omega
 have key:=iter_foldI (f:=M_ao (bitsL s gr.length) gr) (bitsL s gr.length) (fun i (l:List Int)=>((i:Int),l)) (fun _ x (a:List Int)=>a++(gr[x.toNat]?).getD []) id (fun i l=>l.length≤14 * i) (fun i l x hx hI=>by
  have hlt:=(List.getElem?_eq_some_iff.1 hx).1
  have h1:decide ((i:Int) < (bitsL s gr.length).length)=true:=by simp [hlt]
  have hm:=hmem x (List.mem_of_getElem? hx)
  have hi:x.toNat < gr.length:=by omega
  have hgl:=(hgr _ (List.getElem_mem hi)).1
  have hg:=List.getElem?_eq_getElem hi
  generalize gr[x.toNat]=g at hgl hg
  refine ⟨by rw [hg,Option.getD_some,List.length_append]; omega,?_⟩
  simp only [M_ao,h1,cond_true,geti_nat,hx,Option.bind_some,hg,bnd]
  rw [grd_t (by omega),grd_t (by omega),w64_eq (n:=(i:Int)+1) (by omega) (by omega)]
  rfl) (fun l _=>by simp [M_ao]) [] (Nat.le_refl 0) (by omega)
 have e0:((0:Nat):Int)=0:=rfl
 simp only [e0] at key
 rw [key]
 have hf:∀ (xs:List Int) (k:Nat) (a:List Int),foldI (fun _ x (a:List Int)=>a++(gr[x.toNat]?).getD []) k xs a=a++xs.flatMap fun g=>(gr[g.toNat]?).getD []:=by
  intro xs
  induction xs with
  | nil=>intro k a; simp [foldI]
  | cons x xs ih=>intro k a; simp only [foldI]; rw [ih]; simp
 rw [hf]
 have:=goneL_bits s gr 0 gr [] (fun i g h=>by rw [Nat.zero_add]; exact h) (by simp [bitsL])
 rw [Nat.zero_add] at this
 unfold goneL
 rw [this]
 simp
theorem wt_rng {u:Int} (h2:2≤u) (h20:u≤20) (s:Int):∀ (ds:List Int) (i k:Nat) (a:Int),k+ds.length≤14→(∀ d∈ds,0≤d∧d≤u)→0≤a∧a≤20 ^ k→0≤foldI (wtG u s) i ds a
 | [],_,_,a,_,_,ha=>ha.1
 | d :: ds, i, k, a, hk, hd, ha => by
   simp only [foldI]
   have hd0:=hd d (by simp)
   have h14:(20:Int) ^ (k+1)≤1638400000000000000:=(pow_14 20 (by omega) (by omega) (k+1) (by simp at hk; omega)).2
   have hs:(20:Int) ^ (k+1)=20 ^ k * 20:=Int.pow_succ ..
   have m:∀ x:Int,0≤x∧x≤20→0≤a * x∧a * x≤20 ^ (k+1):=fun x hx=>by
    refine ⟨Int.mul_nonneg ha.1 hx.1,?_⟩
    rw [hs]
    exact Int.mul_le_mul ha.2 hx.2 hx.1 (Int.le_trans ha.1 ha.2)
   refine wt_rng h2 h20 s ds (i+1) (k+1) _ (by simp at hk; omega) (fun e he=>hd e (by simp [he])) ?_
   unfold wtG
   split
   · have:=m d ⟨hd0.1,by omega⟩
     rw [w64_eq (by omega) (by omega)]; exact this
   · have e1:IntKind.wrap .i64 (u - d)=u - d:=w64_eq (by omega) (by omega)
     have:=m (u - d) ⟨by omega,by omega⟩
     rw [e1,w64_eq (by omega) (by omega)]; exact this
theorem weight_nn {n:TNetwork} {o:TOutage} (h:outOk n o=true) (s:Int):0≤weightP o s:=by
 obtain ⟨h1,h2,h3,h4⟩:=outOk_b h
 unfold weightP
 exact wt_rng h1 h2 s o.Down 0 0 1 (by omega) h4 (by simp)
theorem pass_none {al:Nat→Bool}:∀ (fs:List TFiber) (k:Nat) (o:List Int),(∀ i,i < fs.length→al (k+i)=false)→passP al k fs o=o
 | [],_,_,_=>rfl
 | f :: fs, k, o, h => by
   have h0:=h 0 (by simp)
   rw [Nat.add_zero] at h0
   rw [pass_cons]
   unfold one
   rw [h0,if_neg (by simp)]
   exact pass_none fs (k+1) o fun i hi=>by rw [show k+1+i=k+(i+1) by omega]; exact h (i+1) (by simp; omega)
theorem labels_none {al:Nat→Bool} {fs:List TFiber} (N:Nat) (h:∀ i,i < fs.length→al i=false):labels al fs N=initP N:=by
 have:∀ (m:Nat) (o:List Int),rep (passP al 0 fs) m o=o:=by
  intro m
  induction m with
  | zero=>intro o; rfl
  | succ m ih =>
    intro o
    show passP al 0 fs (rep (passP al 0 fs) m o)=o
    rw [ih]
    exact pass_none fs 0 o (fun i hi=>by rw [Nat.zero_add]; exact h i hi)
 exact this N _
theorem group_all {n:TNetwork} (i:Nat) (hi:i < n.Fibers.length) (hr:∀ f∈n.Fibers,0≤f.Risk∧f.Risk≤9):∃ (k:Nat) (g:List Int),(groupsP n)[k]?=some g∧(i:Int)∈g:=by
 have hf:=List.getElem?_eq_getElem hi
 have hr0:=hr _ (List.getElem_mem hi)
 generalize n.Fibers[i]=f at hf hr0
 have key:∃ g∈groupsP n,(i:Int)∈g:=by
  unfold groupsP
  by_cases h0:f.Risk=0
  · refine ⟨[(i:Int)],List.mem_append_right _ (List.mem_map.2 ⟨(i:Int),(idxs_mem 0 n.Fibers 0 _).2 ⟨i,f,hf,h0,by simp⟩,rfl⟩),by simp⟩
  · have hm:(i:Int)∈idxs f.Risk 0 n.Fibers:=(idxs_mem f.Risk n.Fibers 0 _).2 ⟨i,f,hf,rfl,by simp⟩
    refine ⟨idxs f.Risk 0 n.Fibers,List.mem_append_left _ (List.mem_filter.2 ⟨List.mem_map.2 ⟨f.Risk,?_,rfl⟩,?_⟩),hm⟩
    · simp only [risks,List.mem_cons,List.not_mem_nil,or_false]; omega
    · have:=List.length_pos_of_mem hm
      simpa using this
 obtain ⟨g,g1,g2⟩:=key
 obtain ⟨k,hk,e⟩:=List.getElem_of_mem g1
 exact ⟨k,g,by rw [List.getElem?_eq_getElem hk,e],g2⟩
end Vs

namespace Vs
open Go
theorem foldI_app {α A:Type} (g:Nat→α→A→A):∀ (xs ys:List α) (k:Nat) (a:A),foldI g k (xs++ys) a=foldI g (k+xs.length) ys (foldI g k xs a)
 | [],ys,k,a=>rfl
 | x :: xs, ys, k, a => by
   simp only [List.cons_append,foldI,List.length_cons]
   rw [foldI_app g xs ys (k+1)]
   congr 1; omega
theorem foldI_rel {α A B:Type} (g:Nat→α→A→A) (h:Nat→α→B→B) (R:A→B→Prop) (hs:∀ i x a b,R a b→R (g i x a) (h i x b)):∀ (xs:List α) (k:Nat) (a:A) (b:B),R a b→R (foldI g k xs a) (foldI h k xs b)
 | [],_,_,_,hR=>hR
 | x::xs,k,a,b,hR=>foldI_rel g h R hs xs (k+1) _ _ (hs k x a b hR)
def dB (n:TNetwork) (fr to:Int) (s:Int):Bool:=gt (labG n (goneL s (groupsP n))) fr.toNat != gt (labG n (goneL s (groupsP n))) to.toNat
def lcI (n:TNetwork) (o:TOutage) (fr to:Int) (i:Nat) (_:Nat) (p:Int×List Int):Int×List Int :=
 if weightP o (i:Int)≤p.1 then p else if dB n fr to (i:Int) then (weightP o (i:Int),bitsL (i:Int) (groupsP n).length) else p
def lcS (n:TNetwork) (o:TOutage) (fr to:Int) (i:Nat) (_:Nat) (p:Int×Int):Int×Int :=
 if dB n fr to (i:Int)&&(decide (p.1 < 0)||decide (p.2 < weightP o (i:Int))) then ((i:Int),weightP o (i:Int)) else p
def lcF (n:TNetwork) (o:TOutage) (fr to:Int):Int×List Int:=foldI (lcI n o fr to) 0 (List.range (2 ^ (groupsP n).length)) (-1,[])
def lcG (n:TNetwork) (o:TOutage) (fr to:Int):Int×Int:=foldI (lcS n o fr to) 0 (List.range (2 ^ (groupsP n).length)) (-1,0)
def lcP (n:TNetwork) (o:TOutage) (fr to:Int):List Int×Int×Bool:=if outOk n o&&endsB n fr to then ((lcF n o fr to).2,(lcF n o fr to).1,true) else ([],0,false)
theorem outOk_K {n:TNetwork} {o:TOutage} (h:outOk n o=true):netOk n=true∧o.Down.length=(groupsP n).length:=by
 unfold outOk at h
 simp only [Bool.and_eq_true,decide_eq_true_eq] at h
 exact ⟨h.1.1.1,h.1.2⟩
theorem net_risk {n:TNetwork} (h:netOk n=true):∀ f∈n.Fibers,0≤f.Risk∧f.Risk≤9:=fun f hf=>by
 unfold netOk at h
 simp only [Bool.and_eq_true,Bool.not_eq_true'] at h
 obtain ⟨i,hi,rfl⟩:=List.getElem_of_mem hf
 have:=anyI_false.1 h.1.1.2 i _ (List.getElem?_eq_getElem hi)
 unfold fibBad fib1 at this
 simp only [Bool.or_eq_false_iff,Bool.not_eq_false',wi_iff] at this
 exact this.1.2
theorem dB_last {n:TNetwork} (h:netOk n=true) {fr to:Int} (he:endsB n fr to=true) (hne:fr ≠ to):dB n fr to ((2 ^ (groupsP n).length - 1:Nat):Int)=true:=by
 obtain ⟨f1,f2,f3,f4⟩:=ends_rng he
 have hb:=netOk_b h
 have hK:=groupsP_len n (by omega)
 have hl:labG n (goneL ((2 ^ (groupsP n).length - 1:Nat):Int) (groupsP n))=initP n.Nodes.length:=by
  unfold labG
  refine labels_none _ fun i hi=>?_
  obtain ⟨k,g,g1,g2⟩:=group_all i hi (net_risk h)
  have hk:=(List.getElem?_eq_some_iff.1 g1).1
  unfold alL
  rw [Bool.not_eq_false',decide_eq_true_eq]
  have:=goneL_bits ((2 ^ (groupsP n).length - 1:Nat):Int) (groupsP n) 0 (groupsP n) [] (fun i g h=>by rw [Nat.zero_add]; exact h) (by simp [bitsL])
  rw [Nat.zero_add] at this
  unfold goneL
  rw [this,List.mem_flatMap]
  refine ⟨(k:Int),?_,by rw [Int.toNat_natCast,g1]; exact g2⟩
  unfold bitsL
  refine List.mem_map.2 ⟨k,List.mem_filter.2 ⟨List.mem_range.2 hk,?_⟩,rfl⟩
  unfold bitB
  rw [tbit _ k (by omega) (Nat.lt_of_lt_of_le (Nat.sub_lt (Nat.two_pow_pos _) (by omega)) (Nat.pow_le_pow_right (by omega) (by omega))),Nat.testBit_two_pow_sub_one]
  simpa using hk
 unfold dB
 rw [hl,gt_init _ _ (by omega),gt_init _ _ (by omega)]
 simp only [bne_iff_ne,ne_eq]
 omega
theorem lc_rel (n:TNetwork) (o:TOutage) (fr to:Int) (hw:∀ s,0≤weightP o s):∀ (xs:List Nat) (k:Nat) (p:Int×List Int) (q:Int×Int),((q.1=-1∧q.2=0∧p.1=-1∧p.2=[])∨(0≤q.1∧p.1=q.2∧p.2=bitsL q.1 (groupsP n).length)) →
 (((foldI (lcS n o fr to) k xs q).1=-1∧(foldI (lcS n o fr to) k xs q).2=0∧(foldI (lcI n o fr to) k xs p).1=-1∧(foldI (lcI n o fr to) k xs p).2=[])∨(0≤(foldI (lcS n o fr to) k xs q).1∧(foldI (lcI n o fr to) k xs p).1=(foldI (lcS n o fr to) k xs q).2∧(foldI (lcI n o fr to) k xs p).2=bitsL (foldI (lcS n o fr to) k xs q).1 (groupsP n).length)):=fun xs k p q hR =>
 foldI_rel (lcI n o fr to) (lcS n o fr to) (fun p q=>(q.1=-1∧q.2=0∧p.1=-1∧p.2=[])∨(0≤q.1∧p.1=q.2∧p.2=bitsL q.1 (groupsP n).length)) (fun i x p q h=>by
  have hwi:=hw (i:Int)
  unfold lcI lcS
  rcases bt (dB n fr to (i:Int)) with e | e
  · rw [e]
    simp only [if_true,Bool.true_and,Bool.or_eq_true,decide_eq_true_eq]
    rcases h with ⟨h1,h2,h3,h4⟩ | ⟨h1,h2,h3⟩
    · have a1:¬ (weightP o (i:Int)≤p.1):=by omega
      have a2:q.1 < 0∨q.2 < weightP o (i:Int):=by omega
      simp only [if_neg a1,if_pos a2]
      exact .inr ⟨by simp,trivial,trivial⟩
    · by_cases hc:weightP o (i:Int)≤p.1
      · have a2:¬ (q.1 < 0∨q.2 < weightP o (i:Int)):=by omega
        simp only [if_pos hc,if_neg a2]; exact .inr ⟨h1,h2,h3⟩
      · have a2:q.1 < 0∨q.2 < weightP o (i:Int):=by omega
        simp only [if_neg hc,if_pos a2]; exact .inr ⟨by simp,trivial,trivial⟩
  · rw [e]
    simp only [Bool.false_and,Bool.false_eq_true,if_false,ite_self]
    exact h) xs k p q hR
theorem lc_eq {n:TNetwork} {o:TOutage} (h:outOk n o=true) {fr to:Int} (he:endsB n fr to=true) (hne:fr ≠ to):(lcF n o fr to).1=(lcG n o fr to).2∧(lcF n o fr to).2=bitsL (lcG n o fr to).1 (groupsP n).length:=by
 obtain ⟨hn,_⟩:=outOk_K h
 have hrel:=lc_rel n o fr to (weight_nn h) (List.range (2 ^ (groupsP n).length)) 0 (-1,[]) (-1,0) (.inl ⟨rfl,rfl,rfl,rfl⟩)
 have hpos:0≤(lcG n o fr to).1:=by
  have hd:=dB_last hn he hne
  have h1:2 ^ (groupsP n).length=(2 ^ (groupsP n).length - 1)+1:=by have:=Nat.two_pow_pos (groupsP n).length; omega
  unfold lcG
  generalize hL:2 ^ (groupsP n).length - 1=L at hd h1
  rw [h1,List.range_succ,foldI_app]
  simp only [foldI,List.length_range,Nat.zero_add]
  generalize foldI (lcS n o fr to) 0 (List.range L) (-1,0)=q
  unfold lcS
  rw [hd]
  simp only [Bool.true_and,Bool.or_eq_true,decide_eq_true_eq]
  split
  · simp
  · rename_i hc; omega
 rcases hrel with ⟨h1,_⟩ | ⟨h1,h2,h3⟩
 · unfold lcG at hpos; omega
 · exact ⟨h2,h3⟩
theorem p_spec_LikeliestCut (n:TNetwork) (o:TOutage) (fr to:Int) (hz:z_Network n≤1048576) (ho:z_Outage o≤1048576):M_cn n o fr to=some (lcP n o fr to):=by
 have ho':o.Down.length≤1048576:=by unfold z_Outage z_IntS at ho; omega
 unfold M_cn lcP
 rw [p_spec_Outage n o hz ho',p_l6Ends n fr to hz]
 simp only [Option.bind_some]
 rcases bt (outOk n o) with e | e
 · obtain ⟨hn,hKD⟩:=outOk_K e
   rw [e,hn]
   simp only [Bool.not_true,cond_false,Bool.true_and,Option.bind_some]
   rcases bt (endsB n fr to) with e2 | e2
   · have hb:=netOk_b hn
     have hE:=net_ed hn
     obtain ⟨f1,f2,f3,f4⟩:=ends_rng e2
     have hne:fr ≠ to:=by intro hh; unfold endsB at e2; simp [hh] at e2
     obtain ⟨q1,q2⟩:=lc_eq e e2 hne
     rw [e2]
     simp only [Bool.not_true,cond_false,p_l2Groups n (show n.Fibers.length≤14 by omega),Option.bind_some,if_true]
     have hK:=groupsP_len n (by omega)
     have hgr:=groups_rng (n:=n) (by omega)
     have hL:=pow_lim hK
     have:iter (M_k n o fr to (groupsP n)) N0 (-1,0,0)=some (lcG n o fr to):=by
      have hu:IntKind.wrap .u64 ((groupsP n).length:Int)=((groupsP n).length:Int):=w64u_eq (by omega) (by omega)
      refine iter_foldI (f:=M_k n o fr to (groupsP n)) (List.range (2 ^ (groupsP n).length)) (fun i (p:Int×Int)=>(p.1,p.2,(i:Int))) (lcS n o fr to) id (fun i a=>True) (fun i p x hx hI=>?_) (fun p hI=>?_) (-1,0) trivial (by simp; omega)
      · obtain ⟨rfl,hi⟩:=range_at hx
        refine ⟨trivial,?_⟩
        have h1:decide ((x:Int) < IntKind.wrap .i64 (1 * 2 ^ (min (groupsP n).length (IntKind.bits .i64))))=true:=by
         rw [shl1 _ (by omega)]; exact decide_eq_true (by exact_mod_cast hi)
        have hlab:M_bk n (goneM (x:Int) (groupsP n))=some (labG n (goneL (x:Int) (groupsP n))):=by
         rw [p_l6Labels n _ hE (by omega) (by omega) (by omega)]
         unfold labG
         rw [labels_congr fun i hi=>al_eq (x:Int) (groupsP n) (fun g hg y hy=>by have:=(hgr g hg).2 y hy; omega) i (by omega)]
        have hlen:(labG n (goneL (x:Int) (groupsP n))).length=n.Nodes.length:=labels_len ..
        simp only [M_k,hu,Int.toNat_natCast]
        rw [grd_t (by omega)]
        simp only [h1,cond_true,Option.bind_some,p_goneM (x:Int) (groupsP n) hgr hK,hlab,p_spec_weight o _ ho',w64_eq (n:=(x:Int)+1) (by omega) (by omega)]
        rw [grd_t (by omega),grd_t (by omega),gt_at (show fr.toNat < (labG n (goneL (x:Int) (groupsP n))).length by omega),gt_at (show to.toNat < (labG n (goneL (x:Int) (groupsP n))).length by omega)]
        simp only [Option.bind_some]
        have hd:(gt (labG n (goneL (x:Int) (groupsP n))) fr.toNat != gt (labG n (goneL (x:Int) (groupsP n))) to.toNat)=dB n fr to (x:Int):=rfl
        rw [hd]
        unfold lcS
        rcases bt (dB n fr to (x:Int)) with e3 | e3
        · rw [e3,cond_true]
          by_cases hc:p.1 < 0
          · simp [hc]
          · by_cases hc2:p.2 < weightP o (x:Int)
            · simp [hc,hc2]
            · simp [hc,hc2]
        · rw [e3,cond_false]
          simp
      · have h1:decide (((List.range (2 ^ (groupsP n).length)).length:Int) < IntKind.wrap .i64 (1 * 2 ^ (min (groupsP n).length (IntKind.bits .i64))))=false:=by
         rw [shl1 _ (by omega)]; simp
        simp only [M_k,hu,Int.toNat_natCast]
        rw [grd_t (by omega)]
        simp only [h1,cond_false]; rfl
     rw [this]
     simp only [Option.bind_some]
     rw [show lcG n o fr to=((lcG n o fr to).1,(lcG n o fr to).2) from rfl,p_bitsS (groupsP n) _ _ (by omega)]
     simp only [Option.bind_some]
     rw [q1,q2]
   · rw [e2]; rfl
 · rw [e]; rfl
theorem p_impl_LikeliestCut (n:TNetwork) (o:TOutage) (fr to:Int) (hz:z_Network n≤1048576) (ho:z_Outage o≤1048576):M_co n o fr to=some (lcP n o fr to):=by
 have ho':o.Down.length≤1048576:=by unfold z_Outage z_IntS at ho; omega
 unfold M_co lcP
 rw [p_isConnection n o fr to hz ho']
 simp only [Option.bind_some]
 rcases bt (outOk n o&&endsB n fr to) with e | e
 · obtain ⟨e1,e2⟩:=Bool.and_eq_true_iff.1 e
   obtain ⟨hn,hKD⟩:=outOk_K e1
   have hb:=netOk_b hn
   have hE:=net_ed hn
   obtain ⟨f1,f2,f3,f4⟩:=ends_rng e2
   have hK:=groupsP_len n (by omega)
   have hgr:=groups_rng (n:=n) (by omega)
   have hL:=pow_lim hK
   rw [e,if_pos rfl,grd_t (by omega)]
   simp only [Bool.not_true,cond_false,Option.bind_some]
   have:iter (M_d n o fr to) N0 (-1,0,[])=some (lcF n o fr to):=by
    refine iter_foldI (f:=M_d n o fr to) (List.range (2 ^ (groupsP n).length)) (fun i (p:Int×List Int)=>(p.1,(i:Int),p.2)) (lcI n o fr to) id (fun i a=>True) (fun i p x hx hI=>?_) (fun p hI=>?_) (-1,[]) trivial (by simp; omega)
    · obtain ⟨rfl,hi⟩:=range_at hx
      refine ⟨trivial,?_⟩
      have h1:decide ((x:Int) < IntKind.wrap .i64 (1 * 2 ^ (min o.Down.length (IntKind.bits .i64))))=true:=by
       rw [hKD,shl1 _ (by omega)]; exact decide_eq_true (by exact_mod_cast hi)
      have hgl:(goneL (x:Int) (groupsP n)).length≤1048576:=by
       have:=goneL_len (x:Int) (groupsP n) 0 [] fun g hg=>(hgr g hg).1
       unfold goneL
       simp only [List.length_nil] at this; omega
      have hlab:M_bq n (goneL (x:Int) (groupsP n))=some (labG n (goneL (x:Int) (groupsP n))):=p_components n _ hE (by omega) (by omega) hgl
      have hlen:(labG n (goneL (x:Int) (groupsP n))).length=n.Nodes.length:=labels_len ..
      simp only [M_d,h1,cond_true,p_impl_weight o _ ho',Option.bind_some,w64_eq (n:=(x:Int)+1) (by omega) (by omega)]
      unfold lcI
      by_cases hc:weightP o (x:Int)≤p.1
      · rw [decide_eq_true hc,cond_true,if_pos hc]; rfl
      · rw [decide_eq_false hc,cond_false,if_neg hc,p_bitsI o (x:Int) p.1 p.2 ho',hKD]
        simp only [Option.bind_some]
        rw [p_fibersOf n (x:Int) (by omega)]
        simp only [Option.bind_some,hlab]
        rw [grd_t (by omega),grd_t (by omega),gt_at (show fr.toNat < (labG n (goneL (x:Int) (groupsP n))).length by omega),gt_at (show to.toNat < (labG n (goneL (x:Int) (groupsP n))).length by omega)]
        simp only [Option.bind_some]
        have hd:(gt (labG n (goneL (x:Int) (groupsP n))) fr.toNat != gt (labG n (goneL (x:Int) (groupsP n))) to.toNat)=dB n fr to (x:Int):=rfl
        rw [hd]
        rcases bt (dB n fr to (x:Int)) with e3 | e3
        · rw [e3,cond_true]; rfl
        · rw [e3,cond_false]; rfl
    · have h1:decide (((List.range (2 ^ (groupsP n).length)).length:Int) < IntKind.wrap .i64 (1 * 2 ^ (min o.Down.length (IntKind.bits .i64))))=false:=by
       rw [hKD,shl1 _ (by omega)]; simp
      simp only [M_d,h1,cond_false]; rfl
   rw [this]; rfl
 · rw [e]; rfl
theorem zr_LikeliestCut (n:TNetwork) (o:TOutage) (fr to:Int) (hz:z_Network n≤1048576) (ho:z_Outage o≤1048576):z_IntS (lcP n o fr to).1≤1048576:=by
 unfold lcP z_IntS
 split
 · rename_i h
   obtain ⟨e1,e2⟩:=Bool.and_eq_true_iff.1 h
   obtain ⟨hn,_⟩:=outOk_K e1
   have hne:fr ≠ to:=by intro hh; unfold endsB at e2; simp [hh] at e2
   have hb:=netOk_b hn
   have hK:=groupsP_len n (by omega)
   refine Nat.le_trans (Nat.le_of_eq (congrArg List.length (lc_eq e1 e2 hne).2)) ?_
   have:=bitsL_len (lcG n o fr to).1 (groupsP n).length
   omega
 · simp
end Vs

namespace Vs
open Go
end Vs

namespace Vs
open Go
structure CurOk (c:Tl1Cur) (m:Nat):Prop where
 by8:∀ x∈c.code,0≤x∧x≤255
 len:c.code.length≤65536
 at0:0≤c.atF
 atm:c.atF≤(m:Int)
theorem and255 (x:Int):0≤bits .and .u64 x 255∧bits .and .u64 x 255≤255:=by
 have h:(BitVec.ofInt (IntKind.bits .u64) x &&& BitVec.ofInt (IntKind.bits .u64) 255).toNat≤255:=by
  rw [BitVec.toNat_and]
  exact Nat.le_trans Nat.and_le_right (by decide)
 unfold bits
 simp only
 generalize (BitVec.ofInt (IntKind.bits .u64) x &&& BitVec.ofInt (IntKind.bits .u64) 255).toNat=k at h
 have:IntKind.wrap .u64 (k:Int)=(k:Int):=by
  unfold IntKind.wrap
  simp [IntKind.bits,IntKind.signed]
  omega
 rw [this]; omega
theorem p_next {c:Tl1Cur} {m:Nat} (h:CurOk c m) (hm:m≤1000000000000):∃ b c',M_br c=some (b,c')∧0≤b∧b≤255∧CurOk c' (m+1):=by
 obtain ⟨h1,h2,h3,h4⟩:=h
 have hb:∃ b,(cond (decide (c.atF < (c.code.length:Int))) ((geti c.code c.atF).bind fun yZ2=>some (IntKind.wrap .i64 yZ2)) (some 0):Option Int)=some b∧0≤b∧b≤255:=by
  by_cases e:c.atF < (c.code.length:Int)
  · rw [decide_eq_true e,cond_true]
    have hlt:c.atF.toNat < c.code.length:=by omega
    have hg:geti c.code c.atF=some c.code[c.atF.toNat]:=by
     unfold geti; rw [if_pos h3]; exact List.getElem?_eq_getElem hlt
    have:=h1 _ (List.getElem_mem hlt)
    rw [hg]
    refine ⟨c.code[c.atF.toNat],?_,this.1,this.2⟩
    simp only [Option.bind_some]
    rw [w64_eq (by omega) (by omega)]
  · rw [decide_eq_false e,cond_false]; exact ⟨0,rfl,by omega,by omega⟩
 obtain ⟨b,b1,b2,b3⟩:=hb
 unfold M_br
 rw [b1]
 simp only [Option.bind_some]
 rw [w64_eq (n:=c.atF+1) (by omega) (by omega)]
 by_cases e:c.atF+1≤(c.code.length:Int)
 · rw [decide_eq_true e,cond_true]
   exact ⟨_,_,rfl,b2,b3,⟨h1,h2,by simp only; omega,by simp only; omega⟩⟩
 · rw [decide_eq_false e,cond_false]
   have h5:=and255 (Int.fdiv (IntKind.wrap .u64 ((IntKind.wrap .u64 ((IntKind.wrap .u64 (c.seed * 6364136223846793005))+(IntKind.wrap .u64 b)))+897897)) (2 ^ (min (Int.toNat 40) (IntKind.bits .u64))))
   refine ⟨_,_,rfl,?_,?_,⟨h1,h2,by simp only; omega,by simp only; omega⟩⟩
   · rw [w64_eq (by omega) (by omega)]; exact h5.1
   · rw [w64_eq (by omega) (by omega)]; exact h5.2
theorem p_pick {c:Tl1Cur} {m:Nat} (n:Int) (h:CurOk c m) (hm:m≤100000000000):∃ x c',M_a n c=some (x,c')∧0≤x∧(x < n∨x=0)∧CurOk c' (m+2):=by
 unfold M_a
 by_cases e:n≤1
 · rw [decide_eq_true e,cond_true]
   exact ⟨0,c,rfl,by omega,.inr rfl,⟨h.by8,h.len,h.at0,by have:=h.atm; omega⟩⟩
 · rw [decide_eq_false e,cond_false]
   obtain ⟨b,c1,g1,g2,g3,g4⟩:=p_next h (by omega)
   rw [g1]
   simp only [Option.bind_some]
   by_cases e2:200 < n
   · rw [decide_eq_true e2,cond_true]
     obtain ⟨b',c2,k1,k2,k3,k4⟩:=p_next g4 (by omega)
     rw [k1]
     simp only [Option.bind_some]
     rw [grd_t (by omega)]
     simp only [Option.bind_some]
     refine ⟨_,_,rfl,?_,.inl ?_,k4⟩
     · rw [w64_eq (n:=b * 256) (by omega) (by omega),w64_eq (by omega) (by omega)]
       exact Int.tmod_nonneg _ (by omega)
     · exact Int.tmod_lt_of_pos _ (by omega)
   · rw [decide_eq_false e2,cond_false,grd_t (by omega)]
     simp only [Option.bind_some]
     exact ⟨_,_,rfl,Int.tmod_nonneg _ g2,.inl (Int.tmod_lt_of_pos _ (by omega)),⟨g4.by8,g4.len,g4.at0,by have:=g4.atm; omega⟩⟩
theorem CurOk.up {c:Tl1Cur} {m k:Nat} (h:CurOk c m) (hk:m≤k):CurOk c k:=⟨h.by8,h.len,h.at0,by have:=h.atm; omega⟩
theorem p_one {c:Tl1Cur} {m:Nat} (n:Int) (h:CurOk c m) (hm:m≤100000000000):∃ b c',M_bi n c=some (b,c')∧CurOk c' (m+2):=by
 obtain ⟨x,c1,g1,g2,g3,g4⟩:=p_pick n h hm
 unfold M_bi
 rw [g1]
 exact ⟨_,_,rfl,g4⟩
theorem p_amongL {c:Tl1Cur} {m:Nat} (l:List Int) (h:CurOk c m) (hm:m≤100000000000) (hl:0 < l.length):∃ x c',M_g c l=some (x,c',l)∧x∈l∧CurOk c' (m+2):=by
 obtain ⟨i,c1,g1,g2,g3,g4⟩:=p_pick (l.length:Int) h hm
 unfold M_g
 rw [g1]
 simp only [Option.bind_some]
 have hi:i.toNat < l.length:=by omega
 rw [grd_t (by omega)]
 simp only [Option.bind_some,List.getElem?_eq_getElem hi]
 exact ⟨_,_,rfl,List.getElem_mem hi,g4⟩
theorem p_ofL {c:Tl1Cur} {m:Nat} (l:List ByteArray) (h:CurOk c m) (hm:m≤100000000000) (hl:0 < l.length):∃ x c',M_cl c l=some (x,c',l)∧x∈l∧CurOk c' (m+2):=by
 obtain ⟨i,c1,g1,g2,g3,g4⟩:=p_pick (l.length:Int) h hm
 unfold M_cl
 rw [g1]
 simp only [Option.bind_some]
 have hi:i.toNat < l.length:=by omega
 rw [grd_t (by omega)]
 simp only [Option.bind_some,List.getElem?_eq_getElem hi]
 exact ⟨_,_,rfl,List.getElem_mem hi,g4⟩
end Vs

namespace Vs
open Go
theorem p_beforeT (f g:TFiber):∃ r,M_bn f g=some r:=by
 unfold M_bn
 cases (f.A != g.A)
 · cases (f.B != g.B)
   · cases (f.Length != g.Length) <;> exact ⟨_,rfl⟩
   · exact ⟨_,rfl⟩
 · exact ⟨_,rfl⟩
theorem p_least (a b:Int):∃ r,M_bf a b=some r:=by
 unfold M_bf
 cases decide (a < b) <;> exact ⟨_,rfl⟩
theorem p_most (a b:Int):∃ r,M_bd a b=some r∧a≤r∧b≤r∧(r=a∨r=b):=by
 unfold M_bd
 by_cases h:b < a
 · rw [decide_eq_true h,cond_true]; exact ⟨a,rfl,by omega,by omega,.inl rfl⟩
 · rw [decide_eq_false h,cond_false]; exact ⟨b,rfl,by omega,by omega,.inr rfl⟩
theorem p_l2Put (l:List TFiber) (f:TFiber) (hl:l.length≤1048576):∃ l',M_bs l f=some l'∧l'.length=l.length+1:=by
 obtain ⟨o,o1,i,rfl,o3⟩:=iter_inv (f:=M_w l f) (fun s=>∃ i:Nat,s=i∧i≤l.length) (fun s=>l.length - s.toNat) (fun o=>∃ i:Nat,o=(i:Int)∧i≤l.length) (fun s hI=>by
  obtain ⟨i,rfl,hi⟩:=hI
  by_cases h:i < l.length
  · obtain ⟨r,hr⟩:=p_beforeT l[i] f
    simp only [M_w,decide_eq_true (show (i:Int) < (l.length:Int) by omega),cond_true,geti_nat,List.getElem?_eq_getElem h,Option.bind_some,hr]
    by_cases h2:r≤0
    · left
      rw [decide_eq_true h2,cond_true,w64_eq (n:=(i:Int)+1) (by omega) (by omega)]
      exact ⟨_,rfl,⟨i+1,by simp,by omega⟩,by omega⟩
    · right
      rw [decide_eq_false h2,cond_false]
      exact ⟨_,rfl,i,rfl,hi⟩
  · right
    simp only [M_w,decide_eq_false (show ¬ (i:Int) < (l.length:Int) by omega),cond_false]
    exact ⟨_,rfl,i,rfl,hi⟩) N0 0 ⟨0,rfl,by omega⟩ (N0_lt (by omega))
 unfold M_bs
 rw [o1]
 simp only [Option.bind_some,slT,slF,Int.toNat_natCast,bnd]
 rw [if_pos ⟨by omega,o3⟩,if_pos ⟨by omega,o3⟩]
 simp only [Option.bind_some]
 rw [grd_t (by simp; omega),]
 simp only [Option.bind_some]
 rw [grd_t (by simp; omega)]
 simp only [Option.bind_some]
 rw [grd_t (by simp; omega)]
 exact ⟨_,rfl,by simp; omega⟩
theorem net_step1 {c:Tl1Cur} {m:Nat} (x:Int) (c0:Tl1Cur) (hx:0≤x∧x < 5) (i:Int) (hi:0≤i∧i < 2+x) (fs:List TFiber) (hf:fs.length≤1000) (h:CurOk c m) (hm:m≤10000000000) :
 ∃ fs' c',M_o (x,c0) (i,fs,c)=some (.inl (i+1,fs',c'))∧fs'.length≤fs.length+1∧CurOk c' (m+6):=by
 obtain ⟨b,c1,hb,hc⟩:∃ b c1,(cond (i==Int.tmod (i+1) (2+x)) (some (true,c)) ((M_bi 10 c).bind fun rZ10=>some (rZ10.1,rZ10.2)):Option (Bool×Tl1Cur))=some (b,c1)∧CurOk c1 (m+2):=by
  cases (i==Int.tmod (i+1) (2+x))
  · obtain ⟨b,c1,g1,g2⟩:=p_one 10 h (by omega)
    exact ⟨b,c1,by rw [cond_false,g1]; rfl,g2⟩
  · exact ⟨true,c,rfl,h.up (by omega)⟩
 simp only [M_o,w64_eq (n:=2+x) (by omega) (by omega),w64_eq (n:=i+1) (by omega) (by omega),decide_eq_true hi.2,cond_true,grd_t (show (2+x) ≠ 0 by omega),Option.bind_some,hb]
 cases b with
 | true=>exact ⟨fs,c1,rfl,by omega,hc.up (by omega)⟩
 | false =>
   obtain ⟨a1,ha1⟩:=p_least i (Int.tmod (i+1) (2+x))
   obtain ⟨a2,ha2,_⟩:=p_most i (Int.tmod (i+1) (2+x))
   obtain ⟨x8,c2,g1,g2,g3,g4⟩:=p_pick 8 hc (by omega)
   obtain ⟨rk,c3,k1,k2,k3⟩:=p_amongL [0,0,0,1,2] g4 (by omega) (by simp)
   obtain ⟨l',l1,l2⟩:=p_l2Put fs ⟨a1,a2,IntKind.wrap .i64 (100 * (IntKind.wrap .i64 (1+x8))),rk⟩ (by omega)
   simp only [cond_false,ha1,ha2,g1,bnd,k1,l1,Option.bind_some]
   exact ⟨l',c3,rfl,by omega,k3.up (by omega)⟩
theorem net_step2 {c:Tl1Cur} {m:Nat} (x:Int) (c0:Tl1Cur) (hx:0≤x∧x < 5) (i:Int) (hi:0 < i∧i≤10) (fs:List TFiber) (hf:fs.length≤1000) (h:CurOk c m) (hm:m≤10000000000) :
 ∃ fs' c',M_p (x,c0) (i,fs,c)=some (.inl (i - 1,fs',c'))∧fs'.length≤fs.length+1∧CurOk c' (m+8):=by
 obtain ⟨p,c1,p1,p2,p3,p4⟩:=p_pick (2+x) h (by omega)
 obtain ⟨q,c2,q1,q2,q3,q4⟩:=p_pick (2+x) p4 (by omega)
 simp only [M_p,w64_eq (n:=2+x) (by omega) (by omega),w64_eq (n:=i - 1) (by omega) (by omega),decide_eq_true hi.1,cond_true,Option.bind_some,p1,q1]
 cases (p != q) with
 | false=>exact ⟨fs,c2,rfl,by omega,q4.up (by omega)⟩
 | true =>
   obtain ⟨a1,ha1⟩:=p_least p q
   obtain ⟨a2,ha2,_⟩:=p_most p q
   obtain ⟨x8,c2',g1,g2,g3,g4⟩:=p_pick 8 q4 (by omega)
   obtain ⟨rk,c3,k1,k2,k3⟩:=p_amongL [0,0,0,1,2] g4 (by omega) (by simp)
   obtain ⟨l',l1,l2⟩:=p_l2Put fs ⟨a1,a2,IntKind.wrap .i64 (100 * (IntKind.wrap .i64 (1+x8))),rk⟩ (by omega)
   simp only [cond_true,ha1,ha2,g1,bnd,k1,l1,Option.bind_some]
   exact ⟨l',c3,rfl,by omega,k3.up (by omega)⟩
theorem p_network {c:Tl1Cur} {m:Nat} (h:CurOk c m) (hm:m≤1000000000):∃ (K:Nat) (nodes:List ByteArray) (fs:List TFiber) (c':Tl1Cur),M_dd c=some (0,K,nodes,fs,c')∧2≤K∧K≤6∧nodes.length=6∧(∀ s∈nodes,s.size≤9)∧fs.length≤9∧CurOk c' (m+100):=by
 obtain ⟨x,c1,x1,x2,x3,x4⟩:=p_pick 5 h (by omega)
 have hx:0≤x∧x < 5:=by omega
 obtain ⟨⟨f1,c2⟩,o1,o2,o3⟩:=iter_inv (f:=M_o (x,c1)) (fun s=>0≤s.1∧s.1≤2+x∧(s.2.1.length:Int)≤s.1∧CurOk s.2.2 (m+2+6 * s.1.toNat)) (fun s=>(2+x - s.1).toNat) (fun o=>o.1.length≤6∧CurOk o.2 (m+38)) (fun s hI=>by
  obtain ⟨j,l,cc⟩:=s
  obtain ⟨i1,i2,i3,i4⟩:=hI
  simp only at i1 i2 i3 i4
  by_cases hj:j < 2+x
  · left
    obtain ⟨fs',c',g1,g2,g3⟩:=net_step1 x c1 hx j ⟨i1,hj⟩ l (by omega) i4 (by omega)
    exact ⟨_,g1,⟨by simp only; omega,by simp only; omega,by simp only; omega,g3.up (by simp only; omega)⟩,by simp only; omega⟩
  · right
    refine ⟨(l,cc),?_,by simp only; omega,i4.up (by omega)⟩
    simp only [M_o,w64_eq (n:=2+x) (by omega) (by omega),decide_eq_false hj,cond_false]) N0 (0,[],c1) ⟨by simp,by simp only; omega,by simp,x4.up (by simp)⟩ (N0_lt (by simp only; omega))
 simp only at o2 o3
 obtain ⟨y,c3,y1,y2,y3,y4⟩:=p_pick 4 o3 (by omega)
 have hy:0≤y∧y < 4:=by omega
 obtain ⟨⟨f2,c4⟩,q1,q2,q3⟩:=iter_inv (f:=M_p (x,c1)) (fun s=>0≤s.1∧s.1≤3∧(s.2.1.length:Int)≤9 - s.1∧CurOk s.2.2 (m+40+8 * (3 - s.1.toNat))) (fun s=>s.1.toNat) (fun o=>o.1.length≤9∧CurOk o.2 (m+64)) (fun s hI=>by
  obtain ⟨j,l,cc⟩:=s
  obtain ⟨i1,i2,i3,i4⟩:=hI
  simp only at i1 i2 i3 i4
  by_cases hj:0 < j
  · left
    obtain ⟨fs',c',g1,g2,g3⟩:=net_step2 x c1 hx j ⟨hj,by omega⟩ l (by omega) i4 (by omega)
    exact ⟨_,g1,⟨by simp only; omega,by simp only; omega,by simp only; omega,g3.up (by simp only; omega)⟩,by simp only; omega⟩
  · right
    refine ⟨(l,cc),?_,by simp only; omega,i4.up (by omega)⟩
    simp only [M_p,decide_eq_false hj,cond_false]) N0 (y,f1,c3) ⟨by simp only; omega,by simp only; omega,by simp only; omega,y4.up (by simp only; omega)⟩ (N0_lt (by simp only; omega))
 simp only at q2 q3
 unfold M_dd
 simp only [x1,Option.bind_some,bnd,w64_eq (n:=2+x) (by omega) (by omega)]
 rw [grd_t ⟨trivial,by omega,trivial,by omega⟩]
 simp only [Option.bind_some,o1,y1,q1]
 exact ⟨_,_,_,_,rfl,by omega,by omega,rfl,by decide,q2,q3.up (by omega)⟩
structure NetD (K:Nat) (nodes:List ByteArray) (fs:List TFiber):Prop where
 k1:1≤K
 k:K≤nodes.length
 n:nodes.length≤10
 z:∀ s∈nodes,s.size≤9
 f:fs.length≤15
theorem any_loop {c:Tl1Cur} {m:Nat} (fs:List TFiber) (h0:0 < fs.length) (h9:fs.length≤9) (h:CurOk c m) (hm:m≤10000000000):∃ fs' c',iter M_aw N0 (fs,c)=some (fs',c')∧fs'.length≤15∧CurOk c' (m+100):=by
 obtain ⟨⟨f2,c4⟩,q1,q2,q3⟩:=iter_inv (f:=M_aw) (fun s=>0 < s.1.length∧s.1.length≤15∧CurOk s.2 (m+2 * s.1.length)) (fun s=>16 - s.1.length) (fun o=>o.1.length≤15∧CurOk o.2 (m+100)) (fun s hI=>by
  obtain ⟨l,cc⟩:=s
  obtain ⟨i1,i2,i3⟩:=hI
  simp only at i1 i2 i3
  obtain ⟨x,c1,x1,x2,x3,x4⟩:=p_pick 2 i3 (by omega)
  simp only [M_aw,x1,Option.bind_some,w64_eq (n:=14+x) (by omega) (by omega),w64_eq (n:=(l.length:Int) - 1) (by omega) (by omega)]
  by_cases hj:(l.length:Int) < 14+x
  · left
    have e:((l.length:Int) - 1).toNat < l.length:=by omega
    rw [decide_eq_true hj,cond_true,grd_t (by omega)]
    simp only [Option.bind_some,List.getElem?_eq_getElem e,bnd]
    rw [grd_t (by omega)]
    exact ⟨_,rfl,⟨by simp,by simp only [List.length_append,List.length_cons,List.length_nil]; omega,x4.up (by simp only [List.length_append,List.length_cons,List.length_nil]; omega)⟩,by simp only [List.length_append,List.length_cons,List.length_nil]; omega⟩
  · right
    rw [decide_eq_false hj,cond_false]
    exact ⟨_,rfl,by simp only; omega,x4.up (by omega)⟩) N0 (fs,c) ⟨by simp only; omega,by simp only; omega,h.up (by omega)⟩ (N0_lt (by simp only; omega))
 exact ⟨f2,c4,q1,q2,q3⟩
theorem subT_pre {α:Type} (xs:List α) (k:Nat) (h:k≤xs.length):subT xs 0 k=xs.take k:=by
 rw [subT_drop]; simp
theorem p_anyNetwork {c:Tl1Cur} {m:Nat} (h:CurOk c m) (hm:m≤1000000000):∃ (K:Nat) (nodes:List ByteArray) (fs:List TFiber) (c':Tl1Cur),M_de c=some (0,K,nodes,fs,c')∧NetD K nodes fs∧CurOk c' (m+300):=by
 obtain ⟨K,nodes,fs,c1,n1,n2,n3,n4,n5,n6,n7⟩:=p_network h (by omega)
 have hD:NetD K nodes fs:=⟨by omega,by omega,by omega,n5,by omega⟩
 unfold M_de
 simp only [n1,Option.bind_some]
 by_cases h0:fs.length=0
 · rw [show ((fs.length:Int)==0)=true by simp [h0],cond_true]
   exact ⟨_,_,_,_,rfl,hD,n7.up (by omega)⟩
 rw [show ((fs.length:Int)==0)=false by simp; exact fun e=>h0 (by simp [e]),cond_false]
 obtain ⟨i,c2,i1,i2,i3,i4⟩:=p_pick (fs.length:Int) n7 (by omega)
 have hi:i.toNat < fs.length:=by omega
 obtain ⟨r,c3,r1,r2,r3,r4⟩:=p_pick 24 i4 (by omega)
 simp only [i1,Option.bind_some]
 rw [grd_t (by omega)]
 simp only [Option.bind_some,List.getElem?_eq_getElem hi,r1]
 have fin:∀ (K':Nat) (f:TFiber) (nodes':List ByteArray) (fs':List TFiber) (c':Tl1Cur),NetD K' nodes' fs'→i.toNat < fs'.length→CurOk c' (m+300) →
  ∃ (K'':Nat) (nodes'':List ByteArray) (fs'':List TFiber) (c'':Tl1Cur),((grd (0≤i∧i < (fs'.length:Int))).bind fun _=>(fs'[(Int.toNat i)]?).bind fun _=>bnd (fs'.set (Int.toNat i) f) fun l=>some ((0:Nat),K',nodes',l,c'))=some (0,K'',nodes'',fs'',c'')∧NetD K'' nodes'' fs''∧CurOk c'' (m+300):=by
  intro K' f nodes' fs' c' hD' hi' hc'
  rw [grd_t (by omega)]
  simp only [Option.bind_some,List.getElem?_eq_getElem hi',bnd]
  exact ⟨_,_,_,_,rfl,⟨hD'.k1,hD'.k,hD'.n,hD'.z,by rw [List.length_set]; exact hD'.f⟩,hc'⟩
 rcases bt (r==0) with e | e
 · obtain ⟨x,c4,k1,k2,k3⟩:=p_ofL [(⟨#[98]⟩:ByteArray),(⟨#[]⟩:ByteArray),(⟨#[65]⟩:ByteArray),(⟨#[97,98,99,100,101,102,103,104]⟩:ByteArray),(⟨#[97,98,99,100,101,102,103,104,105]⟩:ByteArray),(⟨#[120,49]⟩:ByteArray)] r4 (by omega) (by simp)
   have hx:x.size≤9:=(show ∀ s∈[(⟨#[98]⟩:ByteArray),(⟨#[]⟩:ByteArray),(⟨#[65]⟩:ByteArray),(⟨#[97,98,99,100,101,102,103,104]⟩:ByteArray),(⟨#[97,98,99,100,101,102,103,104,105]⟩:ByteArray),(⟨#[120,49]⟩:ByteArray)],s.size≤9 by decide) x k2
   have h00:0+Int.toNat 0 < nodes.length:=by simp; omega
   simp only [e,cond_true,bnd,k1,Option.bind_some]
   rw [grd_t (by omega)]
   simp only [Option.bind_some,List.getElem?_eq_getElem h00]
   refine fin _ _ _ _ _ ⟨by omega,by rw [List.length_set]; omega,by rw [List.length_set]; omega,fun s hs=>?_,by omega⟩ hi (k3.up (by omega))
   rcases List.mem_or_eq_of_mem_set hs with h1 | h1
   · exact n5 s h1
   · rw [h1]; exact hx
 rw [e,cond_false]
 rcases bt (r==1) with e | e
 · obtain ⟨x,c4,k1,k2,k3,k4⟩:=p_pick 8 r4 (by omega)
   simp only [e,cond_true,k1,Option.bind_some]
   exact fin _ _ _ _ _ hD hi (k4.up (by omega))
 rw [e,cond_false]
 rcases bt (r==2) with e | e
 · obtain ⟨x,c4,k1,k2,k3,k4⟩:=p_pick 10 r4 (by omega)
   simp only [e,cond_true,k1,Option.bind_some]
   exact fin _ _ _ _ _ hD hi (k4.up (by omega))
 rw [e,cond_false]
 rcases bt (r==3) with e | e
 · obtain ⟨x,c4,k1,k2,k3⟩:=p_amongL [0,1,5000,5001] r4 (by omega) (by simp)
   simp only [e,cond_true,bnd,k1,Option.bind_some]
   exact fin _ _ _ _ _ hD hi (k3.up (by omega))
 rw [e,cond_false]
 rcases bt (r==4) with e | e
 · obtain ⟨x,c4,k1,k2,k3⟩:=p_amongL [(-1),9,10] r4 (by omega) (by simp)
   simp only [e,cond_true,bnd,k1,Option.bind_some]
   exact fin _ _ _ _ _ hD hi (k3.up (by omega))
 rw [e,cond_false]
 rcases bt (r==5) with e | e
 · have h00:Int.toNat 0 < fs.length:=by simp; omega
   simp only [e,cond_true]
   rw [grd_t (by omega)]
   simp only [Option.bind_some,List.getElem?_eq_getElem h00,bnd]
   rw [grd_t (by omega)]
   exact fin K _ nodes (fs++[fs[Int.toNat 0]]) _ ⟨hD.k1,hD.k,hD.n,hD.z,by simp; omega⟩ (by simp; omega) (r4.up (by omega))
 rw [e,cond_false]
 rcases bt (r==6) with e | e
 · obtain ⟨fs',c4,k1,k2,k3⟩:=any_loop fs (by omega) n6 r4 (by omega)
   simp only [e,cond_true,k1,Option.bind_some]
   exact ⟨_,_,_,_,rfl,⟨by omega,by omega,by omega,n5,k2⟩,k3.up (by omega)⟩
 rw [e,cond_false]
 rcases bt (r==7) with e | e
 · simp only [e,cond_true,bnd,subT_pre nodes K hD.k]
   rw [grd_t (by omega)]
   simp only [Option.bind_some]
   refine fin _ _ _ _ _ ⟨by simp,(by simp only [List.length_append,List.length_take,List.length_cons,List.length_nil]; have:=hD.k; omega),by simp; omega,fun s hs=>?_,by omega⟩ hi (r4.up (by omega))
   rcases List.mem_append.1 hs with h1 | h1
   · exact n5 s (List.mem_of_mem_take h1)
   · exact (show ∀ s∈[(⟨#[112]⟩:ByteArray),(⟨#[113]⟩:ByteArray),(⟨#[114]⟩:ByteArray),(⟨#[115]⟩:ByteArray)],s.size≤9 by decide) s h1
 rw [e,cond_false]
 exact fin _ _ _ _ _ hD hi (r4.up (by omega))
end Vs

namespace Vs
open Go
theorem p_net16 {c:Tl1Cur} {m:Nat} (h:CurOk c m) (hm:m≤1000000000):∃ (K F:Nat) (nodes:List ByteArray) (fs:List TFiber) (c':Tl1Cur),M_df c=some (0,K,0,F,nodes,fs,c')∧NetD K nodes fs∧F≤fs.length∧F≤8∧CurOk c' (m+300):=by
 obtain ⟨K,nodes,fs,c1,n1,n2,n3⟩:=p_anyNetwork h hm
 unfold M_df
 simp only [n1,Option.bind_some]
 by_cases h8:(8:Int) < (fs.length:Int)
 · rw [decide_eq_true h8,cond_true,grd_t ⟨trivial,by omega,trivial,by omega⟩]
   exact ⟨_,_,_,_,_,rfl,n2,by omega,by omega,n3⟩
 · rw [decide_eq_false h8,cond_false]
   exact ⟨_,_,_,_,_,rfl,n2,Nat.le_refl _,by omega,n3⟩
theorem z_drawn {K F:Nat} {nodes:List ByteArray} {fs:List TFiber} (h:NetD K nodes fs) (hF:F≤fs.length):z_Network ⟨nodes.take K,fs.take F⟩≤1048576:=by
 have hs:∀ (l:List ByteArray),(∀ s∈l,s.size≤9)→(l.map fun x=>x.size).sum≤9 * l.length:=by
  intro l
  induction l with
  | nil=>intro _; simp
  | cons a l ih =>
    intro hl
    have h1:=hl a (by simp)
    have h2:=ih fun s hs=>hl s (by simp [hs])
    simp only [List.map_cons,List.sum_cons,List.length_cons]; omega
 have h1:=hs (nodes.take K) fun s hs=>h.z s (List.mem_of_mem_take hs)
 have h2:(nodes.take K).length≤10:=by rw [List.length_take]; have:=h.n; omega
 have h3:(fs.take F).length≤15:=by rw [List.length_take]; have:=h.f; omega
 unfold z_Network z_StringS z_FiberS
 simp only
 omega
theorem p_outage {c:Tl1Cur} {m:Nat} {K F:Nat} {nodes:List ByteArray} {fs:List TFiber} (hD:NetD K nodes fs) (hF:F≤fs.length) (hF8:F≤8) (h:CurOk c m) (hm:m≤1000000000) :
 ∃ (u:Int) (ds:List Int) (c':Tl1Cur),M_dh 0 K 0 F c nodes fs=some (u,ds,c',nodes,fs)∧ds.length≤30∧CurOk c' (m+100):=by
 obtain ⟨u,c1,u1,u2,u3⟩:=p_amongL [2,4,10,10,20] h (by omega) (by simp)
 have hG:(groupsP ⟨nodes.take K,fs.take F⟩).length≤23:=groupsP_len _ (by simp; omega)
 have hg:=p_l2Groups (⟨nodes.take K,fs.take F⟩:TNetwork) (by simp; omega)
 obtain ⟨⟨ds,c2⟩,o1,o2,o3⟩:=iter_inv (f:=M_bc 0 K 0 F nodes fs) (fun s=>0≤s.1∧s.1≤23∧(s.2.1.length:Int)≤s.1∧CurOk s.2.2 (m+2+2 * s.1.toNat)) (fun s=>(23 - s.1).toNat) (fun o=>o.1.length≤23∧CurOk o.2 (m+48)) (fun s hI=>by
  obtain ⟨j,l,cc⟩:=s
  obtain ⟨i1,i2,i3,i4⟩:=hI
  simp only at i1 i2 i3 i4
  simp only [M_bc,bnd,subT_pre nodes K hD.k,subT_pre fs F hF,hg,Option.bind_some]
  by_cases hj:j < ((groupsP ⟨nodes.take K,fs.take F⟩).length:Int)
  · left
    obtain ⟨x,c',k1,k2,k3⟩:=p_amongL [0,1,1,2,1,2] i4 (by omega) (by simp)
    rw [decide_eq_true hj,cond_true]
    simp only [k1,Option.bind_some]
    rw [grd_t (by omega),w64_eq (n:=j+1) (by omega) (by omega)]
    exact ⟨_,rfl,⟨by simp only; omega,by simp only; omega,by simp only [List.length_append,List.length_cons,List.length_nil]; omega,k3.up (by simp only; omega)⟩,by simp only; omega⟩
  · right
    rw [decide_eq_false hj,cond_false]
    exact ⟨_,rfl,by simp only; omega,i4.up (by omega)⟩) N0 (0,[],c1) ⟨by simp,by simp,by simp,u3.up (by simp)⟩ (N0_lt (by simp only; omega))
 simp only at o2 o3
 obtain ⟨r,c3,r1,r2,r3,r4⟩:=p_pick 40 o3 (by omega)
 unfold M_dh
 simp only [bnd,u1,o1,r1,Option.bind_some]
 rcases bt (r==0) with e | e
 · obtain ⟨x,c',k1,k2,k3⟩:=p_amongL [1,21] r4 (by omega) (by simp)
   simp only [e,cond_true,k1,Option.bind_some]
   exact ⟨_,_,_,rfl,by omega,k3.up (by omega)⟩
 rw [e,cond_false]
 rcases bt (r==1) with e | e
 · rw [e,cond_true,grd_t (by omega)]
   exact ⟨_,_,_,rfl,by simp; omega,r4.up (by omega)⟩
 rw [e,cond_false]
 rcases bt (r==2) with e | e
 · rw [e,cond_true]
   by_cases hl:0 < ds.length
   · obtain ⟨x,c',k1,k2,k3⟩:=p_amongL [(-1),21,u] r4 (by omega) (by simp)
     have h00:Int.toNat 0 < ds.length:=by simp; omega
     rw [decide_eq_true (by omega),cond_true]
     simp only [k1,Option.bind_some]
     rw [grd_t (by omega)]
     simp only [Option.bind_some,List.getElem?_eq_getElem h00]
     exact ⟨_,_,_,rfl,by simp; omega,k3.up (by omega)⟩
   · rw [decide_eq_false (by omega),cond_false]
     exact ⟨_,_,_,rfl,by omega,r4.up (by omega)⟩
 rw [e,cond_false]
 exact ⟨_,_,_,rfl,by omega,r4.up (by omega)⟩
theorem p_outages {c:Tl1Cur} {m:Nat} (h:CurOk c m) (hm:m≤100000000):∃ (K F:Nat) (u:Int) (nodes:List ByteArray) (fs:List TFiber) (ds:List Int) (c':Tl1Cur),M_bt c=some (0,K,0,F,u,nodes,fs,ds,c')∧NetD K nodes fs∧F≤fs.length∧ds.length≤30∧CurOk c' (m+500):=by
 obtain ⟨K,F,nodes,fs,c1,n1,n2,n3,n4,n5⟩:=p_net16 h (by omega)
 unfold M_bt
 simp only [n1,Option.bind_some,bnd,subT_pre nodes K n2.k,subT_pre fs F n3]
 rw [p_l2Good _ (z_drawn n2 n3)]
 simp only [Option.bind_some]
 rcases bt (netOk ⟨nodes.take K,fs.take F⟩) with e | e
 · rw [e]
   simp only [Bool.not_true,cond_false]
   obtain ⟨u,ds,c',k1,k2,k3⟩:=p_outage n2 n3 n4 n5 (by omega)
   simp only [k1,Option.bind_some]
   exact ⟨_,_,_,_,_,_,_,rfl,n2,n3,k2,k3.up (by omega)⟩
 · rw [e]
   exact ⟨_,_,_,_,_,_,_,rfl,n2,n3,by simp,n5.up (by omega)⟩
theorem p_ends {c:Tl1Cur} {m:Nat} (K F:Nat) (nodes:List ByteArray) (fs:List TFiber) (hK:K≤10) (h:CurOk c m) (hm:m≤100000000):∃ (a b:Int) (c':Tl1Cur),M_di 0 K 0 F c nodes fs=some (a,b,c',nodes,fs)∧CurOk c' (m+500):=by
 obtain ⟨x,x1,x2,x3,x4⟩:=p_most (K:Int) 1
 obtain ⟨a,c1,a1,a2,a3,a4⟩:=p_pick x h (by omega)
 obtain ⟨y,y1,y2,y3,y4⟩:=p_most (x - 1) 1
 obtain ⟨b,c2,b1,b2,b3,b4⟩:=p_pick y a4 (by omega)
 obtain ⟨r,c3,r1,r2,r3,r4⟩:=p_pick 24 b4 (by omega)
 unfold M_di
 simp only [x1,Option.bind_some,a1,w64_eq (n:=x - 1) (by omega) (by omega),y1,b1,grd_t (show x ≠ 0 by omega),r1]
 rcases bt (r==0) with e | e
 · rw [e]
   exact ⟨_,_,_,rfl,r4.up (by omega)⟩
 rw [e,cond_false]
 rcases bt (r==1) with e | e
 · obtain ⟨z,c',k1,k2,k3⟩:=p_amongL [(-1),x] r4 (by omega) (by simp)
   simp only [e,cond_true,bnd,k1,Option.bind_some]
   exact ⟨_,_,_,rfl,k3.up (by omega)⟩
 rw [e,cond_false]
 exact ⟨_,_,_,rfl,r4.up (by omega)⟩
def codeOk (code:List Int):Prop:=(∀ x∈code,0≤x∧x≤255)∧code.length≤65536
theorem cur0 {code:List Int} (h:codeOk code):CurOk (⟨code,0,0⟩:Tl1Cur) 0:=⟨h.1,h.2,by simp,by simp⟩
theorem p_drawConn {code:List Int} (h:codeOk code):∃ (n:TNetwork) (o:TOutage) (a b:Int),M_dj code=some (n,o,a,b)∧z_Network n≤1048576∧z_Outage o≤1048576:=by
 obtain ⟨K,F,u,nodes,fs,ds,c1,n1,n2,n3,n4,n5⟩:=p_outages (cur0 h) (by omega)
 obtain ⟨a,b,c2,e1,e2⟩:=p_ends K F nodes fs (by have:=n2.k; have:=n2.n; omega) n5 (by omega)
 unfold M_dj
 simp only [n1,Option.bind_some,e1,bnd,subT_pre nodes K n2.k,subT_pre fs F n3]
 exact ⟨_,_,_,_,rfl,z_drawn n2 n3,by show ds.length≤1048576; omega⟩
end Vs

namespace Vs
open Go
theorem goneL_mem (s:Int):∀ (gr:List (List Int)) (k:Nat) (l:List Int) (x:Int),x∈foldI (fun i g (a:List Int)=>if bitB s i then a++g else a) k gr l↔x∈l∨∃ j g,gr[j]?=some g∧bitB s (k+j)=true∧x∈g
 | [],k,l,x=>by simp [foldI]
 | g :: gr, k, l, x => by
   simp only [foldI]
   rw [goneL_mem s gr (k+1)]
   constructor
   · rintro (h | ⟨j,g',h1,h2,h3⟩)
     · split at h
       · rename_i e
         rcases List.mem_append.1 h with h | h
         · exact .inl h
         · exact .inr ⟨0,g,rfl,e,h⟩
       · exact .inl h
     · exact .inr ⟨j+1,g',by simpa using h1,by rw [show k+(j+1)=k+1+j by omega]; exact h2,h3⟩
   · rintro (h | ⟨j,g',h1,h2,h3⟩)
     · left; split
       · exact List.mem_append_left _ h
       · exact h
     · cases j with
       | zero =>
         simp only [List.getElem?_cons_zero,Option.some.injEq] at h1
         subst h1
         left
         have h2':bitB s k=true:=h2
         rw [if_pos h2']
         exact List.mem_append_right _ h3
       | succ j=>exact .inr ⟨j,g',by simpa using h1,by rw [show k+1+j=k+(j+1) by omega]; exact h2,h3⟩
end Vs

namespace Vs
open Go
def facW (u s:Int) (i:Nat) (d:Int):Int:=if bitB s i then d else u - d
def prodW (u s:Int):Nat→List Int→Int
 | _,[]=>1
 | i,d::ds=>facW u s i d * prodW u s (i+1) ds
def DsOk (u:Int) (ds:List Int):Prop:=2≤u∧u≤20∧∀ d∈ds,0≤d∧d≤u
theorem DsOk.tl {u d:Int} {ds:List Int} (h:DsOk u (d::ds)):DsOk u ds:=⟨h.1,h.2.1,fun e he=>h.2.2 e (by simp [he])⟩
theorem wt_prod {u:Int} (s:Int):∀ (ds:List Int) (i k:Nat) (a:Int),k+ds.length≤14→DsOk u ds→0≤a∧a≤20 ^ k→foldI (wtG u s) i ds a=a * prodW u s i ds
 | [],_,_,a,_,_,ha=>by simp [foldI,prodW]
 | d :: ds, i, k, a, hk, hd, ha => by
   simp only [foldI,prodW]
   have hd0:=hd.2.2 d (by simp)
   obtain ⟨h2,h20,_⟩:=hd
   have h14:(20:Int) ^ (k+1)≤1638400000000000000:=(pow_14 20 (by omega) (by omega) (k+1) (by simp at hk; omega)).2
   have hs:(20:Int) ^ (k+1)=20 ^ k * 20:=Int.pow_succ ..
   have m:∀ x:Int,0≤x∧x≤20→0≤a * x∧a * x≤20 ^ (k+1):=fun x hx=>by
    refine ⟨Int.mul_nonneg ha.1 hx.1,?_⟩
    rw [hs]
    exact Int.mul_le_mul ha.2 hx.2 hx.1 (Int.le_trans ha.1 ha.2)
   have hst:wtG u s i d a=a * facW u s i d∧0≤a * facW u s i d∧a * facW u s i d≤20 ^ (k+1):=by
    unfold wtG facW
    have eb:(bits .and .i64 (Int.fdiv s (2 ^ (min i (IntKind.bits .i64)))) 1==1)=bitB s i:=rfl
    rw [eb]
    split
    · have:=m d ⟨hd0.1,by omega⟩
      rw [w64_eq (by omega) (by omega)]; exact ⟨rfl,this⟩
    · have e1:IntKind.wrap .i64 (u - d)=u - d:=w64_eq (by omega) (by omega)
      have:=m (u - d) ⟨by omega,by omega⟩
      rw [e1,w64_eq (by omega) (by omega)]; exact ⟨rfl,this⟩
   rw [hst.1,wt_prod s ds (i+1) (k+1) _ (by simp at hk; omega) ⟨h2,h20,fun e he=>‹∀ d_1∈d::ds,0≤d_1∧d_1≤u› e (by simp [he])⟩ hst.2,Int.mul_assoc]
theorem out_ds {n:TNetwork} {o:TOutage} (h:outOk n o=true):DsOk o.Unit o.Down∧o.Down.length≤14:=by
 obtain ⟨h1,h2,h3,h4⟩:=outOk_b h
 exact ⟨⟨h1,h2,h4⟩,h3⟩
theorem weight_prod {n:TNetwork} {o:TOutage} (h:outOk n o=true) (s:Int):weightP o s=prodW o.Unit s 0 o.Down:=by
 obtain ⟨h1,h2⟩:=out_ds h
 unfold weightP
 rw [wt_prod s o.Down 0 0 1 (by omega) h1 (by simp),Int.one_mul]
theorem bitB_nat (s i:Nat) (hs:s < 2 ^ 62) (hi:i < 64):bitB (s:Int) i=s.testBit i:=tbit s i hi hs
end Vs

namespace Vs
open Go
theorem p_vInts (a:List Int) (h:a.length≤1048576):M_ce a a=some true:=by
 unfold M_ce
 rw [bne_self_eq_false,cond_false]
 have key:=iter_list (f:=M_aj a a) a (fun i (_:Unit)=>(i:Int)) (fun _ _ _=>.inl ()) (fun _=>(.inl ():Unit ⊕ Bool)) (fun _ _=>True) (fun i u x hx _=>by
  have hlt:=(List.getElem?_eq_some_iff.1 hx).1
  refine .inl ⟨(),rfl,trivial,?_⟩
  have h1:decide ((i:Int) < a.length)=true:=by simp [hlt]
  simp only [M_aj,h1,cond_true,geti_nat,hx,Option.bind_some,bne_self_eq_false,cond_false]
  rw [w64_eq (by omega) (by omega)]
  rfl) (fun _ _=>by simp [M_aj]) () trivial (by omega)
 have e0:((0:Nat):Int)=0:=rfl
 simp only [e0] at key
 rw [key]
 have gen:∀ (xs:List Int) (i:Nat),walkL (fun (_:Nat) (_:Int) (_:Unit)=>(.inl ():Unit ⊕ (Unit ⊕ Bool))) (fun _=>(.inl ():Unit ⊕ Bool)) i xs ()=.inl ():=by
  intro xs
  induction xs with
  | nil=>intro i; rfl
  | cons x xs ih=>intro i; exact ih (i+1)
 rw [gen]; rfl
theorem p_vHas (l:List Int) (x:Int) (h:l.length≤1048576):M_cf l x=some (decide (x∈l)):=by
 unfold M_cf
 rw [iter_any (f:=M_ak l x) l (fun y=>y==x) (.inr true) (.inl ()) (fun i y hy=>by
  have hlt:=(List.getElem?_eq_some_iff.1 hy).1
  have h1:decide ((i:Int) < l.length)=true:=by simp [hlt]
  simp only [M_ak,h1,cond_true,geti_nat,hy,Option.bind_some]
  rw [w64_eq (n:=(i:Int)+1) (by omega) (by omega)]
  cases y==x <;> rfl) (by simp [M_ak]) (by omega)]
 have e:l.any (fun y=>y==x)=decide (x∈l):=by
  rw [Bool.eq_iff_iff]; simp
 rw [← e]
 cases l.any (fun y=>y==x) <;> rfl
theorem idxs_ge (r:Int) (fs:List TFiber) (i:Nat):∀ x∈idxs r i fs,(i:Int)≤x:=fun x hx=>by
 obtain ⟨j,f,_,_,h3⟩:=(idxs_mem r fs i x).1 hx; omega
theorem idxs_pw (r:Int):∀ (fs:List TFiber) (i:Nat),(idxs r i fs).Pairwise (· < ·)
 | [],_=>List.Pairwise.nil
 | f :: fs, i => by
   rw [idxs_cons]
   have ih:=idxs_pw r fs (i+1)
   split
   · exact List.pairwise_cons.2 ⟨fun x hx=>by have:=idxs_ge r fs (i+1) x hx; omega,ih⟩
   · exact ih
theorem idxs_two {r r':Int} {fs:List TFiber} {x:Int} (h:x∈idxs r 0 fs) (h':x∈idxs r' 0 fs):r=r':=by
 obtain ⟨j,f,h1,h2,h3⟩:=(idxs_mem r fs 0 x).1 h
 obtain ⟨j',f',h1',h2',h3'⟩:=(idxs_mem r' fs 0 x).1 h'
 have:j=j':=by omega
 subst this
 rw [h1] at h1'; cases h1'
 rw [← h2,← h2']
theorem groups_pw (n:TNetwork):(groupsP n).Pairwise fun g h=>∀ x∈g,x ∉ h:=by
 unfold groupsP
 refine List.pairwise_append.2 ⟨List.Pairwise.filter _ (List.pairwise_map.2 ?_),List.pairwise_map.2 ?_,?_⟩
 · refine List.Pairwise.imp (R:=fun a b:Int=>a ≠ b) (fun {a b} hab x hx hx'=>hab (idxs_two hx hx')) ?_
   unfold risks; decide
 · refine List.Pairwise.imp (fun {a b} hab x hx hx'=>?_) (idxs_pw 0 n.Fibers 0)
   simp only [List.mem_singleton] at hx hx'
   omega
 · intro g hg h hh x hx hx'
   obtain ⟨hg1,_⟩:=List.mem_filter.1 hg
   obtain ⟨r,hr,rfl⟩:=List.mem_map.1 hg1
   obtain ⟨i,hi,rfl⟩:=List.mem_map.1 hh
   simp only [List.mem_singleton] at hx'
   subst hx'
   have:=idxs_two hx hi
   subst this
   simp [risks] at hr
theorem groups_one {n:TNetwork} {k k':Nat} {g g':List Int} (h:(groupsP n)[k]?=some g) (h':(groupsP n)[k']?=some g') {x:Int} (hx:x∈g) (hx':x∈g'):k=k':=by
 have hp:=List.pairwise_iff_getElem.1 (groups_pw n)
 obtain ⟨l1,e1⟩:=List.getElem?_eq_some_iff.1 h
 obtain ⟨l2,e2⟩:=List.getElem?_eq_some_iff.1 h'
 rcases Nat.lt_trichotomy k k' with hlt | heq | hlt
 · exact (hp k k' l1 l2 hlt x (by rw [e1]; exact hx) (by rw [e2]; exact hx')).elim
 · exact heq
 · exact (hp k' k l2 l1 hlt x (by rw [e2]; exact hx') (by rw [e1]; exact hx)).elim
theorem bitsL_mem {s:Int} {K:Nat} {x:Int}:x∈bitsL s K↔∃ k:Nat,k < K∧bitB s k=true∧x=(k:Int):=by
 unfold bitsL
 simp only [List.mem_map,List.mem_filter,List.mem_range]
 constructor
 · rintro ⟨k,⟨h1,h2⟩,h3⟩; exact ⟨k,h1,h2,h3.symm⟩
 · rintro ⟨k,h1,h2,h3⟩; exact ⟨k,⟨h1,h2⟩,h3.symm⟩
theorem bitsL_pw (s:Int) (K:Nat):(bitsL s K).Pairwise (· < ·):=by
 unfold bitsL
 refine List.pairwise_map.2 (List.Pairwise.imp (fun {a b} h=>?_) (List.Pairwise.filter _ List.pairwise_lt_range))
 omega
theorem filt_one {α:Type} (p:α→Bool):∀ (l:List α),l.Pairwise (fun a b=>¬ (p a=true∧p b=true))→(l.filter p).length≤1
 | [],_=>by simp
 | a :: l, h => by
   obtain ⟨h1,h2⟩:=List.pairwise_cons.1 h
   rw [List.filter_cons]
   split
   · rename_i hp
     have:l.filter p=[]:=List.filter_eq_nil_iff.2 fun b hb hpb=>h1 b hb ⟨hp,hpb⟩
     rw [this]; simp
   · exact filt_one p l h2
theorem foldI_filt {α:Type} (p:α→Bool) (v:Int):∀ (l:List α) (k:Nat) (a:List Int),foldI (fun _ x (a:List Int)=>if p x then a++[v] else a) k l a=a++(l.filter p).map fun _=>v
 | [],_,a=>by simp [foldI]
 | x :: l, k, a => by
   simp only [foldI]
   rw [foldI_filt p v l (k+1),List.filter_cons]
   by_cases h:p x=true
   · simp [h]
   · simp [h]
def goneS (G:List (List Int)) (set:List Int) (m:Nat):List Int:=((List.range m).filter fun i:Nat=>set.any fun k=>match G[k.toNat]? with | some g=>decide ((i:Int)∈g) | none=>false).map fun i:Nat=>(i:Int)
theorem goneS_succ (G:List (List Int)) (set:List Int) (m:Nat):goneS G set (m+1)=goneS G set m++(if set.any (fun k=>match G[k.toNat]? with | some g=>decide ((m:Int)∈g) | none=>false) then [(m:Int)] else []):=by
 unfold goneS
 rw [List.range_succ,List.filter_append,List.map_append]
 congr 1
 rw [List.filter_cons,List.filter_nil]
 split <;> rfl
theorem goneS_len (G:List (List Int)) (set:List Int) (m:Nat):(goneS G set m).length≤m:=by
 unfold goneS
 rw [List.length_map]
 exact Nat.le_trans (List.length_filter_le ..) (by simp)
theorem pw_set {l:List Int} {F:Nat} (h:l.Pairwise (· < ·)) (hr:∀ x∈l,0≤x∧x < F):setB l F=true:=by
 unfold setB
 rw [Bool.not_eq_true',anyI_false]
 intro i x hx
 have h1:=hr x (List.mem_of_getElem? hx)
 unfold setBad
 have e:wi x 0 ((F:Int) - 1)=true:=wi_iff.2 (by omega)
 rw [e]
 simp only [Bool.not_true,Bool.false_or,Bool.and_eq_false_iff,decide_eq_false_iff_not]
 by_cases hi:0 < i
 · right
   obtain ⟨hlt,rfl⟩:=List.getElem?_eq_some_iff.1 hx
   rw [List.getElem?_eq_getElem (show i - 1 < l.length by omega)]
   have:=List.pairwise_iff_getElem.1 h (i - 1) i (by omega) hlt (by omega)
   simp only [decide_eq_false_iff_not]; omega
 · left; exact hi
theorem goneS_set (G:List (List Int)) (set:List Int) (m:Nat):setB (goneS G set m) m=true:=by
 refine pw_set ?_ ?_
 · unfold goneS
   refine List.pairwise_map.2 (List.Pairwise.imp (fun {a b} h=>?_) (List.Pairwise.filter _ List.pairwise_lt_range))
   omega
 · intro x hx
   unfold goneS at hx
   obtain ⟨i,hi,rfl⟩:=List.mem_map.1 hx
   have:=List.mem_range.1 (List.mem_filter.1 hi).1
   omega
theorem goneS_mem {G:List (List Int)} {s:Int} {m i:Nat} (hi:i < m):((i:Int)∈goneS G (bitsL s G.length) m)↔(i:Int)∈goneL s G:=by
 unfold goneL
 rw [goneL_mem]
 unfold goneS
 rw [List.mem_map]
 constructor
 · rintro ⟨j,hj,e⟩
   have:j=i:=by omega
   subst this
   obtain ⟨_,h2⟩:=List.mem_filter.1 hj
   rw [List.any_eq_true] at h2
   obtain ⟨k,hk,h3⟩:=h2
   obtain ⟨k',k1,k2,rfl⟩:=bitsL_mem.1 hk
   rw [Int.toNat_natCast,List.getElem?_eq_getElem k1] at h3
   exact .inr ⟨k',_,List.getElem?_eq_getElem k1,by rw [Nat.zero_add]; exact k2,by simpa using h3⟩
 · rintro (h | ⟨k,g,h1,h2,h3⟩)
   · simp at h
   · rw [Nat.zero_add] at h2
     refine ⟨i,List.mem_filter.2 ⟨List.mem_range.2 hi,?_⟩,rfl⟩
     rw [List.any_eq_true]
     exact ⟨(k:Int),bitsL_mem.2 ⟨k,(List.getElem?_eq_some_iff.1 h1).1,h2,rfl⟩,by rw [Int.toNat_natCast,h1]; simpa using h3⟩
theorem p_goneLoop (rZ3:TNetwork×TOutage×Int×Int) (rZ4:List Int×Int×Bool) (b:Bool) (s:Int) (n:TNetwork) (hn:rZ3.1=n) (hF:n.Fibers.length≤14) (hset:rZ4.1=bitsL s (groupsP n).length) :
 iter (M_ad rZ3 rZ4 (groupsP n,b)) N0 (0,[])=some (goneS (groupsP n) (bitsL s (groupsP n).length) n.Fibers.length):=by
 subst hn
 have hK:=groupsP_len rZ3.1 hF
 have hgr:=groups_rng (n:=rZ3.1) hF
 have hbl:=bitsL_len s (groupsP rZ3.1).length
 have inner:∀ (j:Nat) (a:List Int),a.length≤14→j < 14→iter (M_f rZ4 (groupsP rZ3.1,b) ((j:Int),a)) N0 (0,a) =
  some (a++(if (bitsL s (groupsP rZ3.1).length).any (fun k=>match (groupsP rZ3.1)[k.toNat]? with | some g=>decide ((j:Int)∈g) | none=>false) then [(j:Int)] else [])):=by
  intro j a ha hj
  let p:Int→Bool:=fun k=>match (groupsP rZ3.1)[k.toNat]? with | some g=>decide ((j:Int)∈g) | none=>false
  have key:=iter_foldI (f:=M_f rZ4 (groupsP rZ3.1,b) ((j:Int),a)) (bitsL s (groupsP rZ3.1).length) (fun i (l:List Int)=>((i:Int),l)) (fun _ x (l:List Int)=>if p x then l++[(j:Int)] else l) id (fun i l=>l.length≤14+i) (fun i l x hx hI=>by
   have hlt:=(List.getElem?_eq_some_iff.1 hx).1
   obtain ⟨k,k1,k2,rfl⟩:=bitsL_mem.1 (List.mem_of_getElem? hx)
   have h1:decide ((i:Int) < (rZ4.1.length:Int))=true:=by rw [hset]; simp [hlt]
   have hgk:=List.getElem?_eq_getElem k1
   have hgl:=(hgr _ (List.getElem_mem k1)).1
   have hx':rZ4.1[i]?=some (k:Int):=by rw [hset]; exact hx
   simp only [M_f,h1,cond_true]
   rw [grd_t ⟨by omega,by rw [hset]; omega⟩]
   simp only [Option.bind_some,Int.toNat_natCast,hx']
   rw [grd_t ⟨by omega,by omega⟩]
   simp only [Option.bind_some,hgk,p_vHas _ (j:Int) (show ((groupsP rZ3.1)[k]).length≤1048576 by omega),bnd]
   rw [w64_eq (n:=(i:Int)+1) (by omega) (by omega),grd_t (by omega)]
   have ep:p (k:Int)=decide ((j:Int)∈(groupsP rZ3.1)[k]):=by simp only [p,Int.toNat_natCast,hgk]
   rw [ep]
   rcases bt (decide ((j:Int)∈(groupsP rZ3.1)[k])) with e | e
   · rw [e]; simp only [cond_true,Option.bind_some,if_true]; exact ⟨by simp; omega,rfl⟩
   · rw [e]; simp only [cond_false,Bool.false_eq_true,if_false]; exact ⟨by omega,rfl⟩) (fun l _=>by simp [M_f,hset]) a (by omega) (by omega)
  have e0:((0:Nat):Int)=0:=rfl
  simp only [e0] at key
  rw [key,foldI_filt]
  have hone:=filt_one p (bitsL s (groupsP rZ3.1).length) (List.Pairwise.imp_of_mem (fun {x y} hx hy hxy hp=>by
   obtain ⟨k,k1,_,rfl⟩:=bitsL_mem.1 hx
   obtain ⟨k',k1',_,rfl⟩:=bitsL_mem.1 hy
   simp only [p,Int.toNat_natCast,List.getElem?_eq_getElem k1,List.getElem?_eq_getElem k1',decide_eq_true_eq] at hp
   have:=groups_one (List.getElem?_eq_getElem k1) (List.getElem?_eq_getElem k1') hp.1 hp.2
   omega) (bitsL_pw s _))
  show some (a++((bitsL s (groupsP rZ3.1).length).filter p).map fun _=>(j:Int))=some (a++if (bitsL s (groupsP rZ3.1).length).any p then [(j:Int)] else [])
  congr 2
  cases e:(bitsL s (groupsP rZ3.1).length).filter p with
  | nil =>
    have:(bitsL s (groupsP rZ3.1).length).any p=false:=by
     rw [List.any_eq_false]; intro x hx; exact (List.filter_eq_nil_iff.1 e) x hx
    rw [this]; rfl
  | cons x t =>
    rw [e] at hone
    have ht:t=[]:=List.eq_nil_of_length_eq_zero (by simp only [List.length_cons] at hone; omega)
    have hx:x∈(bitsL s (groupsP rZ3.1).length).filter p:=by rw [e]; simp
    have:(bitsL s (groupsP rZ3.1).length).any p=true:=List.any_eq_true.2 ⟨x,(List.mem_filter.1 hx).1,(List.mem_filter.1 hx).2⟩
    rw [this,ht]; rfl
 have key:=iter_foldI (f:=M_ad rZ3 rZ4 (groupsP rZ3.1,b)) rZ3.1.Fibers (fun i (l:List Int)=>((i:Int),l)) (fun i _ (l:List Int)=>l++(if (bitsL s (groupsP rZ3.1).length).any (fun k=>match (groupsP rZ3.1)[k.toNat]? with | some g=>decide ((i:Int)∈g) | none=>false) then [(i:Int)] else [])) id (fun i l=>l.length≤i) (fun i l x hx hI=>by
  have hlt:=(List.getElem?_eq_some_iff.1 hx).1
  have h1:decide ((i:Int) < (rZ3.1.Fibers.length:Int))=true:=by simp [hlt]
  simp only [M_ad,h1,cond_true]
  rw [inner i l (by omega) (by omega),w64_eq (n:=(i:Int)+1) (by omega) (by omega)]
  simp only [Option.bind_some]
  refine ⟨?_,rfl⟩
  split <;> simp <;> omega) (fun l _=>by simp [M_ad]) [] (by simp) (by omega)
 have e0:((0:Nat):Int)=0:=rfl
 simp only [e0] at key
 rw [key]
 have gen:∀ (xs:List TFiber) (i:Nat),foldI (fun i _ (l:List Int)=>l++(if (bitsL s (groupsP rZ3.1).length).any (fun k=>match (groupsP rZ3.1)[k.toNat]? with | some g=>decide ((i:Int)∈g) | none=>false) then [(i:Int)] else [])) i xs (goneS (groupsP rZ3.1) (bitsL s (groupsP rZ3.1).length) i)=goneS (groupsP rZ3.1) (bitsL s (groupsP rZ3.1).length) (i+xs.length):=by
  intro xs
  induction xs with
  | nil=>intro i; rfl
  | cons x xs ih =>
    intro i
    simp only [foldI,List.length_cons]
    rw [← goneS_succ,ih (i+1)]
    congr 1; omega
 have:=gen rZ3.1.Fibers 0
 rw [Nat.zero_add] at this
 rw [← this]; rfl
theorem lcG_inv (n:TNetwork) (o:TOutage) (fr to:Int):∀ (xs:List Nat) (k:Nat) (q:Int×Int) (K:Nat),k+xs.length≤K→(q.1 < 0∨∃ s:Nat,s < K∧q=((s:Int),weightP o (s:Int))∧dB n fr to (s:Int)=true) →
 ((foldI (lcS n o fr to) k xs q).1 < 0∨∃ s:Nat,s < K∧foldI (lcS n o fr to) k xs q=((s:Int),weightP o (s:Int))∧dB n fr to (s:Int)=true)
 | [],_,_,_,_,h=>h
 | x :: xs, k, q, K, hk, h => by
   simp only [List.length_cons] at hk
   refine lcG_inv n o fr to xs (k+1) _ K (by omega) ?_
   unfold lcS
   split
   · rename_i hc
     simp only [Bool.and_eq_true] at hc
     exact .inr ⟨k,by omega,rfl,hc.1⟩
   · exact h
theorem lcG_pos {n:TNetwork} {o:TOutage} (h:outOk n o=true) {fr to:Int} (he:endsB n fr to=true):∃ s:Nat,s < 2 ^ (groupsP n).length∧lcG n o fr to=((s:Int),weightP o (s:Int))∧dB n fr to (s:Int)=true:=by
 obtain ⟨hn,_⟩:=outOk_K h
 have hne:fr ≠ to:=by intro hh; unfold endsB at he; simp [hh] at he
 have hpos:0≤(lcG n o fr to).1:=by
  have hd:=dB_last hn he hne
  have h1:2 ^ (groupsP n).length=(2 ^ (groupsP n).length - 1)+1:=by have:=Nat.two_pow_pos (groupsP n).length; omega
  unfold lcG
  generalize hL:2 ^ (groupsP n).length - 1=L at hd h1
  rw [h1,List.range_succ,foldI_app]
  simp only [foldI,List.length_range,Nat.zero_add]
  generalize foldI (lcS n o fr to) 0 (List.range L) (-1,0)=q
  unfold lcS
  rw [hd]
  simp only [Bool.true_and,Bool.or_eq_true,decide_eq_true_eq]
  split
  · simp
  · rename_i hc; omega
 rcases lcG_inv n o fr to (List.range (2 ^ (groupsP n).length)) 0 (-1,0) (2 ^ (groupsP n).length) (by simp) (.inl (by omega)) with h1 | h1
 · unfold lcG at hpos; omega
 · exact h1
theorem prodW_congr (u s t:Int):∀ (ds:List Int) (i:Nat),(∀ j,i≤j→j < i+ds.length→bitB s j=bitB t j)→prodW u s i ds=prodW u t i ds
 | [],_,_=>rfl
 | d :: ds, i, h => by
   simp only [prodW]
   rw [prodW_congr u s t ds (i+1) fun j h1 h2=>h j (by omega) (by simp only [List.length_cons]; omega)]
   unfold facW
   rw [h i (Nat.le_refl _) (by simp)]
theorem weight_bits {n:TNetwork} {o:TOutage} (h:outOk n o=true) (s:Int):weightP o (maskP (bitsL s (groupsP n).length))=weightP o s:=by
 obtain ⟨h1,h2⟩:=out_ds h
 have hK:=(outOk_K h).2
 rw [weight_prod h,weight_prod h]
 obtain ⟨m,m1,m2,m3⟩:=maskP_spec (bitsL s (groupsP n).length) fun x hx=>by
  obtain ⟨k,k1,_,rfl⟩:=bitsL_mem.1 hx; omega
 rw [m1]
 refine prodW_congr _ _ _ _ 0 fun j _ hj=>?_
 rw [bitB_nat m j m2 (by omega),m3]
 rw [Bool.eq_iff_iff,decide_eq_true_eq,bitsL_mem]
 constructor
 · rintro ⟨k,_,h4,h5⟩
   have:k=j:=by omega
   rw [← this]; exact h4
 · intro hb; exact ⟨j,by omega,hb,rfl⟩
theorem bitsL_set (s:Int) (K:Nat):setB (bitsL s K) K=true:=pw_set (bitsL_pw s K) fun x hx=>by
 obtain ⟨k,k1,_,rfl⟩:=bitsL_mem.1 hx; omega
theorem p_ComponentsOf (n:TNetwork) (hn:netOk n=true) (hz:z_Network n≤1048576) (gone:List Int) (hs:setB gone n.Fibers.length=true) (hl:gone.length≤14):M_cg n gone=some (labG n gone,true):=by
 have hb:=netOk_b hn
 have hE:=net_ed hn
 unfold M_cg M_dp
 simp only [p_IsValidNetwork n hz,hn,Option.bind_some,cond_true,p_isSet gone (n.Fibers.length:Int) (by omega) (by omega) (by omega),hs,Bool.not_true,cond_false]
 rw [p_components n gone hE (by omega) (by omega) (by omega)]
 rfl
theorem p_rApart (n:TNetwork) (hn:netOk n=true) (hz:z_Network n≤1048576) (gone:List Int) (hs:setB gone n.Fibers.length=true) (hl:gone.length≤14) {a b:Int} (he:endsB n a b=true):M_ch n gone a b=some (gt (labG n gone) a.toNat != gt (labG n gone) b.toNat):=by
 obtain ⟨f1,f2,f3,f4⟩:=ends_rng he
 have hlen:(labG n gone).length=n.Nodes.length:=labels_len ..
 unfold M_ch
 rw [p_ComponentsOf n hn hz gone hs hl]
 simp only [Option.bind_some,cond_true,decide_eq_true f1,decide_eq_true f3,decide_eq_true (show a < ((labG n gone).length:Int) by omega),decide_eq_true (show b < ((labG n gone).length:Int) by omega)]
 rw [grd_t (by omega),grd_t (by omega),gt_at (show a.toNat < (labG n gone).length by omega),gt_at (show b.toNat < (labG n gone).length by omega)]
 rfl
theorem p_amongS {c:Tl1Cur} {m:Nat} (l:List Int) (K:Nat) (h:CurOk c m) (hm:m≤100000000000) (h0:0 < K) (hl:K≤l.length):∃ x c',M_ci 0 K c l=some (x,c',l)∧x∈l∧CurOk c' (m+2):=by
 obtain ⟨i,c1,g1,g2,g3,g4⟩:=p_pick (K:Int) h hm
 unfold M_ci
 rw [g1]
 simp only [Option.bind_some]
 have hi:0+i.toNat < l.length:=by omega
 rw [grd_t (by omega)]
 simp only [Option.bind_some,List.getElem?_eq_getElem hi]
 exact ⟨_,_,rfl,List.getElem_mem hi,g4⟩
theorem p_drawMeets {code:List Int} (h:codeOk code):∃ (n:TNetwork) (o:TOutage) (v num den:Int),M_ca code=some (n,o,v,num,den)∧z_Network n≤1048576∧z_Outage o≤1048576:=by
 obtain ⟨K,F,u,nodes,fs,ds,c1,n1,n2,n3,n4,n5⟩:=p_outages (cur0 h) (by omega)
 have hz:=z_drawn n2 n3
 have ho:z_Outage ⟨u,ds⟩≤1048576:=by show ds.length≤1048576; omega
 obtain ⟨x,c2,x1,x2,x3,x4⟩:=p_pick 24 n5 (by omega)
 have t:IntKind.wrap .i64 (Int.tdiv x 12)=Int.tdiv x 12∧0≤Int.tdiv x 12∧Int.tdiv x 12≤1:=by
  have:Int.tdiv x 12=x / 12:=Int.tdiv_eq_ediv_of_nonneg x2
  have h3:x / 12≤1:=by omega
  have h4:0≤x / 12:=by omega
  rw [this]
  exact ⟨w64_eq (by omega) (by omega),h4,h3⟩
 obtain ⟨t1,t2,t3⟩:=t
 obtain ⟨den,c3,d1,d2,d3⟩:=p_amongS [1,2,10,100,1000,999,0,1001] (6+Int.tdiv x 12).toNat x4 (by omega) (by omega) (by simp only [List.length_cons,List.length_nil]; omega)
 have hden:0≤den∧den≤1001:=(show ∀ x∈[(1:Int),2,10,100,1000,999,0,1001],0≤x∧x≤1001 by decide) den d2
 obtain ⟨mo,e1,e2,e3,e4⟩:=p_most den 1
 obtain ⟨num,c4,k1,k2,k3,k4⟩:=p_pick (IntKind.wrap .i64 (mo+1)) d3 (by omega)
 obtain ⟨b1,c5,b2,b3⟩:=p_one 3 k4 (by omega)
 unfold M_ca
 simp only [n1,Option.bind_some,bnd,subT_pre nodes K n2.k,subT_pre fs F n3,p_spec_NetworkAvailability (⟨nodes.take K,fs.take F⟩:TNetwork) ⟨u,ds⟩ hz ho,x1,t1,w64_eq (n:=6+Int.tdiv x 12) (by omega) (by omega)]
 rw [grd_t (by omega)]
 simp only [Option.bind_some]
 rw [grd_t ⟨trivial,by omega,trivial,by omega⟩]
 simp only [Option.bind_some,d1,e1,k1,b2]
 obtain ⟨num2,c6,f1,f2⟩:∃ num2 c6,(cond b1 ((M_a 20 c5).bind fun rZ18=>(M_bd (IntKind.wrap .i64 (den - rZ18.1)) 0).bind fun rZ19=>some (rZ19,rZ18.2)) (some (num,c5)):Option (Int×Tl1Cur))=some (num2,c6)∧CurOk c6 (m:=600):=by
  cases b1
  · exact ⟨num,c5,rfl,b3.up (by omega)⟩
  · obtain ⟨y,c7,y1,y2,y3,y4⟩:=p_pick 20 b3 (by omega)
    obtain ⟨mo2,g1,_⟩:=p_most (IntKind.wrap .i64 (den - y)) 0
    exact ⟨mo2,c7,by rw [cond_true,y1]; simp only [Option.bind_some,g1],y4.up (by omega)⟩
 rw [f1]
 simp only [Option.bind_some]
 obtain ⟨b4,c8,b5,b6⟩:=p_one 8 f2 (by omega)
 rw [b5]
 simp only [Option.bind_some]
 cases b4
 · exact ⟨_,_,_,_,_,rfl,hz,ho⟩
 · obtain ⟨y,c9,y1,y2,y3⟩:=p_amongL [0,1,(-1),IntKind.wrap .i64 ((naP (⟨nodes.take K,fs.take F⟩:TNetwork) ⟨u,ds⟩).1+1)] b6 (by omega) (by simp)
   simp only [cond_true,y1,Option.bind_some]
   exact ⟨_,_,_,_,_,rfl,hz,ho⟩
theorem rUnits_loop (u:Int) (h2:2≤u) (h20:u≤20):∀ (k j:Nat),k+j≤14→∀ N,k < N→iter (M_al u) N ((k:Int),u ^ j)=some (u ^ (k+j))
 | 0, j, _, N + 1, _ => by
   rw [iter]
   simp [M_al]
 | k + 1, j, hk, N + 1, hN => by
   rw [iter]
   have h1:decide ((0:Int) < ((k+1:Nat):Int))=true:=decide_eq_true (by omega)
   have hp:=pow_14 u h2 h20 (j+1) (by omega)
   have hs:u ^ j * u=u ^ (j+1):=(Int.pow_succ ..).symm
   simp only [M_al,h1,cond_true]
   rw [hs,w64_eq (n:=u ^ (j+1)) (by omega) (by omega),w64_eq (n:=((k+1:Nat):Int) - 1) (by omega) (by omega),show ((k+1:Nat):Int) - 1=(k:Int) by omega]
   have:=rUnits_loop u h2 h20 k (j+1) (by omega) N (by omega)
   rw [this]
   congr 2; omega
theorem p_rUnits {n:TNetwork} {o:TOutage} (h:outOk n o=true):M_cb o.Unit (o.Down.length:Int)=some (allP o):=by
 obtain ⟨h1,h2,h3,_⟩:=outOk_b h
 unfold M_cb
 have:=rUnits_loop o.Unit h1 h2 o.Down.length 0 (by omega) N0 (N0_lt (by omega))
 rw [Int.pow_zero] at this
 rw [this]; rfl
theorem p_FnLikeliest (code:List Int) (o1:code.length≤9223372036854775807∧∀ x∈code,0≤x∧x≤255):M_do code=some true:=by
 have hb:=o1.2
 unfold M_do M_dq
 by_cases hl:(65536:Int) < (code.length:Int)
 · simp [hl]
 simp only [decide_eq_false hl,Option.bind_some,cond_false]
 obtain ⟨n,o,a,b,d1,hz,ho⟩:=p_drawConn (code:=code) ⟨hb,by omega⟩
 obtain ⟨m,q,v,num,den,d2,hz2,ho2⟩:=p_drawMeets (code:=code) ⟨hb,by omega⟩
 have ho':o.Down.length≤1048576:=ho
 have hd:M_cj code=some (n,o,a,b):=by
  unfold M_cj; rw [d1]; rfl
 have hzr:=zr_LikeliestCut n o a b hz ho
 simp only [hd,Option.bind_some,p_impl_LikeliestCut n o a b hz ho,p_spec_LikeliestCut n o a b hz ho,beq_self_eq_true,Bool.not_true,cond_false,bne_self_eq_false,p_vInts _ (show (lcP n o a b).1.length≤1048576 from hzr)]
 have second:((M_ca code).bind fun rZ42=>(M_bj (⟨rZ42.1.Nodes,rZ42.1.Fibers⟩:TNetwork) (⟨rZ42.2.1.Unit,rZ42.2.1.Down⟩:TOutage) rZ42.2.2.1 rZ42.2.2.2.1 rZ42.2.2.2.2).bind fun rZ43=>(M_cc (⟨rZ42.1.Nodes,rZ42.1.Fibers⟩:TNetwork) (⟨rZ42.2.1.Unit,rZ42.2.1.Down⟩:TOutage) rZ42.2.2.1 rZ42.2.2.2.1 rZ42.2.2.2.2).bind fun rZ44=>(cond (!(rZ43.1==rZ44.1)) (some true) (some (!(rZ43.2==rZ44.2))):Option Bool).bind fun oZ46=>cond (oZ46) (some false) ((cond (!rZ43.2) (some true) (cond (!rZ43.1) (some true) ((M_cb rZ42.2.1.Unit (rZ42.2.1.Down.length:Int)).bind fun rZ50=>some (rZ42.2.2.1==rZ50))):Option Bool).bind fun oZ51=>cond (oZ51) (some true) ((M_bj (⟨rZ42.1.Nodes,rZ42.1.Fibers⟩:TNetwork) (⟨rZ42.2.1.Unit,rZ42.2.1.Down⟩:TOutage) (IntKind.wrap .i64 (rZ42.2.2.1+1)) rZ42.2.2.2.1 rZ42.2.2.2.2).bind fun rZ53=>cond (rZ53.1) (some rZ53.2) (some false))))=some true:=by
  simp only [d2,Option.bind_some,p_impl_MeetsTarget m q v num den hz2 ho2,p_spec_MeetsTarget m q v num den hz2 ho2,beq_self_eq_true,Bool.not_true,cond_false,p_impl_MeetsTarget m q (IntKind.wrap .i64 (v+1)) num den hz2 ho2]
  unfold MTr
  rcases bt (MTg m q v num den) with e | e
  · simp only [e,if_true,Bool.not_true,cond_false]
    have e':=e
    unfold MTg at e'
    simp only [Bool.and_eq_true,wi_iff] at e'
    obtain ⟨⟨⟨e1,e2⟩,e3⟩,e4⟩:=e'
    have hall:=allP_b e1
    rcases bt (decide (num * allP q≤v * den)) with e5 | e5
    · simp only [e5,Bool.not_true,cond_false,p_rUnits e1,Option.bind_some]
      by_cases e6:v=allP q
      · simp [e6]
      · have e7:(v==allP q)=false:=by simp [e6]
        have e8:MTg m q (v+1) num den=true:=by
         unfold MTg
         simp only [Bool.and_eq_true,wi_iff]
         exact ⟨⟨⟨e1,by omega,by omega⟩,e3⟩,e4⟩
        have e9:decide (num * allP q≤(v+1) * den)=true:=by
         rw [decide_eq_true_eq] at e5 ⊢
         rw [Int.add_mul]; omega
        rw [w64_eq (n:=v+1) (by omega) (by omega)]
        simp [e7,e8,e9]
    · simp [e5]
  · simp [e]
 rcases bt (outOk n o&&endsB n a b) with e | e
 · obtain ⟨e1,e2⟩:=Bool.and_eq_true_iff.1 e
   obtain ⟨hn,hKD⟩:=outOk_K e1
   have hbn:=netOk_b hn
   have hne:a ≠ b:=by intro hh; unfold endsB at e2; simp [hh] at e2
   obtain ⟨q1,q2⟩:=lc_eq e1 e2 hne
   obtain ⟨s,s1,s2,s3⟩:=lcG_pos e1 e2
   have hlc:lcP n o a b=(bitsL (s:Int) (groupsP n).length,weightP o (s:Int),true):=by
    unfold lcP; rw [e,if_pos rfl,q1,q2,s2]
   have hbl:=bitsL_len (s:Int) (groupsP n).length
   have hK:=groupsP_len n (by omega)
   have hgl:=goneS_len (groupsP n) (bitsL (s:Int) (groupsP n).length) n.Fibers.length
   have hst:stW n o (bitsL (s:Int) (groupsP n).length)=(weightP o (s:Int),true):=by
    unfold stW
    have hs2:setB (bitsL (s:Int) (groupsP n).length) (o.Down.length:Int)=true:=by rw [hKD]; exact bitsL_set _ _
    simp only [e1,hs2,weight_bits e1]; rfl
   have hR:M_ck n=some (groupsP n,true):=by
    unfold M_ck
    simp only [p_l2Good n hz,hn,Option.bind_some,Bool.not_true,cond_false,p_l2Groups n (show n.Fibers.length≤14 by omega)]
   have hap:(gt (labG n (goneS (groupsP n) (bitsL (s:Int) (groupsP n).length) n.Fibers.length)) a.toNat != gt (labG n (goneS (groupsP n) (bitsL (s:Int) (groupsP n).length) n.Fibers.length)) b.toNat)=true:=by
    have:labG n (goneS (groupsP n) (bitsL (s:Int) (groupsP n).length) n.Fibers.length)=labG n (goneL (s:Int) (groupsP n)):=by
     unfold labG
     refine labels_congr fun i hi=>?_
     unfold alL
     congr 1
     exact decide_eq_decide.2 (goneS_mem hi)
    rw [this]; exact s3
   rw [hlc]
   simp only [cond_true,p_impl_StateWeight n o _ hz ho' (show (bitsL (s:Int) (groupsP n).length).length≤1048576 by omega),hst,hR,Option.bind_some,p_goneLoop (n,o,a,b) (bitsL (s:Int) (groupsP n).length,weightP o (s:Int),true) true (s:Int) n rfl (by omega) rfl,Bool.not_true,cond_false,bne_self_eq_false,
    p_rApart n hn hz _ (goneS_set (groupsP n) (bitsL (s:Int) (groupsP n).length) n.Fibers.length) (by omega) e2,hap]
   exact second
 · have hlc:lcP n o a b=([],0,false):=by unfold lcP; rw [e]; rfl
   rw [hlc]
   simp only [cond_false,Option.bind_some]
   exact second
end Vs

namespace Vs
end Vs

