/-
  Part of a law's proof.
-/
import Derived.Test.YteilpiddonoikaaGreatUe
import Derived.Test.YteilpiddonoikaaGreatCa
set_option linter.defProp false
set_option linter.unusedSimpArgs false
set_option linter.unusedVariables false
namespace Vs
open Go
def z_StringS (xs:(List ByteArray)):Nat:=xs.length+(xs.map fun x=>x.size).sum
def z_FiberS (xs:(List TFiber)):Nat:=xs.length
def z_Network (x:TNetwork):Nat:=z_StringS x.Nodes+z_FiberS x.Fibers
end Vs

namespace Vs
open Go
def wi (x a b:Int):Bool:=decide (a≤x)&&decide (x≤b)
theorem wi_iff {x a b:Int}:wi x a b=true↔a≤x∧x≤b:=by simp [wi]
theorem wi_false {x a b:Int}:wi x a b=false↔¬ (a≤x∧x≤b):=by rw [← wi_iff]; simp
theorem p_within (x a b:Int):M_bn x a b=some (wi x a b):=by
 unfold M_bn wi; by_cases h:a≤x <;> simp [h]
theorem p_l1In (x a b:Int):M_aq x a b=some (wi x a b):=by
 unfold M_aq wi; by_cases h:a≤x <;> simp [h]
def letB (c:UInt8):Bool:=decide (97≤c.toNat)&&decide (c.toNat≤122)
def digB (c:UInt8):Bool:=decide (48≤c.toNat)&&decide (c.toNat≤57)
def nameBad (i:Nat) (c:UInt8):Bool:=!letB c&&(!digB c||i==0)
def nameB (s:ByteArray):Bool:=!anyI nameBad s.data.toList&&wi s.size 1 8
theorem getz_nat (s:ByteArray) (i:Nat):getz s (i:Int)=s.data.toList[i]?:=by
 unfold getz
 rw [if_pos (by omega),Int.toNat_natCast]
 by_cases h:i < s.size
 · have h2:i < s.data.toList.length:=by simpa using h
   rw [getElem?_pos s i h,List.getElem?_eq_getElem h2]
   rfl
 · have h2:¬ i < s.data.toList.length:=by simpa using h
   rw [getElem?_neg s i h,List.getElem?_eq_none (Nat.le_of_not_lt h2)]
theorem size_list (s:ByteArray):s.size=s.data.toList.length:=by show s.data.size=s.data.toList.length; rw [Array.length_toList]
theorem letB_c (c:UInt8):letB c=(decide (97≤(c.toNat:Int))&&decide ((c.toNat:Int)≤122)):=by
 unfold letB
 congr 1 <;> exact decide_eq_decide.2 (by omega)
theorem digB_c (c:UInt8):digB c=(decide (48≤(c.toNat:Int))&&decide ((c.toNat:Int)≤57)):=by
 unfold digB
 congr 1 <;> exact decide_eq_decide.2 (by omega)
theorem p_isName (s:ByteArray) (hl:s.size≤1048576):M_dk s=some (nameB s):=by
 unfold M_dk nameB
 rw [size_list] at *
 rw [iter_anyI (f:=M_t s) s.data.toList nameBad (.inr false) (.inl ()) (fun i c hc _=>by
  have hlt:=(List.getElem?_eq_some_iff.1 hc).1
  have h1:decide ((i:Int) < s.size)=true:=decide_eq_true (by rw [size_list]; omega)
  simp only [M_t,h1,cond_true,getz_nat,hc,Option.bind_some,nameBad,letB_c,digB_c]
  rw [w64_eq (by omega) (by omega)]
  have hi:((i:Int)==0)=(i==0):=by rw [Bool.eq_iff_iff]; simp
  rw [hi]
  cases decide (97≤(c.toNat:Int)) <;> cases decide ((c.toNat:Int)≤122) <;> cases decide (48≤(c.toNat:Int)) <;> cases decide ((c.toNat:Int)≤57) <;> cases (i==0) <;> rfl) (by simp [M_t]) (by omega)]
 rw [← size_list]
 cases anyI nameBad s.data.toList <;> simp [p_within]
theorem p_l2Sign (c:UInt8):M_dy (c.toNat:Int)=some (letB c||digB c):=by
 unfold M_dy
 simp only [letB_c,digB_c]
 cases decide (97≤(c.toNat:Int)) <;> cases decide ((c.toNat:Int)≤122) <;> cases decide (48≤(c.toNat:Int)) <;> rfl
theorem fstc (c:UInt8):(cond (decide ((c.toNat:Int) < 97)) (some true) (some (decide (122 < (c.toNat:Int)))):Option Bool)=some (!letB c):=by
 rw [letB_c]
 by_cases h1:(c.toNat:Int) < 97
 · have h2:¬ 97≤(c.toNat:Int):=by omega
   simp [h1,h2]
 · have h2:97≤(c.toNat:Int):=by omega
   simp only [h1,decide_false,cond_false,h2,decide_true,Bool.true_and]
   by_cases h3:122 < (c.toNat:Int)
   · have h4:¬ (c.toNat:Int)≤122:=by omega
     simp [h3,h4]
   · have h4:(c.toNat:Int)≤122:=by omega
     simp [h3,h4]
theorem p_l2Name (s:ByteArray) (hl:s.size≤1048576):M_dz s=some (nameB s):=by
 unfold M_dz nameB
 simp only [p_l1In,Option.bind_some]
 rcases bt (wi s.size 1 8) with hw | hw
 · simp only [hw,Bool.not_true,cond_false,Bool.and_true]
   have hs:0 < s.data.toList.length:=by rw [← size_list]; have:=(wi_iff.1 hw).1; omega
   have h0:s.data.toList[0]?=some s.data.toList[0]:=List.getElem?_eq_getElem hs
   have g0:getz s 0=some s.data.toList[0]:=by rw [← h0]; exact getz_nat s 0
   simp only [g0,Option.bind_some]
   have key:=iter_anyI (f:=M_ar s) s.data.toList (fun _ c=>!(letB c||digB c)) (.inr false) (.inl ()) (fun i c hc _=>by
    have hlt:=(List.getElem?_eq_some_iff.1 hc).1
    have h1:decide ((i:Int) < s.size)=true:=decide_eq_true (by rw [size_list]; omega)
    rw [size_list] at hl
    simp only [M_ar,h1,cond_true,getz_nat,hc,Option.bind_some,p_l2Sign]
    rw [w64_eq (by omega) (by omega)]
    cases letB c <;> cases digB c <;> rfl) (by simp [M_ar]) (by rw [size_list] at hl; omega)
   rw [fstc]
   simp only [Option.bind_some,key]
   rcases bt (letB s.data.toList[0]) with hL | hL
   · simp only [hL,Bool.not_true,cond_false]
     have e:anyI (fun _ c=>!(letB c||digB c)) s.data.toList=anyI nameBad s.data.toList:=by
      refine anyI_congr fun i c hc _=>?_
      unfold nameBad
      by_cases hi:i=0
      · subst hi; rw [h0] at hc; cases hc; rw [hL]; rfl
      · have:(i==0)=false:=by simpa using hi
        rw [this]
        cases letB c <;> cases digB c <;> rfl
     rw [e]
     cases anyI nameBad s.data.toList <;> rfl
   · have:anyI nameBad s.data.toList=true:=anyI_iff.2 ⟨0,_,h0,by unfold nameBad; rw [hL]; simp⟩
     simp only [hL,this,Bool.not_false,cond_true,Bool.not_true]
 · simp [hw]
def idxZ (v:ByteArray) (xs:List ByteArray):Option (Nat×ByteArray):=findI (fun _ x=>x.toList==v.toList) xs
def fidx (v:ByteArray) (xs:List ByteArray):Int:=match idxZ v xs with | some q=>(q.1:Int) | none=>-1
theorem p_l2Find (xs:List ByteArray) (v:ByteArray) (hl:xs.length≤1048576):M_ea xs v=some (fidx v xs):=by
 unfold M_ea fidx
 rw [iter_findI (f:=M_as xs v) xs (fun _ x=>x.toList==v.toList) (fun i _=>(i:Int)) () (fun i x hx _=>by
  have hlt:=(List.getElem?_eq_some_iff.1 hx).1
  have h1:decide ((i:Int) < xs.length)=true:=by simp [hlt]
  simp only [M_as,h1,cond_true,geti_nat,hx,Option.bind_some]
  rw [w64_eq (by omega) (by omega)]
  cases x.toList==v.toList <;> rfl) (by simp [M_as]) (by omega)]
 unfold idxZ
 cases findI (fun _ x=>x.toList==v.toList) xs <;> rfl
theorem p_Contains_z (xs:List ByteArray) (v:ByteArray) (hl:xs.length≤1048576):M_dl xs v=some (xs.any fun x=>x.toList==v.toList):=by
 unfold M_dl M_ep
 rw [iter_findI (f:=M_ak xs v) xs (fun _ x=>x.toList==v.toList) (fun i _=>(i:Int)) () (fun i x hx _=>by
  have hlt:=(List.getElem?_eq_some_iff.1 hx).1
  have h1:decide ((i:Int) < xs.length)=true:=by simp [hlt]
  simp only [M_ak,h1,cond_true,geti_nat,hx,Option.bind_some]
  rw [w64_eq (by omega) (by omega),show (v.toList==x.toList)=(x.toList==v.toList) from Bool.beq_comm ..]
  cases x.toList==v.toList <;> rfl) (by simp [M_ak]) (by omega)]
 cases e:findI (fun _ x=>x.toList==v.toList) xs with
 | none =>
   have:=findI_none.1 e
   have h:(xs.any fun x=>x.toList==v.toList)=false:=by
    rw [← anyI_any (fun x:ByteArray=>x.toList==v.toList),anyI_false]; exact this
   rw [h]; rfl
 | some q =>
   obtain ⟨i,x⟩:=q
   obtain ⟨h1,h2,_⟩:=findI_some.1 e
   have h:(xs.any fun x=>x.toList==v.toList)=true:=List.any_eq_true.2 ⟨x,List.mem_of_getElem? h1,h2⟩
   rw [h]; simp
def cmpI (x y:Int):Int:=if x < y then -1 else if y < x then 1 else 0
theorem p_cmp (x y:Int):M_bq x y=some (cmpI x y):=by
 unfold M_bq M_bu cmpI
 by_cases h:x < y
 · simp [h]
 · by_cases h2:y < x <;> simp [h,h2]
def cmpF (f g:TFiber):Int:=if f.A ≠ g.A then cmpI f.A g.A else if f.B ≠ g.B then cmpI f.B g.B else if f.Length ≠ g.Length then cmpI f.Length g.Length else cmpI f.Risk g.Risk
theorem cmpI_zero {x y:Int}:cmpI x y=0↔x=y:=by
 unfold cmpI
 split
 · simp; omega
 · split
   · simp; omega
   · simp; omega
theorem p_compareFibers (f g:TFiber):M_dm f g=some (cmpF f g):=by
 unfold M_dm
 simp only [p_cmp,Option.bind_some,bnd]
 unfold M_cl
 have key:=iter_findI (f:=M_n [cmpI f.A g.A,cmpI f.B g.B,cmpI f.Length g.Length,cmpI f.Risk g.Risk]) [cmpI f.A g.A,cmpI f.B g.B,cmpI f.Length g.Length,cmpI f.Risk g.Risk] (fun _ x=>x != 0) (fun _ x=>x) () (fun i x hx _=>by
  have hlt:=(List.getElem?_eq_some_iff.1 hx).1
  have h1:decide ((i:Int) < ([cmpI f.A g.A,cmpI f.B g.B,cmpI f.Length g.Length,cmpI f.Risk g.Risk].length:Nat))=true:=decide_eq_true (by omega)
  simp only [List.length_cons,List.length_nil] at hlt
  simp only [M_n,h1,cond_true,geti_nat,hx,Option.bind_some]
  rw [w64_eq (by omega) (by omega)]
  cases x != 0 <;> rfl) (by simp [M_n]) (by simp)
 rw [key]
 unfold cmpF findI
 simp only [List.zipIdx_cons,List.zipIdx_nil,List.find?_cons,List.find?_nil]
 by_cases h1:f.A=g.A
 · rw [cmpI_zero.2 h1]
   by_cases h2:f.B=g.B
   · rw [cmpI_zero.2 h2]
     by_cases h3:f.Length=g.Length
     · rw [cmpI_zero.2 h3]
       by_cases h4:f.Risk=g.Risk
       · simp [h1,h2,h3,h4,cmpI_zero.2]
       · have:(cmpI f.Risk g.Risk != 0)=true:=bne_iff_ne.2 fun e=>h4 (cmpI_zero.1 e)
         simp [h1,h2,h3,this]
     · have:(cmpI f.Length g.Length != 0)=true:=bne_iff_ne.2 fun e=>h3 (cmpI_zero.1 e)
       simp [h1,h2,h3,this]
   · have:(cmpI f.B g.B != 0)=true:=bne_iff_ne.2 fun e=>h2 (cmpI_zero.1 e)
     simp [h1,h2,this]
 · have:(cmpI f.A g.A != 0)=true:=bne_iff_ne.2 fun e=>h1 (cmpI_zero.1 e)
   simp [h1,this]
end Vs

namespace Vs
open Go
theorem slT_nat {α:Type} (xs:List α) (i:Nat) (h:i≤xs.length):slT xs (i:Int)=some (xs.take i):=by
 unfold slT
 rw [if_pos ⟨by omega,by simpa using h⟩]; simp
theorem z_net {n:TNetwork} (h:z_Network n≤1048576):n.Nodes.length≤1048576∧n.Fibers.length≤1048576∧∀ x∈n.Nodes,x.size≤1048576:=by
 unfold z_Network z_StringS z_FiberS at h
 refine ⟨by omega,by omega,fun x hx=>?_⟩
 obtain ⟨i,hi,rfl⟩:=List.getElem_of_mem hx
 have:n.Nodes[i].size≤(n.Nodes.map fun x:ByteArray=>x.size).sum:=sum_ge (fun x:ByteArray=>x.size) (xs:=n.Nodes) (i:=i) (x:=n.Nodes[i]) (by simp [hi])
 omega
def nodeBad (n:TNetwork) (i:Nat) (x:ByteArray):Bool:=!nameB x||(n.Nodes.take i).any fun y=>y.toList==x.toList
def fib1 (m:Nat) (f:TFiber):Bool:=decide (f.A < 0)||decide (f.B≤f.A)||decide ((m:Int)≤f.B)||!wi f.Length 1 5000||!wi f.Risk 0 9
def fibBad (n:TNetwork) (i:Nat) (f:TFiber):Bool:=fib1 n.Nodes.length f||(decide (0 < i)&&match n.Fibers[i - 1]? with | some g=>decide (0 < cmpF g f) | none=>false)
def netOk (n:TNetwork):Bool:=!anyI (nodeBad n) n.Nodes&&!anyI (fibBad n) n.Fibers&&wi n.Nodes.length 2 8&&decide (n.Fibers.length≤14)
theorem p_IsValidNetwork (n:TNetwork) (hz:z_Network n≤1048576):M_cs n=some (netOk n):=by
 obtain ⟨h1,h2,h3⟩:=z_net hz
 unfold M_cs netOk
 rw [iter_anyI (f:=M_al n) n.Nodes (nodeBad n) (.inr false) (.inl ()) (fun i x hx _=>by
  have hlt:=(List.getElem?_eq_some_iff.1 hx).1
  have e1:decide ((i:Int) < n.Nodes.length)=true:=by simp [hlt]
  simp only [M_al,e1,cond_true,geti_nat,hx,Option.bind_some,p_isName x (h3 x (List.mem_of_getElem? hx)),slT_nat n.Nodes i (Nat.le_of_lt hlt),p_Contains_z (n.Nodes.take i) x (by simp; omega),nodeBad]
  rw [w64_eq (by omega) (by omega)]
  rcases bt (nameB x) with e | e <;> rcases bt ((n.Nodes.take i).any (fun y=>y.toList==x.toList)) with e' | e' <;> simp only [e,e'] <;> rfl) (by simp [M_al]) (by omega)]
 rcases bt (anyI (nodeBad n) n.Nodes) with hN | hN
 · simp [hN]
 · simp only [hN,Bool.false_eq_true,if_false,Option.bind_some,Bool.not_false,Bool.true_and]
   rw [iter_anyI (f:=M_u n) n.Fibers (fibBad n) (.inr false) (.inl ()) (fun i x hx _=>by
    have hlt:=(List.getElem?_eq_some_iff.1 hx).1
    have e1:decide ((i:Int) < n.Fibers.length)=true:=by simp [hlt]
    simp only [M_u,e1,cond_true,geti_nat,hx,Option.bind_some,p_within]
    rw [w64_eq (n:=(i:Int)+1) (by omega) (by omega)]
    unfold fibBad fib1
    cases decide (x.A < 0)
    · cases decide (x.B≤x.A)
      · cases decide ((n.Nodes.length:Int)≤x.B)
        · cases wi x.Length 1 5000
          · rfl
          · cases wi x.Risk 0 9
            · rfl
            · by_cases hi:0 < i
              · have hi':decide ((0:Int) < (i:Int))=true:=by simp [hi]
                have hp:n.Fibers[i - 1]?=some n.Fibers[i - 1]:=List.getElem?_eq_getElem (by omega)
                have hw:IntKind.wrap .i64 ((i:Int) - 1)=((i - 1:Nat):Int):=by rw [w64_eq (by omega) (by omega)]; omega
                simp only [hi',cond_true,cond_false,Bool.not_true,hw,geti_nat,hp,Option.bind_some,p_compareFibers,hi,decide_true,Bool.true_and,Bool.false_or]
                cases decide (0 < cmpF n.Fibers[i - 1] x) <;> rfl
              · have hi':decide ((0:Int) < (i:Int))=false:=by simp; omega
                simp [hi',hi]
        · rfl
      · rfl
    · rfl) (by simp [M_u]) (by omega)]
   rcases bt (anyI (fibBad n) n.Fibers) with hF | hF
   · simp [hF]
   · simp only [hF,Bool.false_eq_true,if_false,Option.bind_some,Bool.not_false,Bool.true_and,p_within]
     have e:decide ((n.Fibers.length:Int)≤14)=decide (n.Fibers.length≤14):=decide_eq_decide.2 (by omega)
     rw [e]
     cases wi n.Nodes.length 2 8 <;> rfl
theorem find_dup (n:TNetwork) (i:Nat) (x:ByteArray) (hx:n.Nodes[i]?=some x) :
 (fidx x n.Nodes != (i:Int))=(n.Nodes.take i).any fun y=>y.toList==x.toList:=by
 unfold fidx
 cases e:idxZ x n.Nodes with
 | none =>
   have:=findI_none.1 e i x hx
   simp at this
 | some q =>
   obtain ⟨j,y⟩:=q
   obtain ⟨h1,h2,h3⟩:=findI_some.1 e
   simp only
   by_cases hj:j=i
   · subst hj
     have:((n.Nodes.take j).any fun y=>y.toList==x.toList)=false:=by
      rw [List.any_eq_false]
      intro z hz
      obtain ⟨k,hk,rfl⟩:=List.getElem_of_mem hz
      simp only [List.length_take] at hk
      have:=h3 k (n.Nodes.take j)[k] (by omega) (by rw [List.getElem_take]; exact List.getElem?_eq_getElem (by omega))
      rw [this]; simp
     rw [this]; simp
   · have hji:j < i:=by
      rcases Nat.lt_trichotomy j i with h | h | h
      · exact h
      · exact (hj h).elim
      · have:=h3 i x h hx
        simp at this
     have:((n.Nodes.take i).any fun y=>y.toList==x.toList)=true:=List.any_eq_true.2 ⟨y,by
      have:(n.Nodes.take i)[j]?=some y:=by rw [List.getElem?_take,if_pos hji]; exact h1
      exact List.mem_of_getElem? this,h2⟩
     rw [this]
     simp; omega
theorem p_l2Fiber (f:TFiber) (m:Nat) (hm:m≤8) (hm2:2≤m):M_eb f (m:Int)=some (!fib1 m f):=by
 unfold M_eb fib1
 simp only [p_l1In,Option.bind_some]
 rw [w64_eq (n:=(m:Int) - 1) (by omega) (by omega)]
 rcases bt (wi f.A 0 ((m:Int) - 1)) with h1 | h1
 · have h2:=wi_iff.1 h1
   rw [w64_eq (n:=f.A+1) (by omega) (by omega)]
   rcases bt (wi f.B (f.A+1) ((m:Int) - 1)) with h3 | h3
   · have h4:=wi_iff.1 h3
     have a1:decide (f.A < 0)=false:=by simp; omega
     have a2:decide (f.B≤f.A)=false:=by simp; omega
     have a3:decide ((m:Int)≤f.B)=false:=by simp; omega
     simp only [h1,h3,a1,a2,a3,cond_true,Bool.false_or]
     cases wi f.Length 1 5000 <;> cases wi f.Risk 0 9 <;> rfl
   · have h4:=wi_false.1 h3
     simp only [h1,h3,cond_true,cond_false]
     by_cases a2:f.B≤f.A
     · simp [a2]
     · have a3:(m:Int)≤f.B:=by omega
       simp [a3]
 · have h2:=wi_false.1 h1
   simp only [h1,cond_false]
   by_cases a1:f.A < 0
   · simp [a1]
   · by_cases a2:f.B≤f.A
     · simp [a2]
     · have a3:(m:Int)≤f.B:=by omega
       simp [a3]
structure FibOk (m:Int) (f:TFiber):Prop where
 a0:0≤f.A
 ab:f.A < f.B
 bm:f.B < m
 l1:1≤f.Length
 l2:f.Length≤5000
 r0:0≤f.Risk
 r9:f.Risk≤9
theorem fib1_ok {m:Nat} {f:TFiber} (h:fib1 m f=false):FibOk m f:=by
 unfold fib1 at h
 simp only [Bool.or_eq_false_iff,decide_eq_false_iff_not,Bool.not_eq_false',wi_iff] at h
 obtain ⟨⟨⟨⟨h1,h2⟩,h3⟩,h4,h5⟩,h6,h7⟩:=h
 exact ⟨by omega,by omega,by omega,h4,h5,h6,h7⟩
theorem p_before (f g:TFiber) (m:Nat) (hm:m≤8) (hf:FibOk m f) (hg:FibOk m g):∃ r,M_cb f g=some r∧decide (0 < r)=decide (0 < cmpF f g):=by
 obtain ⟨a1,a2,a3,a4,a5,a6,a7⟩:=hf
 obtain ⟨b1,b2,b3,b4,b5,b6,b7⟩:=hg
 have sgn:∀ x y:Int,decide (0 < x - y)=decide (0 < cmpI x y):=by
  intro x y
  unfold cmpI
  by_cases h:x < y
  · rw [if_pos h]; exact decide_eq_decide.2 (by omega)
  · rw [if_neg h]
    by_cases h2:y < x
    · rw [if_pos h2]; exact decide_eq_decide.2 (by omega)
    · rw [if_neg h2]; exact decide_eq_decide.2 (by omega)
 unfold M_cb cmpF
 rw [w64_eq (n:=f.A - g.A) (by omega) (by omega),w64_eq (n:=f.B - g.B) (by omega) (by omega),w64_eq (n:=f.Length - g.Length) (by omega) (by omega),w64_eq (n:=f.Risk - g.Risk) (by omega) (by omega)]
 by_cases h1:f.A=g.A
 · have e1:(f.A != g.A)=false:=by rw [h1]; simp
   by_cases h2:f.B=g.B
   · have e2:(f.B != g.B)=false:=by rw [h2]; simp
     by_cases h3:f.Length=g.Length
     · have e3:(f.Length != g.Length)=false:=by rw [h3]; simp
       exact ⟨f.Risk - g.Risk,by simp only [e1,e2,e3,cond_false],by simp only [h1,h2,h3,ne_eq,not_true,if_false]; exact sgn _ _⟩
     · have e3:(f.Length != g.Length)=true:=bne_iff_ne.2 h3
       exact ⟨f.Length - g.Length,by simp only [e1,e2,e3,cond_false,cond_true],by simp only [h1,h2,h3,ne_eq,not_true,not_false_eq_true,if_false,if_true]; exact sgn _ _⟩
   · have e2:(f.B != g.B)=true:=bne_iff_ne.2 h2
     exact ⟨f.B - g.B,by simp only [e1,e2,cond_false,cond_true],by simp only [h1,h2,ne_eq,not_true,not_false_eq_true,if_false,if_true]; exact sgn _ _⟩
 · have e1:(f.A != g.A)=true:=bne_iff_ne.2 h1
   exact ⟨f.A - g.A,by simp only [e1,cond_true],by simp only [h1,ne_eq,not_false_eq_true,if_true]; exact sgn _ _⟩
theorem p_l2Good (n:TNetwork) (hz:z_Network n≤1048576):M_cg n=some (netOk n):=by
 obtain ⟨z1,z2,z3⟩:=z_net hz
 unfold M_cg netOk
 simp only [p_l1In,Option.bind_some]
 rcases bt (wi n.Nodes.length 2 8) with hw | hw
 · have hw2:=wi_iff.1 hw
   have e:decide (14 < (n.Fibers.length:Int))=!decide (n.Fibers.length≤14):=by
    rw [← decide_not]; exact decide_eq_decide.2 (by omega)
   simp only [hw,e,Bool.not_true,cond_false,Option.bind_some,Bool.and_true]
   rcases bt (decide (n.Fibers.length≤14)) with h14 | h14
   · simp only [h14,Bool.not_true,cond_false,Bool.and_true]
     rw [iter_anyI (f:=M_at n) n.Nodes (nodeBad n) (.inr false) (.inl ()) (fun i x hx _=>by
      have hlt:=(List.getElem?_eq_some_iff.1 hx).1
      have e1:decide ((i:Int) < n.Nodes.length)=true:=by simp [hlt]
      simp only [M_at,e1,cond_true,geti_nat,hx,Option.bind_some,p_l2Name x (z3 x (List.mem_of_getElem? hx)),p_l2Find n.Nodes x z1,find_dup n i x hx,nodeBad]
      rw [w64_eq (by omega) (by omega)]
      rcases bt (nameB x) with e | e <;> rcases bt ((n.Nodes.take i).any (fun y=>y.toList==x.toList)) with e' | e' <;> simp only [e,e'] <;> rfl) (by simp [M_at]) (by omega)]
     rcases bt (anyI (nodeBad n) n.Nodes) with hN | hN
     · simp [hN]
     · simp only [hN,Bool.false_eq_true,if_false,Option.bind_some,Bool.not_false,Bool.true_and]
       rw [iter_anyI (f:=M_au n) n.Fibers (fibBad n) (.inr false) (.inl ()) (fun i x hx hprev=>by
        have hlt:=(List.getElem?_eq_some_iff.1 hx).1
        have e1:decide ((i:Int) < n.Fibers.length)=true:=by simp [hlt]
        simp only [M_au,e1,cond_true,geti_nat,hx,Option.bind_some,p_l2Fiber x n.Nodes.length (by omega) (by omega),Bool.not_not]
        rw [w64_eq (n:=(i:Int)+1) (by omega) (by omega)]
        unfold fibBad
        rcases bt (fib1 n.Nodes.length x) with h1 | h1
        · simp [h1]
        · simp only [h1,cond_false,Bool.false_or]
          by_cases hi:0 < i
          · have hi':decide ((0:Int) < (i:Int))=true:=by simp [hi]
            have hp:n.Fibers[i - 1]?=some n.Fibers[i - 1]:=List.getElem?_eq_getElem (by omega)
            have hw:IntKind.wrap .i64 ((i:Int) - 1)=((i - 1:Nat):Int):=by rw [w64_eq (by omega) (by omega)]; omega
            have hb:=hprev (i - 1) n.Fibers[i - 1] (by omega) hp
            unfold fibBad at hb
            simp only [Bool.or_eq_false_iff] at hb
            obtain ⟨r,r1,r2⟩:=p_before n.Fibers[i - 1] x n.Nodes.length (by omega) (fib1_ok hb.1) (fib1_ok h1)
            simp only [hi',cond_true,hw,geti_nat,hp,Option.bind_some,r1,r2,hi,decide_true,Bool.true_and]
            cases decide (0 < cmpF n.Fibers[i - 1] x) <;> rfl
          · have hi':decide ((0:Int) < (i:Int))=false:=by simp; omega
            simp [hi',hi]) (by simp [M_au]) (by omega)]
       cases anyI (fibBad n) n.Fibers <;> rfl
   · simp [h14]
 · simp [hw]
end Vs

namespace Vs
open Go
def otherP (f:TFiber) (v:Int):Int:=if v=f.A then f.B else if v=f.B then f.A else -1
def othI (n:TNetwork) (e v:Int):Int:=match n.Fibers[e.toNat]? with | some f=>otherP f v | none=>-1
def badE (n:TNetwork) (ring:List Int) (i:Nat) (e:Int):Bool:=!wi e 0 ((n.Fibers.length:Int) - 1)||(ring.take i).any fun x=>x==e
def stS (n:TNetwork) (ring:List Int) (i:Nat) (e:Int) (p:Int×List Int):(Int×List Int) ⊕ ((Int×List Int) ⊕ (List Int×Bool)) :=
 if badE n ring i e||p.2.any (·==p.1) then .inr (.inr (p.2,false)) else if othI n e p.1 < 0 then .inr (.inr (p.2++[p.1],false)) else .inl (othI n e p.1,p.2++[p.1])
def stI (n:TNetwork) (ring:List Int) (i:Nat) (e:Int) (p:Int×List Int):(Int×List Int) ⊕ ((Int×List Int) ⊕ (List Int×Int×Bool)) :=
 if badE n ring i e then .inr (.inr ([],0,false)) else if othI n e p.1 < 0 then .inr (.inr ([],0,false)) else .inl (othI n e p.1,p.2++[p.1])
def wkS (n:TNetwork) (ring:List Int) (i:Nat) (ys:List Int) (p:Int×List Int):=walkL (stS n ring) (fun a=>.inl a) i ys p
def wkI (n:TNetwork) (ring:List Int) (i:Nat) (ys:List Int) (p:Int×List Int):=walkL (stI n ring) (fun a=>.inl a) i ys p
theorem wkI_pre (n:TNetwork) (ring:List Int):∀ (ys:List Int) (i:Nat) (p q:Int×List Int),wkI n ring i ys p=.inl q→∃ t,q.2=p.2++t
 | [], _, p, q, h => by
   unfold wkI walkL at h
   cases h; exact ⟨[],by simp⟩
 | e :: ys, i, p, q, h => by
   unfold wkI at h
   rw [walkL] at h
   unfold stI at h
   split at h
   · rename_i a he
     split at he
     · cases he
     · split at he
       · cases he
       · cases he
         obtain ⟨t,ht⟩:=wkI_pre n ring ys (i+1) _ q h
         exact ⟨[p.1]++t,by rw [ht]; simp⟩
   · rename_i b he
     split at he
     · cases he; cases h
     · split at he
       · cases he; cases h
       · cases he
theorem wk_iff (n:TNetwork) (ring:List Int):∀ (ys:List Int) (i:Nat) (p q:Int×List Int),p.2.Nodup→(wkS n ring i ys p=.inl q↔wkI n ring i ys p=.inl q∧q.2.Nodup)
 | [], i, p, q, hp => by
   unfold wkS wkI walkL
   constructor
   · intro h; cases h; exact ⟨rfl,hp⟩
   · rintro ⟨h,_⟩; cases h; rfl
 | e :: ys, i, p, q, hp => by
   have eS:wkS n ring i (e::ys) p=match stS n ring i e p with | .inl a=>wkS n ring (i+1) ys a | .inr b=>b:=by
    unfold wkS; rw [walkL]; cases stS n ring i e p <;> rfl
   have eI:wkI n ring i (e::ys) p=match stI n ring i e p with | .inl a=>wkI n ring (i+1) ys a | .inr b=>b:=by
    unfold wkI; rw [walkL]; cases stI n ring i e p <;> rfl
   rw [eS,eI]
   unfold stS stI
   by_cases hb:badE n ring i e=true
   · simp [hb]
   · by_cases ho:othI n e p.1 < 0
     · by_cases hv:p.2.any (·==p.1)=true <;> simp [hb,ho,hv]
     · by_cases hv:p.2.any (·==p.1)=true
       · have hm:p.1∈p.2:=by
          obtain ⟨x,hx,hxe⟩:=List.any_eq_true.1 hv
          rw [← eq_of_beq hxe]; exact hx
         simp only [hb,ho,hv,Bool.or_true,if_true,if_false,Bool.false_eq_true]
         constructor
         · intro h; cases h
         · rintro ⟨h,hq⟩
           obtain ⟨t,ht⟩:=wkI_pre n ring ys (i+1) _ q h
           rw [ht] at hq
           have h1:=(List.nodup_append.1 hq).1
           have h2:=(List.nodup_append.1 h1).2.2
           exact (h2 p.1 hm p.1 (by simp) rfl).elim
       · have hm:p.1 ∉ p.2:=fun h=>hv (List.any_eq_true.2 ⟨p.1,h,by simp⟩)
         simp only [hb,ho,hv,Bool.or_self,if_false,Bool.false_eq_true]
         exact wk_iff n ring ys (i+1) _ q (List.nodup_append.2 ⟨hp,by simp,fun a ha b hb'=>by
          simp only [List.mem_singleton] at hb'
          subst hb'
          intro e; subst e; exact hm ha⟩)
end Vs

namespace Vs
open Go
theorem p_l1Has (l:List Int) (x:Int) (hl:l.length≤1048576):M_g l x=some (l.any fun y=>y==x):=by
 unfold M_g
 rw [iter_any (f:=M_av l x) l (fun y=>y==x) (.inr true) (.inl ()) (fun i y hy=>by
  have hlt:=(List.getElem?_eq_some_iff.1 hy).1
  have h1:decide ((i:Int) < l.length)=true:=by simp [hlt]
  simp only [M_av,h1,cond_true,geti_nat,hy,Option.bind_some]
  rw [w64_eq (by omega) (by omega)]
  cases y==x <;> rfl) (by simp [M_av]) (by omega)]
 cases l.any fun y=>y==x <;> rfl
theorem geti_fib {n:TNetwork} {e:Int} (h:wi e 0 ((n.Fibers.length:Int) - 1)=true):∃ f,geti n.Fibers e=some f∧n.Fibers[e.toNat]?=some f:=by
 rw [wi_iff] at h
 have hlt:e.toNat < n.Fibers.length:=by omega
 refine ⟨n.Fibers[e.toNat],?_,List.getElem?_eq_getElem hlt⟩
 have h3:=geti_nat n.Fibers e.toNat
 rw [Int.toNat_of_nonneg h.1] at h3
 rw [h3]
 exact List.getElem?_eq_getElem hlt
theorem p_l2Other (n:TNetwork) (e v:Int) (h:wi e 0 ((n.Fibers.length:Int) - 1)=true):M_bz n e v=some (othI n e v):=by
 obtain ⟨f,h1,h2⟩:=geti_fib h
 unfold M_bz othI otherP
 rw [h1,h2]
 simp only [Option.bind_some]
 by_cases a:v=f.A
 · rw [show (v==f.A)=true from by simpa using a,cond_true,if_pos a]
 · rw [show (v==f.A)=false from by simpa using a,cond_false,if_neg a]
   by_cases b:v=f.B
   · rw [show (v==f.B)=true from by simpa using b,cond_true,if_pos b]
   · rw [show (v==f.B)=false from by simpa using b,cond_false,if_neg b]
theorem p_walkL (n:TNetwork) (ring:List Int) (fr:Int) (hF:n.Fibers.length≤1048576) (hr:ring.length≤1048576):iter (M_y n ring) N0 (fr,0,[])=some (wkS n ring 0 ring (fr,[])):=by
 refine iter_list (f:=M_y n ring) ring (fun i (p:Int×List Int)=>(p.1,(i:Int),p.2)) (stS n ring) (fun a=>.inl a) (fun i p=>p.2.length=i) (fun i p e he hI=>?_) (fun p hI=>by simp [M_y]) (fr,[]) rfl (by omega)
 have hlt:=(List.getElem?_eq_some_iff.1 he).1
 have h1:decide ((i:Int) < ring.length)=true:=by simp [hlt]
 have hf:M_y n ring (p.1,(i:Int),p.2)=some (match stS n ring i e p with | .inl a=>.inl (a.1,((i+1:Nat):Int),a.2) | .inr b=>.inr b):=by
  simp only [M_y,h1,cond_true,geti_nat,he,Option.bind_some,p_l1In,slT_nat ring i (by omega),p_l1Has (ring.take i) e (by simp; omega),p_l1Has p.2 p.1 (by omega),w64_eq (n:=(n.Fibers.length:Int) - 1) (by omega) (by omega),w64_eq (n:=(i:Int)+1) (by omega) (by omega),bnd]
  unfold stS badE
  rcases bt (wi e 0 ((n.Fibers.length:Int) - 1)) with e1 | e1
  · rcases bt ((ring.take i).any fun x=>x==e) with e2 | e2
    · simp [e1,e2]
    · rcases bt (p.2.any fun y=>y==p.1) with e3 | e3
      · simp [e1,e2,e3]
      · simp only [e1,e2,e3,Bool.not_true,cond_false,Option.bind_some,Bool.or_self,Bool.false_eq_true,if_false,p_l2Other n e p.1 e1]
        rw [grd_t (by omega)]
        by_cases h3:othI n e p.1 < 0
        · simp [h3]
        · simp [h3]
  · simp [e1]
 cases hs:stS n ring i e p with
 | inl a =>
   left
   rw [hs] at hf
   refine ⟨a,rfl,?_,hf⟩
   unfold stS at hs
   split at hs
   · cases hs
   · split at hs
     · cases hs
     · cases hs; simp [hI]
 | inr b =>
   right
   rw [hs] at hf
   exact ⟨b,rfl,hf⟩
end Vs

namespace Vs
open Go
theorem p_ContI (xs:List Int) (v:Int) (hl:xs.length≤1048576):M_bh xs v=some (decide (v∈xs)):=by
 unfold M_bh M_eq
 rw [iter_findI (f:=M_am xs v) xs (fun _ x=>v==x) (fun i _=>(i:Int)) () (fun i x hx _=>by
  have hlt:=(List.getElem?_eq_some_iff.1 hx).1
  have h1:decide ((i:Int) < xs.length)=true:=by simp [hlt]
  simp only [M_am,h1,cond_true,geti_nat,hx,Option.bind_some]
  rw [w64_eq (by omega) (by omega)]
  cases v==x <;> rfl) (by simp [M_am]) (by omega)]
 cases e:findI (fun _ x=>v==x) xs with
 | none =>
   have:=findI_none.1 e
   have h:¬ v∈xs:=fun hm=>by
    obtain ⟨i,hi⟩:=List.getElem?_of_mem hm
    have:=this i v hi
    simp at this
   rw [decide_eq_false h]; rfl
 | some q =>
   obtain ⟨i,x⟩:=q
   obtain ⟨h1,h2,_⟩:=findI_some.1 e
   have h:v∈xs:=by
    have:=eq_of_beq h2
    rw [this]; exact List.mem_of_getElem? h1
   rw [decide_eq_true h]; simp
theorem p_otherEnd (f:TFiber) (v:Int):M_bv f v=some (otherP f v):=by
 unfold M_bv otherP
 by_cases a:v=f.A
 · rw [show (v==f.A)=true from by simpa using a,cond_true,if_pos a]
 · rw [show (v==f.A)=false from by simpa using a,cond_false,if_neg a]
   by_cases b:v=f.B
   · rw [show (v==f.B)=true from by simpa using b,cond_true,if_pos b]
   · rw [show (v==f.B)=false from by simpa using b,cond_false,if_neg b]
theorem any_mem (l:List Int) (e:Int):decide (e∈l)=l.any fun x=>x==e:=by
 rw [Bool.eq_iff_iff,decide_eq_true_iff,List.any_eq_true]
 constructor
 · intro h; exact ⟨e,h,by simp⟩
 · rintro ⟨x,hx,he⟩; rw [← eq_of_beq he]; exact hx
theorem p_followL (n:TNetwork) (ring:List Int) (fr:Int) (hF:n.Fibers.length≤1048576) (hr:ring.length≤1048576):iter (M_v n ring) N0 (fr,0,[])=some (wkI n ring 0 ring (fr,[])):=by
 refine iter_list (f:=M_v n ring) ring (fun i (p:Int×List Int)=>(p.1,(i:Int),p.2)) (stI n ring) (fun a=>.inl a) (fun i p=>p.2.length=i) (fun i p e he hI=>?_) (fun p hI=>by simp [M_v]) (fr,[]) rfl (by omega)
 have hlt:=(List.getElem?_eq_some_iff.1 he).1
 have h1:decide ((i:Int) < ring.length)=true:=by simp [hlt]
 have hf:M_v n ring (p.1,(i:Int),p.2)=some (match stI n ring i e p with | .inl a=>.inl (a.1,((i+1:Nat):Int),a.2) | .inr b=>.inr b):=by
  simp only [M_v,h1,cond_true,geti_nat,he,Option.bind_some,p_within,slT_nat ring i (by omega),p_ContI (ring.take i) e (by simp; omega),w64_eq (n:=(n.Fibers.length:Int) - 1) (by omega) (by omega),w64_eq (n:=(i:Int)+1) (by omega) (by omega),bnd,any_mem]
  unfold stI badE
  rcases bt (wi e 0 ((n.Fibers.length:Int) - 1)) with e1 | e1
  · rcases bt ((ring.take i).any fun x=>x==e) with e2 | e2
    · simp [e1,e2]
    · obtain ⟨f,g1,g2⟩:=geti_fib e1
      have ho:othI n e p.1=otherP f p.1:=by unfold othI; rw [g2]
      simp only [e1,e2,Bool.not_true,cond_false,Option.bind_some,Bool.or_self,Bool.false_eq_true,if_false,g1,p_otherEnd,ho]
      rw [grd_t (by omega)]
      by_cases h3:otherP f p.1 < 0
      · simp [h3]
      · simp [h3]
  · simp [e1]
 cases hs:stI n ring i e p with
 | inl a =>
   left
   rw [hs] at hf
   refine ⟨a,rfl,?_,hf⟩
   unfold stI at hs
   split at hs
   · cases hs
   · split at hs
     · cases hs
     · cases hs; simp [hI]
 | inr b =>
   right
   rw [hs] at hf
   exact ⟨b,rfl,hf⟩
end Vs

namespace Vs
open Go
theorem netOk_bR {n:TNetwork} (h:netOk n=true):2≤n.Nodes.length∧n.Nodes.length≤8∧n.Fibers.length≤14:=by
 unfold netOk at h
 simp only [Bool.and_eq_true,decide_eq_true_eq,wi_iff] at h
 omega
theorem netOk_fibR {n:TNetwork} (h:netOk n=true) {i:Nat} {f:TFiber} (hf:n.Fibers[i]?=some f):FibOk n.Nodes.length f:=by
 unfold netOk at h
 simp only [Bool.and_eq_true,Bool.not_eq_true'] at h
 have:=anyI_false.1 h.1.1.2 i f hf
 unfold fibBad at this
 simp only [Bool.or_eq_false_iff] at this
 exact fib1_ok this.1
theorem wkS_cons (n:TNetwork) (ring:List Int) (i:Nat) (e:Int) (ys:List Int) (p:Int×List Int):wkS n ring i (e::ys) p=match stS n ring i e p with | .inl a=>wkS n ring (i+1) ys a | .inr b=>b:=by
 unfold wkS; rw [walkL]; cases stS n ring i e p <;> rfl
theorem wkI_cons (n:TNetwork) (ring:List Int) (i:Nat) (e:Int) (ys:List Int) (p:Int×List Int):wkI n ring i (e::ys) p=match stI n ring i e p with | .inl a=>wkI n ring (i+1) ys a | .inr b=>b:=by
 unfold wkI; rw [walkL]; cases stI n ring i e p <;> rfl
theorem wkS_bad (n:TNetwork) (ring:List Int):∀ (ys:List Int) (i:Nat) (p:Int×List Int) (x:List Int×Bool),wkS n ring i ys p=.inr x→x.2=false
 | [],i,p,x,h=>by unfold wkS walkL at h; cases h
 | e :: ys, i, p, x, h => by
   rw [wkS_cons] at h
   unfold stS at h
   by_cases h1:(badE n ring i e||p.2.any (·==p.1))=true
   · rw [if_pos h1] at h; cases h; rfl
   · rw [if_neg h1] at h
     by_cases h2:othI n e p.1 < 0
     · rw [if_pos h2] at h; cases h; rfl
     · rw [if_neg h2] at h; exact wkS_bad n ring ys (i+1) _ x h
theorem wkI_bad (n:TNetwork) (ring:List Int):∀ (ys:List Int) (i:Nat) (p:Int×List Int) (x:List Int×Int×Bool),wkI n ring i ys p=.inr x→x=([],0,false)
 | [],i,p,x,h=>by unfold wkI walkL at h; cases h
 | e :: ys, i, p, x, h => by
   rw [wkI_cons] at h
   unfold stI at h
   by_cases h1:badE n ring i e=true
   · rw [if_pos h1] at h; cases h; rfl
   · rw [if_neg h1] at h
     by_cases h2:othI n e p.1 < 0
     · rw [if_pos h2] at h; cases h; rfl
     · rw [if_neg h2] at h; exact wkI_bad n ring ys (i+1) _ x h
theorem wkI_ok (n:TNetwork) (ring:List Int):∀ (ys:List Int) (i:Nat) (p q:Int×List Int),wkI n ring i ys p=.inl q→∀ j e,ys[j]?=some e→badE n ring (i+j) e=false
 | [],i,p,q,_,j,e,h=>by simp at h
 | y :: ys, i, p, q, h, j, e, hj => by
   rw [wkI_cons] at h
   unfold stI at h
   by_cases h1:badE n ring i y=true
   · rw [if_pos h1] at h; cases h
   · rw [if_neg h1] at h
     by_cases h2:othI n y p.1 < 0
     · rw [if_pos h2] at h; cases h
     · rw [if_neg h2] at h
       cases j with
       | zero=>simp at hj; subst hj; simpa using h1
       | succ j =>
         have:=wkI_ok n ring ys (i+1) _ q h j e (by simpa using hj)
         rw [show i+(j+1)=i+1+j by omega]; exact this
theorem badE_wi {n:TNetwork} {ring:List Int} {i:Nat} {e:Int} (h:badE n ring i e=false):wi e 0 ((n.Fibers.length:Int) - 1)=true∧e ∉ ring.take i:=by
 unfold badE at h
 simp only [Bool.or_eq_false_iff,Bool.not_eq_false'] at h
 refine ⟨h.1,fun hm=>?_⟩
 have:=h.2
 rw [← any_mem] at this
 simp [hm] at this
theorem nodup_of {xs:List Int} (h:∀ j e,xs[j]?=some e→e ∉ xs.take j):xs.Nodup:=by
 rw [List.nodup_iff_pairwise_ne,List.pairwise_iff_getElem]
 intro i j hi hj hij e
 refine h j xs[j] (List.getElem?_eq_getElem hj) ?_
 rw [← e]
 have h2:(xs.take j)[i]?=some xs[i]:=by rw [List.getElem?_take,if_pos hij]; exact List.getElem?_eq_getElem hi
 exact List.mem_of_getElem? h2
theorem nodup_take {xs:List Int} (h:xs.Nodup) {j:Nat} {e:Int} (hj:xs[j]?=some e):e ∉ xs.take j:=by
 intro hm
 obtain ⟨i,hi⟩:=List.getElem?_of_mem hm
 rw [List.getElem?_take] at hi
 split at hi
 · rename_i hij
   obtain ⟨h1,h2⟩:=List.getElem?_eq_some_iff.1 hi
   obtain ⟨h3,h4⟩:=List.getElem?_eq_some_iff.1 hj
   have:=(List.pairwise_iff_getElem.1 (List.nodup_iff_pairwise_ne.1 h)) i j h1 h3 hij
   exact this (h2.trans h4.symm)
 · cases hi
theorem wkI_nodup {n:TNetwork} {ring:List Int} {p q:Int×List Int} (h:wkI n ring 0 ring p=.inl q):ring.Nodup :=
 nodup_of fun j e hj=>by
  have:=wkI_ok n ring ring 0 p q h j e hj
  rw [Nat.zero_add] at this
  exact (badE_wi this).2
theorem wkI_two {n:TNetwork} {ring:List Int} {e0 e1:Int} {t:List Int} (hr:ring=e0::e1::t) {v:Int} {q:Int×List Int} (h:wkI n ring 0 ring (v,[])=.inl q) :
 wi e0 0 ((n.Fibers.length:Int) - 1)=true∧0≤othI n e0 v∧∃ s,q.2=v::othI n e0 v::s:=by
 have hb:=wkI_ok n ring ring 0 _ q h 0 e0 (by rw [hr]; rfl)
 have h1:=h
 conv at h1=>lhs; arg 4; rw [hr]
 rw [wkI_cons] at h1
 unfold stI at h1
 rw [if_neg (by rw [hb]; simp)] at h1
 by_cases h2:othI n e0 v < 0
 · rw [if_pos h2] at h1; cases h1
 · rw [if_neg h2] at h1
   simp only at h1
   rw [wkI_cons] at h1
   unfold stI at h1
   by_cases h3:badE n ring (0+1) e1=true
   · rw [if_pos h3] at h1; cases h1
   · rw [if_neg h3] at h1
     simp only at h1
     by_cases h4:othI n e1 (othI n e0 v) < 0
     · rw [if_pos h4] at h1; cases h1
     · rw [if_neg h4] at h1
       obtain ⟨s,hs⟩:=wkI_pre n ring t _ _ q h1
       exact ⟨(badE_wi hb).1,by omega,s,by rw [hs]; simp⟩
def startA (n:TNetwork) (ring:List Int):Int:=match ring[0]? with
 | some e => match n.Fibers[e.toNat]? with
   | some f=>f.A
   | none=>-1
 | none=>-1
def difB (a b:List Int):Option (Nat×Int×Int):=findI (fun _ q=>q.1 != q.2) (a.zip b)
def lexB (a b:List Int):Bool:=match difB a b with
 | some q=>decide (q.2.1 < q.2.2)
 | none=>false
def ringP (n:TNetwork) (ring:List Int):Option (List Int):=if 2≤ring.length then (match wkI n ring 0 ring (startA n ring,[]) with
 | .inl q=>if q.1=startA n ring∧q.2.Nodup∧(∀ x∈q.2,startA n ring≤x)∧lexB ring ring.reverse=true then some q.2 else none
 | .inr _=>none) else none
def okS (n:TNetwork) (ring:List Int) (v:Int):Bool:=match wkS n ring 0 ring (v,[]) with
 | .inl q=>decide (q.1=v)&&decide (1 < ring.length)
 | .inr _=>false
def ndS (n:TNetwork) (ring:List Int) (v:Int):List Int:=match wkS n ring 0 ring (v,[]) with
 | .inl q=>q.2
 | .inr x=>x.1
theorem okS_iff {n:TNetwork} {ring:List Int} {v:Int}:okS n ring v=true↔wkI n ring 0 ring (v,[])=.inl (v,ndS n ring v)∧(ndS n ring v).Nodup∧2≤ring.length:=by
 unfold okS ndS
 cases h:wkS n ring 0 ring (v,[]) with
 | inl q =>
   obtain ⟨h1,h2⟩:=(wk_iff n ring ring 0 (v,[]) q List.nodup_nil).1 h
   simp only [Bool.and_eq_true,decide_eq_true_eq]
   constructor
   · rintro ⟨rfl,h4⟩; exact ⟨h1,h2,h4⟩
   · rintro ⟨h3,_,h4⟩
     rw [h1] at h3
     have h5:=congrArg Prod.fst (Sum.inl.inj h3)
     exact ⟨h5,by omega⟩
 | inr x =>
   simp only [Bool.false_eq_true,false_iff]
   rintro ⟨h3,h4,_⟩
   have:=(wk_iff n ring ring 0 (v,[]) (v,x.1) List.nodup_nil).2 ⟨h3,h4⟩
   rw [h] at this; cases this
theorem difB_swap (a b:List Int):difB b a=(difB a b).map fun q=>(q.1,q.2.2,q.2.1):=by
 unfold difB
 have z:∀ (i:Nat) (x:Int×Int),(b.zip a)[i]?=some x↔(a.zip b)[i]?=some (x.2,x.1):=by
  intro i x
  rw [List.getElem?_zip_eq_some,List.getElem?_zip_eq_some]; exact And.comm
 cases h:findI (fun _ q=>q.1 != q.2) (a.zip b) with
 | none =>
   have:=findI_none.1 h
   simp only [Option.map_none]
   rw [findI_none]
   intro i x hx
   have:=this i _ ((z i x).1 hx)
   simp only [bne_eq_false_iff_eq] at this ⊢
   exact this.symm
 | some q =>
   obtain ⟨i,u,v⟩:=q
   obtain ⟨h1,h2,h3⟩:=findI_some.1 h
   simp only [Option.map_some]
   rw [findI_some]
   refine ⟨(z i (v,u)).2 h1,?_,fun j y hj hy=>?_⟩
   · simp only [bne_iff_ne,ne_eq] at h2 ⊢; exact fun e=>h2 e.symm
   · have:=h3 j _ hj ((z j y).1 hy)
     simp only [bne_eq_false_iff_eq] at this ⊢
     exact this.symm
theorem lexB_swap {a b:List Int} (h:(difB a b).isSome=true):lexB a b=!lexB b a:=by
 unfold lexB
 rw [difB_swap a b]
 cases hd:difB a b with
 | none=>rw [hd] at h; cases h
 | some q =>
   obtain ⟨h1,h2,h3⟩:=findI_some.1 (show findI (fun _ q=>q.1 != q.2) (a.zip b)=some (q.1,q.2) from hd)
   simp only [bne_iff_ne,ne_eq] at h2
   simp only [Option.map_some]
   rw [← decide_not]
   exact decide_eq_decide.2 (by omega)
theorem dif_rev {ring:List Int} (h:ring.Nodup) (hl:2≤ring.length):(difB ring ring.reverse).isSome=true:=by
 cases hd:difB ring ring.reverse with
 | some q=>rfl
 | none =>
   exfalso
   have h0:0 < ring.length:=by omega
   have hz:(ring.zip ring.reverse)[0]?=some (ring[0],ring[ring.length - 1]):=by
    rw [List.getElem?_zip_eq_some]
    refine ⟨List.getElem?_eq_getElem h0,?_⟩
    rw [List.getElem?_reverse h0,Nat.sub_zero]
    exact List.getElem?_eq_getElem (by omega)
   have:=findI_none.1 (show findI (fun _ q=>q.1 != q.2) (ring.zip ring.reverse)=none from hd) 0 _ hz
   simp only [bne_eq_false_iff_eq] at this
   exact (List.pairwise_iff_getElem.1 (List.nodup_iff_pairwise_ne.1 h)) 0 (ring.length - 1) h0 (by omega) (by omega) this
theorem start_two {n:TNetwork} (hn:netOk n=true) {ring:List Int} {v:Int} (h:okS n ring v=true):∃ e0 f,ring[0]?=some e0∧n.Fibers[e0.toNat]?=some f∧startA n ring=f.A∧FibOk n.Nodes.length f∧(v=f.A∨v=f.B) ∧
 ∃ s,ndS n ring v=v::otherP f v::s:=by
 obtain ⟨h1,h2,h3⟩:=okS_iff.1 h
 match hr:ring,h3 with
 | e0 :: e1 :: t, _ =>
   rw [← hr] at h1
   obtain ⟨g1,g2,s,g3⟩:=wkI_two hr h1
   obtain ⟨f,_,g4⟩:=geti_fib g1
   have g5:=netOk_fibR hn g4
   refine ⟨e0,f,rfl,g4,?_,g5,?_,s,?_⟩
   · unfold startA
     simp only [List.getElem?_cons_zero,g4]
   · unfold othI otherP at g2
     rw [g4] at g2
     simp only at g2
     by_cases a:v=f.A
     · exact .inl a
     · rw [if_neg a] at g2
       by_cases b:v=f.B
       · exact .inr b
       · rw [if_neg b] at g2; omega
   · rw [← hr]
     have e:othI n e0 v=otherP f v:=by unfold othI; rw [g4]
     rw [← e]; exact g3
theorem ringP_some {n:TNetwork} {ring l:List Int}:ringP n ring=some l↔okS n ring (startA n ring)=true∧ndS n ring (startA n ring)=l∧(∀ x∈l,startA n ring≤x)∧lexB ring ring.reverse=true:=by
 unfold ringP
 constructor
 · intro h
   split at h
   · rename_i h2
     split at h
     · rename_i q hq
       split at h
       · rename_i hc
         cases h
         obtain ⟨c1,c2,c3,c4⟩:=hc
         have hS:=(wk_iff n ring ring 0 (startA n ring,[]) q List.nodup_nil).2 ⟨hq,c2⟩
         refine ⟨?_,?_,c3,c4⟩
         · unfold okS; rw [hS]; simp only [Bool.and_eq_true,decide_eq_true_eq]; exact ⟨c1,by omega⟩
         · unfold ndS; rw [hS]
       · cases h
     · cases h
   · cases h
 · rintro ⟨h1,rfl,h3,h4⟩
   obtain ⟨g1,g2,g3⟩:=okS_iff.1 h1
   rw [if_pos g3,g1]
   simp only
   rw [if_pos (by exact ⟨by simp,g2,h3,h4⟩)]
end Vs

namespace Vs
open Go
theorem p_l17Walk (n:TNetwork) (ring:List Int) (v:Int) (hF:n.Fibers.length≤1048576) (hr:ring.length≤1048576):M_cw n ring v=some (ndS n ring v,okS n ring v):=by
 unfold M_cw
 rw [p_walkL n ring v hF hr]
 unfold ndS okS
 cases h:wkS n ring 0 ring (v,[]) with
 | inl q =>
   simp only [Option.bind_some]
   by_cases e:q.1=v
   · have e1:(q.1==v)=true:=by simpa using e
     have e2:decide (1 < (ring.length:Int))=decide (1 < ring.length):=decide_eq_decide.2 (by omega)
     simp [e,e2]
   · have e1:(q.1==v)=false:=by simpa using e
     simp [e,e1]
 | inr x =>
   have:=wkS_bad n ring ring 0 _ x h
   simp only [Option.bind_some]
   obtain ⟨x1,x2⟩:=x
   simp only at this; subst this; rfl
theorem walkL_all {α:Type} (p:α→Bool):∀ (xs:List α) (i:Nat) (a:Bool),walkL (fun _ x (a:Bool)=>(.inl (a&&p x):Bool ⊕ Bool)) (fun a=>a) i xs a=(a&&xs.all p)
 | [],i,a=>by simp [walkL]
 | x::xs,i,a=>by simp only [walkL]; rw [walkL_all p xs (i+1)]; simp [Bool.and_assoc]
theorem p_GoodL2 (v:Int) (r:List Int×Bool) (hl:r.1.length≤1048576):iter (M_r v r) N0 (true,0)=some (r.1.all fun y=>decide (v≤y)):=by
 have:=iter_list (f:=M_r v r) r.1 (fun i (a:Bool)=>(a,(i:Int))) (fun _ x a=>.inl (a&&decide (v≤x))) (fun a=>a) (fun _ _=>True) (fun i a x hx _=>by
  have hlt:=(List.getElem?_eq_some_iff.1 hx).1
  have h1:decide ((i:Int) < r.1.length)=true:=by simp [hlt]
  refine .inl ⟨_,rfl,trivial,?_⟩
  simp only [M_r,h1,cond_true]
  rw [w64_eq (by omega) (by omega)]
  cases a with
  | false=>rfl
  | true =>
    rw [cond_true,grd_t (by omega)]
    simp only [Option.bind_some,Int.toNat_natCast,hx,Bool.true_and]
    rfl) (fun a _=>by simp [M_r]) true trivial (by omega)
 rw [walkL_all] at this
 simpa using this
theorem walkL_push:∀ (xs:List Int) (i:Nat) (a:List Int),walkL (fun _ x (a:List Int)=>(.inl (a++[x]):List Int ⊕ List Int)) (fun a=>a) i xs a=a++xs
 | [],i,a=>by simp [walkL]
 | x::xs,i,a=>by simp only [walkL]; rw [walkL_push xs (i+1)]; simp
theorem p_l17Back (ring:List Int) (hr:ring.length≤1048576):M_by ring=some ring.reverse:=by
 unfold M_by
 rw [w64_eq (by omega) (by omega)]
 have:=iter_list (f:=M_aw ring) ring.reverse (fun i (a:List Int)=>((ring.length:Int) - 1 - (i:Int),a)) (fun _ x a=>.inl (a++[x])) (fun a=>a) (fun i a=>a.length=i) (fun i a x hx hI=>by
  have hlt:=(List.getElem?_eq_some_iff.1 hx).1
  rw [List.length_reverse] at hlt
  rw [List.getElem?_reverse hlt] at hx
  have h1:decide (0≤(ring.length:Int) - 1 - (i:Int))=true:=decide_eq_true (by omega)
  refine .inl ⟨_,rfl,by simp [hI],?_⟩
  have e:(ring.length:Int) - 1 - (i:Int)=((ring.length - 1 - i:Nat):Int):=by omega
  rw [e] at h1
  simp only [M_aw,h1,cond_true,e,geti_nat,hx,Option.bind_some,bnd]
  rw [grd_t (by omega),w64_eq (by omega) (by omega)]
  simp only [Option.bind_some]
  rw [show ((ring.length - 1 - i:Nat):Int) - 1=(ring.length:Int) - 1 - ((i+1:Nat):Int) by omega]) (fun a _=>by
  have h1:decide (0≤(ring.length:Int) - 1 - (ring.reverse.length:Int))=false:=decide_eq_false (by rw [List.length_reverse]; omega)
  simp only [M_aw,h1,cond_false]) [] rfl (by rw [List.length_reverse]; omega)
 rw [walkL_push] at this
 have e:(ring.length:Int) - 1 - ((0:Nat):Int)=(ring.length:Int) - 1:=by omega
 rw [e] at this
 rw [this]; rfl
theorem zip_len {a b:List Int} (h:a.length=b.length):(a.zip b).length=a.length:=by simp [h]
theorem p_l17Less (a b:List Int) (h:a.length=b.length) (hl:a.length≤1048576):M_br a b=some (lexB a b):=by
 unfold M_br
 have e:((a.length:Int) != (b.length:Int))=false:=by rw [h]; simp
 rw [e,cond_false]
 rw [iter_findI (f:=M_ax a b) (a.zip b) (fun _ q=>q.1 != q.2) (fun _ q=>decide (q.1 < q.2)) () (fun i q hq _=>by
  obtain ⟨h1,h2⟩:=List.getElem?_zip_eq_some.1 hq
  have hlt:=(List.getElem?_eq_some_iff.1 h1).1
  have h3:decide ((i:Int) < a.length)=true:=by simp [hlt]
  simp only [M_ax,h3,cond_true,geti_nat,h1,h2,Option.bind_some]
  rw [w64_eq (by omega) (by omega)]
  cases q.1 != q.2 <;> rfl) (by rw [zip_len h]; simp [M_ax]) (by rw [zip_len h]; omega)]
 unfold lexB difB
 cases findI (fun _ q=>q.1 != q.2) (a.zip b) <;> rfl
theorem p_CompareI (a b:List Int) (h:a.length=b.length) (hl:a.length≤1048576):∃ r,M_cd a b=some r∧decide (r < 0)=lexB a b:=by
 unfold M_cd
 rw [iter_findI (f:=M_w a b) (a.zip b) (fun _ q=>q.1 != q.2) (fun _ q=>cmpI q.1 q.2) () (fun i q hq _=>by
  obtain ⟨h1,h2⟩:=List.getElem?_zip_eq_some.1 hq
  have hlt:=(List.getElem?_eq_some_iff.1 h1).1
  have h3:decide ((i:Int) < a.length)=true:=by simp [hlt]
  have h4:decide ((b.length:Int)≤(i:Int))=false:=by simp; omega
  simp only [M_w,h3,h4,cond_true,cond_false,geti_nat,h1,h2,Option.bind_some,p_cmp]
  rw [w64_eq (by omega) (by omega)]
  by_cases e:q.1=q.2
  · have e1:(cmpI q.1 q.2 != 0)=false:=by rw [cmpI_zero.2 e]; rfl
    have e2:(q.1 != q.2)=false:=by rw [e]; simp
    rw [e1,e2]; rfl
  · have e1:(cmpI q.1 q.2 != 0)=true:=bne_iff_ne.2 fun e'=>e (cmpI_zero.1 e')
    have e2:(q.1 != q.2)=true:=bne_iff_ne.2 e
    rw [e1,e2]; rfl) (by rw [zip_len h]; simp [M_w]) (by rw [zip_len h]; omega)]
 unfold lexB difB
 cases hf:findI (fun _ q=>q.1 != q.2) (a.zip b) with
 | none =>
   have e:decide ((a.length:Int) < (b.length:Int))=false:=by rw [h]; simp
   exact ⟨0,by simp only [Option.bind_some,e,cond_false],rfl⟩
 | some q =>
   refine ⟨cmpI q.2.1 q.2.2,rfl,?_⟩
   unfold cmpI
   by_cases h1:q.2.1 < q.2.2
   · simp [h1]
   · by_cases h2:q.2.2 < q.2.1 <;> simp [h1,h2]
theorem nd_len {n:TNetwork} {ring:List Int} {v:Int} (hF:n.Fibers.length≤1048576) (hr:ring.length≤1048576) (h:okS n ring v=true):(ndS n ring v).length=ring.length:=by
 obtain ⟨h1,_,_⟩:=okS_iff.1 h
 have key:∀ (ys:List Int) (i:Nat) (p q:Int×List Int),wkI n ring i ys p=.inl q→q.2.length=p.2.length+ys.length:=by
  intro ys
  induction ys with
  | nil=>intro i p q h; unfold wkI walkL at h; cases h; simp
  | cons e ys ih =>
    intro i p q h
    rw [wkI_cons] at h
    unfold stI at h
    by_cases h1:badE n ring i e=true
    · rw [if_pos h1] at h; cases h
    · rw [if_neg h1] at h
      by_cases h2:othI n e p.1 < 0
      · rw [if_pos h2] at h; cases h
      · rw [if_neg h2] at h
        have:=ih (i+1) _ q h
        simp only [List.length_append,List.length_cons,List.length_nil] at this ⊢
        omega
 have:=key ring 0 _ _ h1
 simpa using this
theorem first_start {n:TNetwork} (hn:netOk n=true) {ring:List Int} {i:Nat} {x:ByteArray} (h:findI (fun i (_:ByteArray)=>okS n ring (i:Int)) n.Nodes=some (i,x)) :
 ((i:Int)=startA n ring∧okS n ring (startA n ring)=true)∨(okS n ring (startA n ring)=false∧¬ ∀ y∈ndS n ring (i:Int),(i:Int)≤y):=by
 obtain ⟨h1,h2,h3⟩:=findI_some.1 h
 obtain ⟨e0,f,g1,g2,g3,g4,g5,s,g6⟩:=start_two hn h2
 obtain ⟨a0,ab,bm,_⟩:=g4
 rcases g5 with g5 | g5
 · left; rw [g3,← g5]; exact ⟨rfl,h2⟩
 · right
   have hlt:f.A.toNat < i:=by omega
   have hil:=(List.getElem?_eq_some_iff.1 h1).1
   have:=h3 f.A.toNat n.Nodes[f.A.toNat] hlt (List.getElem?_eq_getElem (by omega))
   rw [Int.toNat_of_nonneg a0] at this
   refine ⟨by rw [g3]; exact this,fun hall=>?_⟩
   have hm:otherP f (i:Int)∈ndS n ring (i:Int):=by rw [g6]; simp
   have:=hall _ hm
   have e:otherP f (i:Int)=f.A:=by
    unfold otherP
    rw [if_neg (by omega),if_pos g5]
   omega
theorem start_in {n:TNetwork} (hn:netOk n=true) {ring:List Int} (h:okS n ring (startA n ring)=true):∃ q,findI (fun i (_:ByteArray)=>okS n ring (i:Int)) n.Nodes=some q:=by
 cases e:findI (fun i (_:ByteArray)=>okS n ring (i:Int)) n.Nodes with
 | some q=>exact ⟨q,rfl⟩
 | none =>
   obtain ⟨e0,f,g1,g2,g3,g4,_⟩:=start_two hn h
   obtain ⟨a0,ab,bm,_⟩:=g4
   have hl:f.A.toNat < n.Nodes.length:=by omega
   have:=findI_none.1 e f.A.toNat _ (List.getElem?_eq_getElem hl)
   rw [Int.toNat_of_nonneg a0,← g3,h] at this; cases this
theorem p_l17Good (n:TNetwork) (ring:List Int) (hn:netOk n=true) (hr:ring.length≤1048576):M_ek n ring=some (ringP n ring).isSome:=by
 obtain ⟨b1,b2,b3⟩:=netOk_bR hn
 unfold M_ek
 rw [iter_findI (f:=M_bd n ring) n.Nodes (fun i _=>okS n ring (i:Int)) (fun i _=>(ndS n ring (i:Int)).all (fun y=>decide ((i:Int)≤y))&&!lexB ring.reverse ring) () (fun i x hx _=>by
  have hlt:=(List.getElem?_eq_some_iff.1 hx).1
  have h1:decide ((i:Int) < n.Nodes.length)=true:=by simp [hlt]
  simp only [M_bd,h1,cond_true,p_l17Walk n ring i (by omega) hr,Option.bind_some]
  rw [w64_eq (by omega) (by omega)]
  rcases bt (okS n ring (i:Int)) with e | e
  · simp only [e,Bool.not_true,cond_false,if_true]
    rw [p_GoodL2 _ _ (by simp only; rw [nd_len (by omega) hr e]; exact hr)]
    simp only [Option.bind_some]
    rcases bt ((ndS n ring (i:Int)).all fun y=>decide ((i:Int)≤y)) with e2 | e2
    · rw [e2,cond_true,p_l17Back ring hr]
      simp only [Option.bind_some]
      rw [p_l17Less ring.reverse ring (by simp) (by simpa using hr)]
      rfl
    · rw [e2]; rfl
  · simp [e]) (by simp [M_bd]) (by omega)]
 cases hf:findI (fun i (_:ByteArray)=>okS n ring (i:Int)) n.Nodes with
 | none =>
   have:ringP n ring=none:=by
    cases hp:ringP n ring with
    | none=>rfl
    | some l =>
      obtain ⟨q,hq⟩:=start_in hn (ringP_some.1 hp).1
      rw [hf] at hq; cases hq
   rw [this]; rfl
 | some q =>
   obtain ⟨i,x⟩:=q
   simp only [Option.bind_some]
   rcases first_start hn hf with ⟨e1,e2⟩ | ⟨e1,e2⟩
   · have hne:=dif_rev (wkI_nodup (okS_iff.1 e2).1) (okS_iff.1 e2).2.2
     rw [e1,← lexB_swap hne]
     rcases bt ((ndS n ring (startA n ring)).all fun y=>decide (startA n ring≤y)) with e3 | e3
     · rcases bt (lexB ring ring.reverse) with e4 | e4
       · have:ringP n ring=some (ndS n ring (startA n ring)):=ringP_some.2 ⟨e2,rfl,by simpa using e3,e4⟩
         rw [this,e3,e4]; rfl
       · have:ringP n ring=none:=by
          cases hp:ringP n ring with
          | none=>rfl
          | some l=>have:=(ringP_some.1 hp).2.2.2; rw [e4] at this; cases this
         rw [this,e3,e4]; rfl
     · have:ringP n ring=none:=by
        cases hp:ringP n ring with
        | none=>rfl
        | some l =>
          obtain ⟨_,h2,h3,_⟩:=ringP_some.1 hp
          subst h2
          have:((ndS n ring (startA n ring)).all fun y=>decide (startA n ring≤y))=true:=by simpa using h3
          rw [e3] at this; cases this
       rw [this,e3]; rfl
   · have:ringP n ring=none:=by
      cases hp:ringP n ring with
      | none=>rfl
      | some l=>have:=(ringP_some.1 hp).1; rw [e1] at this; cases this
     rw [this]
     have:((ndS n ring (i:Int)).all fun y=>decide ((i:Int)≤y))=false:=by
      rw [Bool.eq_false_iff]
      intro h
      exact e2 (by simpa using h)
     rw [this]; rfl
end Vs

namespace Vs
open Go
theorem p_followed (n:TNetwork) (v:Int) (ring:List Int) (hF:n.Fibers.length≤1048576) (hr:ring.length≤1048576):M_dn n v ring=some (match wkI n ring 0 ring (v,[]) with | .inl q=>(q.2,q.1,true) | .inr _=>([],0,false)):=by
 unfold M_dn
 rw [p_followL n ring v hF hr]
 cases h:wkI n ring 0 ring (v,[]) with
 | inl q=>rfl
 | inr x=>rw [wkI_bad n ring ring 0 _ x h]; rfl
theorem walkL_min:∀ (xs:List Int) (i:Nat) (m:Int),∃ r,walkL (fun _ y (m:Int)=>(.inl (if y < m then y else m):Int ⊕ Int)) (fun m=>m) i xs m=r∧(r=m∨r∈xs)∧r≤m∧∀ x∈xs,r≤x
 | [],i,m=>⟨m,by simp [walkL],.inl rfl,Int.le_refl _,by simp⟩
 | y :: xs, i, m => by
   obtain ⟨r,h1,h2,h3,h4⟩:=walkL_min xs (i+1) (if y < m then y else m)
   refine ⟨r,by simp only [walkL]; exact h1,?_,?_,?_⟩
   · rcases h2 with h2 | h2
     · by_cases e:y < m
       · rw [if_pos e] at h2; right; rw [h2]; simp
       · rw [if_neg e] at h2; exact .inl h2
     · exact .inr (List.mem_cons_of_mem _ h2)
   · split at h3 <;> omega
   · intro x hx
     rcases List.mem_cons.1 hx with rfl | hx
     · split at h3 <;> omega
     · exact h4 x hx
theorem p_MinI (xs:List Int) (h0:0 < xs.length) (hl:xs.length≤1048576):∃ m,M_do xs=some m∧m∈xs∧∀ x∈xs,m≤x:=by
 cases xs with
 | nil=>simp at h0
 | cons x t =>
   simp only [List.length_cons] at hl
   have:=iter_list (f:=M_an (x::t)) t (fun i (m:Int)=>(m,((i+1:Nat):Int))) (fun _ y (m:Int)=>.inl (if y < m then y else m)) (fun m=>m) (fun _ _=>True) (fun i m y hy _=>by
    have hlt:=(List.getElem?_eq_some_iff.1 hy).1
    have h1:decide (((i+1:Nat):Int) < ((x::t).length:Int))=true:=by simp; omega
    refine .inl ⟨_,rfl,trivial,?_⟩
    have hy':(x::t)[i+1]?=some y:=by simpa using hy
    simp only [M_an,h1,cond_true,geti_nat,hy',Option.bind_some]
    rw [w64_eq (by omega) (by omega)]
    rfl) (fun m _=>by simp [M_an]) x trivial (by omega)
   obtain ⟨r,h1,h2,h3,h4⟩:=walkL_min t 0 x
   refine ⟨r,?_,?_,?_⟩
   · unfold M_do
     have e2:decide (((x::t).length:Int) < 1)=false:=by simp; omega
     rw [e2,cond_false]
     have e3:geti (x::t) 0=some x:=geti_nat (x::t) 0
     rw [e3]
     simp only [Option.bind_some]
     have e:((0+1:Nat):Int)=1:=rfl
     simp only [e] at this
     rw [this,h1]; rfl
   · rcases h2 with rfl | h2
     · simp
     · exact List.mem_cons_of_mem _ h2
   · intro y hy
     rcases List.mem_cons.1 hy with rfl | hy
     · exact h3
     · exact h4 y hy
theorem p_CloneI (xs:List Int) (hl:xs.length≤1048576):M_cc xs=some xs:=by
 unfold M_cc
 rw [grd_t (by omega)]
 cases xs with
 | nil=>rfl
 | cons x t=>rfl
theorem iter_swap {α:Type} {f:Int×Int×List α→Option ((Int×Int×List α) ⊕ (List α))} (xs:List α)
 (h1:∀ (i j:Nat) (l:List α) x y,i < j→l.length=xs.length→l[i]?=some x→l[j]?=some y→f ((i:Int),(j:Int),l)=some (.inl (((i+1:Nat):Int),(j:Int) - 1,(l.set i y).set j x)))
 (h2:∀ (i j:Int) (l:List α),j≤i→f (i,j,l)=some (.inr l)) (hl:xs.length < 18446744073709551615):iter f N0 (0,(xs.length:Int) - 1,xs)=some xs.reverse:=by
 obtain ⟨b,hb,h3⟩:=iter_inv (f:=f) (fun s=>∃ i:Nat,s.1=i∧s.2.1=(xs.length:Int) - 1 - i∧2 * i≤xs.length+1∧s.2.2.length=xs.length∧∀ k:Nat,k < xs.length→s.2.2[k]?=if k < i∨xs.length - 1 - k < i then xs[xs.length - 1 - k]? else xs[k]?)
  (fun s=>xs.length - s.1.toNat) (fun b=>b=xs.reverse) (fun s hI=>by
  obtain ⟨i',j',l⟩:=s
  obtain ⟨i,e1,e2,e3,e4,e5⟩:=hI
  simp only at e1 e2 e4 e5
  subst e1; subst e2
  by_cases h:(i:Int) < (xs.length:Int) - 1 - i
  · left
    have hi:i < xs.length:=by omega
    have hj:xs.length - 1 - i < xs.length:=by omega
    have g1:=e5 i hi
    rw [if_neg (by omega),List.getElem?_eq_getElem hi] at g1
    have g2:=e5 (xs.length - 1 - i) hj
    rw [if_neg (by omega),List.getElem?_eq_getElem hj] at g2
    have hf:=h1 i (xs.length - 1 - i) l _ _ (by omega) e4 g1 g2
    rw [show ((xs.length - 1 - i:Nat):Int)=(xs.length:Int) - 1 - i by omega] at hf
    refine ⟨_,hf,⟨i+1,rfl,by simp only; omega,by omega,by simp [e4],fun k hk=>?_⟩,by simp only [Int.toNat_natCast]; omega⟩
    simp only
    rw [List.getElem?_set]
    by_cases c1:xs.length - 1 - i=k
    · rw [if_pos c1,if_pos (by simp; omega),if_pos (by omega),show xs.length - 1 - k=i by omega,List.getElem?_eq_getElem hi]
    · rw [if_neg c1,List.getElem?_set]
      by_cases c2:i=k
      · rw [if_pos c2,if_pos (by omega),if_pos (by omega),← c2,List.getElem?_eq_getElem hj]
      · rw [if_neg c2,e5 k hk]
        by_cases c3:k < i∨xs.length - 1 - k < i
        · rw [if_pos c3,if_pos (by omega)]
        · rw [if_neg c3,if_neg (by omega)]
  · right
    refine ⟨_,h2 _ _ l (by omega),?_⟩
    apply List.ext_getElem?
    intro k
    by_cases hk:k < xs.length
    · rw [e5 k hk,List.getElem?_reverse hk]
      split
      · rfl
      · congr 1; omega
    · rw [List.getElem?_eq_none (by omega),List.getElem?_eq_none (by simp; omega)]) N0 (0,(xs.length:Int) - 1,xs) ⟨0,rfl,by simp,by omega,rfl,fun k hk=>by rw [if_neg (by omega)]⟩ (N0_lt (by simp; omega))
 rw [hb,h3]
theorem p_ReverseI (xs:List Int) (hl:xs.length≤1048576):M_dp xs=some xs.reverse:=by
 unfold M_dp
 rw [w64_eq (by omega) (by omega),iter_swap (f:=M_z) xs (fun i j l x y hij hll hx hy=>by
  have hi:=(List.getElem?_eq_some_iff.1 hx).1
  have hj:=(List.getElem?_eq_some_iff.1 hy).1
  have e1:decide ((i:Int) < (j:Int))=true:=decide_eq_true (by omega)
  have e3:(l.set i y)[j]?=some y:=by rw [List.getElem?_set,if_neg (by omega)]; exact hy
  simp only [M_z,e1,cond_true,Int.toNat_natCast,hx,hy,Option.bind_some,bnd,e3]
  rw [grd_t (by omega),grd_t (by omega),w64_eq (by omega) (by omega),w64_eq (by omega) (by omega)]
  rfl) (fun i j l h=>by
  have e1:decide (i < j)=false:=decide_eq_false (by omega)
  simp only [M_z,e1,cond_false]) (by omega)]
 rfl
theorem p_aroundL1 (r:List Int×Int×Bool) (hl:r.1.length≤1048576):iter (M_aa r) N0 0=some (if r.1.Nodup then .inl () else .inr ([],false)):=by
 rw [iter_anyI (f:=M_aa r) r.1 (fun i v=>decide (v∈r.1.take i)) (.inr ([],false)) (.inl ()) (fun i v hv _=>by
  have hlt:=(List.getElem?_eq_some_iff.1 hv).1
  have h1:decide ((i:Int) < r.1.length)=true:=by simp [hlt]
  simp only [M_aa,h1,cond_true,Int.toNat_natCast,hv]
  rw [grd_t (by omega),grd_t ⟨trivial,by omega,trivial,by omega⟩]
  simp only [Option.bind_some,bnd,subT_drop,List.drop_zero,p_ContI (r.1.take i) v (by simp; omega)]
  rw [w64_eq (by omega) (by omega)]
  cases decide (v∈r.1.take i) <;> rfl) (by simp [M_aa]) (by omega)]
 by_cases h:r.1.Nodup
 · rw [if_pos h]
   have:anyI (fun i v=>decide (v∈r.1.take i)) r.1=false:=anyI_false.2 fun i v hv=>by simpa using nodup_take h hv
   rw [this]; rfl
 · rw [if_neg h]
   have:anyI (fun i v=>decide (v∈r.1.take i)) r.1=true:=by
    cases e:anyI (fun i v=>decide (v∈r.1.take i)) r.1 with
    | true=>rfl
    | false =>
      exfalso
      exact h (nodup_of fun i v hv=>by simpa using anyI_false.1 e i v hv)
   rw [this]; rfl
theorem ringP_none {n:TNetwork} {ring:List Int} (h:∀ q,wkI n ring 0 ring (startA n ring,[])=.inl q→q.1=startA n ring→q.2.Nodup→(∀ x∈q.2,startA n ring≤x)→lexB ring ring.reverse=true→2≤ring.length→False):ringP n ring=none:=by
 cases hp:ringP n ring with
 | none=>rfl
 | some l =>
   obtain ⟨h1,h2,h3,h4⟩:=ringP_some.1 hp
   obtain ⟨g1,g2,g3⟩:=okS_iff.1 h1
   rw [h2] at g1 g2
   exact (h _ g1 rfl g2 h3 h4 g3).elim
theorem p_around (n:TNetwork) (ring:List Int) (hF:n.Fibers.length≤1048576) (hr:ring.length≤1048576):∃ l,M_bw n ring=some (l,(ringP n ring).isSome)∧∀ r,ringP n ring=some r→l=r:=by
 unfold M_bw
 match ring,hr with
 | [],_=>exact ⟨[],rfl,fun r h=>by simp [ringP] at h⟩
 | [e0],_=>exact ⟨[],rfl,fun r h=>by simp [ringP] at h⟩
 | e0 :: e1 :: t, hr =>
   have hlen:2≤(e0::e1::t).length:=by simp
   generalize hR:e0::e1::t=ring at *
   have hg:geti ring 0=some e0:=by rw [← hR]; exact geti_nat (e0::e1::t) 0
   have h2:decide ((ring.length:Int) < 2)=false:=decide_eq_false (by omega)
   simp only [h2,cond_false,hg,Option.bind_some,p_within]
   rw [w64_eq (by omega) (by omega)]
   rcases bt (wi e0 0 ((n.Fibers.length:Int) - 1)) with hw | hw
   · obtain ⟨f,g1,g2⟩:=geti_fib hw
     have hs:startA n ring=f.A:=by
      unfold startA
      rw [← hR]
      simp only [List.getElem?_cons_zero,g2]
     simp only [hw,Bool.not_true,cond_false,g1,Option.bind_some,p_followed n f.A ring hF hr]
     rw [← hs]
     cases hwk:wkI n ring 0 ring (startA n ring,[]) with
     | inr x =>
       have:ringP n ring=none:=ringP_none fun q hq=>by rw [hwk] at hq; cases hq
       rw [this]
       exact ⟨[],rfl,fun r h=>by cases h⟩
     | inl q =>
       simp only [Bool.not_true,cond_false]
       have hql:q.2.length=ring.length∧startA n ring∈q.2:=by
        obtain ⟨_,_,s,hs2⟩:=wkI_two hR.symm hwk
        refine ⟨?_,by rw [hs2]; simp⟩
        have key:∀ (ys:List Int) (i:Nat) (p q:Int×List Int),wkI n ring i ys p=.inl q→q.2.length=p.2.length+ys.length:=by
         intro ys
         induction ys with
         | nil=>intro i p q h; unfold wkI walkL at h; cases h; simp
         | cons e ys ih =>
           intro i p q h
           rw [wkI_cons] at h
           unfold stI at h
           by_cases h1:badE n ring i e=true
           · rw [if_pos h1] at h; cases h
           · rw [if_neg h1] at h
             by_cases h2:othI n e p.1 < 0
             · rw [if_pos h2] at h; cases h
             · rw [if_neg h2] at h
               have:=ih (i+1) _ q h
               simp only [List.length_append,List.length_cons,List.length_nil] at this ⊢
               omega
        simpa using key ring 0 _ q hwk
       by_cases hq1:q.1=startA n ring
       · have e1:(q.1 != startA n ring)=false:=by rw [hq1]; simp
         obtain ⟨m,m1,m2,m3⟩:=p_MinI q.2 (by omega) (by omega)
         simp only [e1,cond_false,m1,Option.bind_some]
         by_cases hm:m=startA n ring
         · have e2:(m != startA n ring)=false:=by rw [hm]; simp
           simp only [e2,cond_false,p_aroundL1 (q.2,q.1,true) (by simp only; omega),Option.bind_some]
           by_cases hnd:q.2.Nodup
           · rw [if_pos hnd]
             simp only [p_CloneI ring hr,p_ReverseI ring hr,Option.bind_some,bnd]
             have e3:subT ring.reverse 0 ring.length=ring.reverse:=by
              have:=subT_all ring.reverse
              rwa [List.length_reverse] at this
             obtain ⟨c,c1,c2⟩:=p_CompareI ring ring.reverse (by simp) hr
             simp only [e3,c1,c2,Option.bind_some]
             refine ⟨q.2,?_,?_⟩
             · congr 2
               cases hx:lexB ring ring.reverse with
               | true =>
                 have:ringP n ring=some q.2:=by
                  unfold ringP
                  rw [if_pos hlen,hwk]
                  simp only
                  rw [if_pos ⟨hq1,hnd,fun x hx=>by rw [← hm]; exact m3 x hx,hx⟩]
                 rw [this]; rfl
               | false =>
                 have:ringP n ring=none:=ringP_none fun _ _ _ _ _ hx'=>by rw [hx] at hx'; cases hx'
                 rw [this]; rfl
             · intro r hrp
               obtain ⟨h1,h2,_⟩:=ringP_some.1 hrp
               obtain ⟨g1,_⟩:=okS_iff.1 h1
               rw [hwk] at g1
               have:=congrArg Prod.snd (Sum.inl.inj g1)
               rw [← h2]; exact this
           · rw [if_neg hnd]
             have:ringP n ring=none:=ringP_none fun q' hq' _ hnd'=>by rw [hwk] at hq'; cases hq'; exact (hnd hnd').elim
             rw [this]
             exact ⟨[],rfl,fun r h=>by cases h⟩
         · have e2:(m != startA n ring)=true:=bne_iff_ne.2 hm
           have:ringP n ring=none:=ringP_none fun q' hq' _ _ hall=>by
            rw [hwk] at hq'; cases hq'
            have h5:=hall m m2
            have h6:=m3 _ hql.2
            omega
           rw [this]
           simp only [e2,cond_true]
           exact ⟨[],rfl,fun r h=>by cases h⟩
       · have e1:(q.1 != startA n ring)=true:=bne_iff_ne.2 hq1
         have:ringP n ring=none:=ringP_none fun q' hq' hq1'=>by rw [hwk] at hq'; cases hq'; exact (hq1 hq1').elim
         rw [this]
         simp only [e1,cond_true,Option.bind_some]
         exact ⟨[],rfl,fun r h=>by cases h⟩
   · have:ringP n ring=none:=ringP_none fun q hq _ _ _ _ _=>by
      have:=(wkI_two hR.symm hq).1
      rw [hw] at this; cases this
     rw [this]
     simp only [hw,Bool.not_false,cond_true,Option.bind_some]
     exact ⟨[],rfl,fun r h=>by cases h⟩
theorem p_impl_RingNodes0 (n:TNetwork) (ring:List Int) (hz:z_Network n≤1048576) (hr:ring.length≤1048576):M_ed n ring=some (if netOk n then (match ringP n ring with | some l=>(l,true) | none=>([],false)) else ([],false)):=by
 obtain ⟨h1,h2,h3⟩:=z_net hz
 unfold M_ed
 simp only [p_IsValidNetwork n hz,Option.bind_some]
 rcases bt (netOk n) with hn | hn
 · obtain ⟨l,g1,g2⟩:=p_around n ring h2 hr
   rw [hn,g1]
   cases hp:ringP n ring with
   | none=>rfl
   | some r=>rw [g2 r hp]; rfl
 · rw [hn]; rfl
def isRingB (n:TNetwork) (ring:List Int):Bool:=netOk n&&(ringP n ring).isSome
theorem p_impl_IsRing (n:TNetwork) (ring:List Int) (hz:z_Network n≤1048576) (hr:ring.length≤1048576):M_ch n ring=some (isRingB n ring):=by
 unfold M_ch isRingB
 rw [p_impl_RingNodes0 n ring hz hr]
 cases netOk n with
 | false=>rfl
 | true=>cases ringP n ring <;> rfl
theorem p_spec_IsRing (n:TNetwork) (ring:List Int) (hz:z_Network n≤1048576) (hr:ring.length≤1048576):M_el n ring=some (isRingB n ring):=by
 unfold M_el isRingB
 simp only [p_l2Good n hz,Option.bind_some]
 rcases bt (netOk n) with hn | hn
 · rw [hn,cond_true,p_l17Good n ring hn hr]; rfl
 · rw [hn]; rfl
end Vs

namespace Vs
open Go
theorem p_l17Nodes (n:TNetwork) (ring l:List Int) (hn:netOk n=true) (hr:ring.length≤1048576) (hp:ringP n ring=some l):M_ec n ring=some l:=by
 obtain ⟨b1,b2,b3⟩:=netOk_bR hn
 obtain ⟨h1,h2,_⟩:=ringP_some.1 hp
 unfold M_ec
 rw [iter_findI (f:=M_ay n ring) n.Nodes (fun i _=>okS n ring (i:Int)) (fun i _=>ndS n ring (i:Int)) () (fun i x hx _=>by
  have hlt:=(List.getElem?_eq_some_iff.1 hx).1
  have h1:decide ((i:Int) < n.Nodes.length)=true:=by simp [hlt]
  simp only [M_ay,h1,cond_true,p_l17Walk n ring i (by omega) hr,Option.bind_some]
  rw [w64_eq (by omega) (by omega)]
  cases okS n ring (i:Int) <;> rfl) (by simp [M_ay]) (by omega)]
 cases hf:findI (fun i (_:ByteArray)=>okS n ring (i:Int)) n.Nodes with
 | none=>obtain ⟨q,hq⟩:=start_in hn h1; rw [hf] at hq; cases hq
 | some q =>
   obtain ⟨i,x⟩:=q
   rcases first_start hn hf with ⟨e1,e2⟩ | ⟨e1,e2⟩
   · simp only [Option.bind_some,e1,h2]
   · rw [h1] at e1; cases e1
end Vs

namespace Vs
open Go
def gz (l:List Int) (p:Nat):Int:=(l[p]?).getD 0
theorem gz_at {l:List Int} {p:Nat} (h:p < l.length):l[p]?=some (gz l p):=by
 unfold gz; rw [List.getElem?_eq_getElem h]; rfl
theorem gz_set {l:List Int} {p q:Nat} {x:Int} (h:p < l.length):gz (l.set p x) q=if q=p then x else gz l q:=by
 unfold gz
 rw [List.getElem?_set]
 by_cases e:p=q
 · rw [if_pos e,if_pos h,if_pos e.symm]; rfl
 · rw [if_neg e,if_neg (Ne.symm e)]
theorem p_Less (x y:Int):M_dt x y=some (decide (x < y)):=by
 unfold M_dt M_bu; simp
theorem perm_swap {l:List Int} {i j:Nat} (hi:i < l.length) (hj:j < l.length):((l.set i (gz l j)).set j (gz l i)).Perm l:=by
 by_cases e:i=j
 · subst e
   have:(l.set i (gz l i)).set i (gz l i)=l:=by
    apply List.ext_getElem?
    intro k
    rw [List.getElem?_set,List.getElem?_set]
    by_cases h:i=k
    · subst h; simp [hi]; unfold gz; rw [List.getElem?_eq_getElem hi]; rfl
    · simp [h]
   rw [this]
 · have g1:gz l j=l[j]:=by unfold gz; rw [List.getElem?_eq_getElem hj]; rfl
   have g2:gz l i=l[i]:=by unfold gz; rw [List.getElem?_eq_getElem hi]; rfl
   rw [g1,g2]
   exact List.set_set_perm hi hj
def SrtI (i j:Nat) (l:List Int):Prop:=(∀ p q,p < q→q≤i→p ≠ j→q ≠ j→gz l p≤gz l q)∧∀ q,j < q→q≤i→gz l j≤gz l q
def SrtB (n:Nat) (l:List Int):Prop:=∀ p q,p < q→q < n→gz l p≤gz l q
theorem p_sortL2 (n i:Nat) (l0:List Int) (hl:l0.length=n) (hn:n≤1048576) (hi:i < n) (hs:SrtB i l0) :
 ∃ l,iter (M_o 0) N0 ((i:Int),l0)=some l∧l.Perm l0∧SrtB (i+1) l:=by
 refine iter_inv (f:=M_o 0) (fun s=>∃ j:Nat,s.1=j∧j≤i∧s.2.length=n∧s.2.Perm l0∧SrtI i j s.2) (fun s=>s.1.toNat) (fun l=>l.Perm l0∧SrtB (i+1) l) (fun s hI=>?_) N0 ((i:Int),l0)
  ⟨i,rfl,Nat.le_refl _,hl,List.Perm.refl _,fun p q h1 h2 h3 h4=>hs p q h1 (by omega),fun q h1 h2=>by omega⟩ (N0_lt (by simp; omega))
 obtain ⟨j',l⟩:=s
 obtain ⟨j,rfl,hj,hll,hp,hA,hB⟩:=hI
 simp only at hll hp hA hB
 by_cases h0:0 < j
 · have e1:decide ((0:Int) < (j:Int))=true:=decide_eq_true (by omega)
   have ew:IntKind.wrap .i64 ((j:Int) - 1)=((j - 1:Nat):Int):=by rw [w64_eq (by omega) (by omega)]; omega
   have g1:l[j]?=some (gz l j):=gz_at (by omega)
   have g2:l[j - 1]?=some (gz l (j - 1)):=gz_at (by omega)
   have d1:grd (0≤(j:Int)∧(j:Int) < (l.length:Int))=some ():=grd_t (by omega)
   have d2:grd (0≤((j - 1:Nat):Int)∧((j - 1:Nat):Int) < (l.length:Int))=some ():=grd_t (by omega)
   by_cases hlt:gz l j < gz l (j - 1)
   · left
     have e2:decide (gz l j < gz l (j - 1))=true:=decide_eq_true hlt
     have g3:(l.set j (gz l (j - 1)))[j - 1]?=some (gz l (j - 1)):=by
      rw [List.getElem?_set,if_neg (by omega)]; exact g2
     refine ⟨(((j - 1:Nat):Int),(l.set j (gz l (j - 1))).set (j - 1) (gz l j)),?_,⟨j - 1,rfl,by omega,by simp [hll],?_,?_,?_⟩,?_⟩
     · simp only [M_o,e1,cond_true,Int.toNat_natCast,ew,d1,d2,g1,g2,p_Less,e2,Option.bind_some,bnd,g3]
     · exact (perm_swap (by omega) (by omega)).trans hp
     · intro p q h1 h2 h3 h4
       simp only at *
       rw [gz_set (by simp; omega),gz_set (by omega),gz_set (by simp; omega),gz_set (by omega),if_neg h3,if_neg h4]
       by_cases c1:p=j
       · rw [if_pos c1,if_neg (by omega)]; exact hA (j - 1) q (by omega) h2 (by omega) (by omega)
       · rw [if_neg c1]
         by_cases c2:q=j
         · rw [if_pos c2]; exact hA p (j - 1) (by omega) (by omega) c1 (by omega)
         · rw [if_neg c2]; exact hA p q h1 h2 c1 c2
     · intro q h1 h2
       simp only at *
       rw [gz_set (by simp; omega),if_pos rfl,gz_set (by simp; omega),if_neg (by omega),gz_set (by omega)]
       by_cases c2:q=j
       · rw [if_pos c2]; omega
       · rw [if_neg c2]; exact hB q (by omega) h2
     · simp only [Int.toNat_natCast]; omega
   · right
     have e2:decide (gz l j < gz l (j - 1))=false:=decide_eq_false hlt
     refine ⟨l,?_,hp,?_⟩
     · simp only [M_o,e1,cond_true,Int.toNat_natCast,ew,d1,d2,g1,g2,Option.bind_some,p_Less,e2,cond_false]
     · intro p q h1 h2
       by_cases c1:p=j
       · rw [c1]; exact hB q (by omega) (by omega)
       · by_cases c2:q=j
         · rw [c2]
           by_cases c3:p=j - 1
           · rw [c3]; omega
           · have:=hA p (j - 1) (by omega) (by omega) c1 (by omega); omega
         · exact hA p q h1 (by omega) c1 c2
 · right
   have e1:decide ((0:Int) < (j:Int))=false:=decide_eq_false (by omega)
   refine ⟨l,by simp only [M_o,e1,cond_false,Option.bind_some],hp,fun p q h1 h2=>?_⟩
   by_cases c1:p=j
   · rw [c1]; exact hB q (by omega) (by omega)
   · exact hA p q h1 (by omega) c1 (by omega)
theorem p_sortI (n:Nat) (xs:List Int) (hl:xs.length=n) (hn:n≤1048576):∃ l,M_du 0 (n:Int) xs=some l∧l.Perm xs∧SrtB n l:=by
 unfold M_du
 obtain ⟨l,h1,h2,h3⟩:=iter_inv (f:=M_ab 0 (n:Int)) (fun s=>∃ i:Nat,s.1=i∧1≤i∧i≤n+1∧s.2.length=n∧s.2.Perm xs∧SrtB i s.2) (fun s=>n+1 - s.1.toNat) (fun l=>l.Perm xs∧SrtB n l) (fun s hI=>by
  obtain ⟨i',l⟩:=s
  obtain ⟨i,rfl,h0,hi,hll,hp,hs⟩:=hI
  simp only at hll hp hs
  by_cases h:i < n
  · left
    have e1:decide ((i:Int) < (n:Int))=true:=decide_eq_true (by omega)
    obtain ⟨l',g1,g2,g3⟩:=p_sortL2 n i l hll hn h hs
    refine ⟨(((i+1:Nat):Int),l'),?_,⟨i+1,rfl,by omega,by omega,by rw [g2.length_eq]; exact hll,g2.trans hp,g3⟩,by simp only [Int.toNat_natCast]; omega⟩
    simp only [M_ab,e1,cond_true,g1,Option.bind_some]
    rw [w64_eq (by omega) (by omega)]; rfl
  · right
    have e1:decide ((i:Int) < (n:Int))=false:=decide_eq_false (by omega)
    exact ⟨l,by simp only [M_ab,e1,cond_false],hp,fun p q h1 h2=>hs p q h1 (by omega)⟩) N0 (((1:Nat):Int),xs) ⟨1,rfl,by omega,by omega,hl,List.Perm.refl _,fun p q h1 h2=>by omega⟩ (N0_lt (by simp; omega))
 refine ⟨l,?_,h2,h3⟩
 have e:IntKind.wrap .i64 ((0:Int)+1)=((1:Nat):Int):=by rw [w64_eq (by omega) (by omega)]; rfl
 rw [e,h1]; rfl
theorem bitsLen12:∀ n:Fin 13,(M_ds (IntKind.wrap .u64 (n.val:Int))).isSome=true:=by decide +kernel
theorem p_SortI (xs:List Int) (h:xs.length≤12):∃ l,M_dv xs=some l∧l.Perm xs∧l.Pairwise (·≤·):=by
 obtain ⟨l,h1,h2,h3⟩:=p_sortI xs.length xs rfl (by omega)
 refine ⟨l,?_,h2,?_⟩
 · have hb:=bitsLen12 ⟨xs.length,by omega⟩
   simp only at hb
   unfold M_dv
   cases hx:M_ds (IntKind.wrap .u64 (xs.length:Int)) with
   | none=>rw [hx] at hb; cases hb
   | some r =>
     simp only [Option.bind_some]
     unfold M_es
     have hN:N0=(N0 - 1)+1:=by unfold N0; omega
     rw [hN,iter]
     have e1:decide (IntKind.wrap .i64 ((xs.length:Int) - 0)≤12)=true:=by rw [w64_eq (by omega) (by omega)]; exact decide_eq_true (by omega)
     simp only [M_bt,e1,cond_true,h1,Option.bind_some]
 · rw [List.pairwise_iff_getElem]
   intro i j hi hj hij
   have:=h3 i j hij (by rw [← h2.length_eq]; exact hj)
   unfold gz at this
   rw [List.getElem?_eq_getElem hi,List.getElem?_eq_getElem hj] at this
   exact this
theorem rise_eq:∀ (xs ys:List Int),xs.Pairwise (· < ·)→ys.Pairwise (· < ·)→(∀ x,x∈xs↔x∈ys)→xs=ys
 | [],[],_,_,_=>rfl
 | [],y::ys,_,_,h=>by have:=(h y).2 (by simp); cases this
 | x::xs,[],_,_,h=>by have:=(h x).1 (by simp); cases this
 | x :: xs, y :: ys, hx, hy, h => by
   rw [List.pairwise_cons] at hx hy
   have e:x=y:=by
    have h1:=(h x).1 (by simp)
    have h2:=(h y).2 (by simp)
    rcases List.mem_cons.1 h1 with h1 | h1
    · exact h1
    · rcases List.mem_cons.1 h2 with h2 | h2
      · exact h2.symm
      · have:=hx.1 y h2; have:=hy.1 x h1; omega
   subst e
   congr 1
   refine rise_eq xs ys hx.2 hy.2 fun z=>?_
   have:=h z
   constructor
   · intro hz
     rcases List.mem_cons.1 (this.1 (List.mem_cons_of_mem _ hz)) with e | e
     · subst e; have:=hx.1 z hz; omega
     · exact e
   · intro hz
     rcases List.mem_cons.1 (this.2 (List.mem_cons_of_mem _ hz)) with e | e
     · subst e; have:=hy.1 z hz; omega
     · exact e
theorem sorted_lt {l:List Int} (h:l.Pairwise (·≤·)) (hn:l.Nodup):l.Pairwise (· < ·):=by
 rw [List.pairwise_iff_getElem] at h ⊢
 rw [List.nodup_iff_pairwise_ne,List.pairwise_iff_getElem] at hn
 intro i j hi hj hij
 have a:=h i j hi hj hij
 have b:=hn i j hi hj hij
 omega
end Vs

namespace Vs
open Go
def filI {α:Type} (p:Nat→α→Bool):Nat→List α→List Int
 | _,[]=>[]
 | i,x::xs=>if p i x then (i:Int)::filI p (i+1) xs else filI p (i+1) xs
theorem filI_cons {α:Type} (p:Nat→α→Bool) (i:Nat) (x:α) (xs:List α):filI p i (x::xs)=if p i x then (i:Int)::filI p (i+1) xs else filI p (i+1) xs:=rfl
theorem filI_len {α:Type} (p:Nat→α→Bool):∀ (xs:List α) (i:Nat),(filI p i xs).length≤xs.length
 | [],i=>by simp [filI]
 | x :: xs, i => by
   have:=filI_len p xs (i+1)
   rw [filI_cons]; split <;> simp <;> omega
theorem filI_mem {α:Type} (p:Nat→α→Bool):∀ (xs:List α) (i:Nat) (y:Int),y∈filI p i xs↔∃ j x,xs[j]?=some x∧p (i+j) x=true∧y=((i+j:Nat):Int)
 | [],i,y=>by simp [filI]
 | x :: xs, i, y => by
   have ih:=filI_mem p xs (i+1) y
   rw [filI_cons]
   constructor
   · intro h
     by_cases e:p i x=true
     · rw [if_pos e] at h
       rcases List.mem_cons.1 h with h | h
       · exact ⟨0,x,rfl,by simpa using e,by simpa using h⟩
       · obtain ⟨j,z,h1,h2,h3⟩:=ih.1 h
         exact ⟨j+1,z,by simpa using h1,by rw [show i+(j+1)=i+1+j by omega]; exact h2,by rw [h3]; congr 1; omega⟩
     · rw [if_neg e] at h
       obtain ⟨j,z,h1,h2,h3⟩:=ih.1 h
       exact ⟨j+1,z,by simpa using h1,by rw [show i+(j+1)=i+1+j by omega]; exact h2,by rw [h3]; congr 1; omega⟩
   · rintro ⟨j,z,h1,h2,h3⟩
     cases j with
     | zero =>
       simp at h1; subst h1
       rw [if_pos (by simpa using h2)]
       rw [h3]; simp
     | succ j =>
       have:y∈filI p (i+1) xs:=ih.2 ⟨j,z,by simpa using h1,by rw [show i+1+j=i+(j+1) by omega]; exact h2,by rw [h3]; congr 1; omega⟩
       split
       · exact List.mem_cons_of_mem _ this
       · exact this
theorem filI_lt {α:Type} (p:Nat→α→Bool):∀ (xs:List α) (i:Nat),(filI p i xs).Pairwise (· < ·)
 | [],i=>by simp [filI]
 | x :: xs, i => by
   rw [filI_cons]
   split
   · rw [List.pairwise_cons]
     refine ⟨fun y hy=>?_,filI_lt p xs (i+1)⟩
     obtain ⟨j,_,_,_,rfl⟩:=(filI_mem p xs (i+1) y).1 hy
     omega
   · exact filI_lt p xs (i+1)
theorem walkL_fil {α:Type} (p:Nat→α→Bool):∀ (xs:List α) (i:Nat) (a:List Int),walkL (fun i x (a:List Int)=>(.inl (if p i x then a++[(i:Int)] else a):List Int ⊕ List Int)) (fun a=>a) i xs a=a++filI p i xs
 | [],i,a=>by simp [walkL,filI]
 | x :: xs, i, a => by
   simp only [walkL]
   rw [walkL_fil p xs (i+1),filI_cons]
   split <;> simp
theorem walkL_fil2 {α:Type} (p q:Nat→α→Bool):∀ (xs:List α) (i:Nat) (a:List Int×List Int),walkL (fun i x (a:List Int×List Int)=>(.inl (if p i x then (a.1++[(i:Int)],a.2) else if q i x then (a.1,a.2++[(i:Int)]) else a):(List Int×List Int) ⊕ (List Int×List Int))) (fun a=>a) i xs a =
 (a.1++filI p i xs,a.2++filI (fun i x=>!p i x&&q i x) i xs)
 | [],i,a=>by simp [walkL,filI]
 | x :: xs, i, a => by
   simp only [walkL]
   rw [walkL_fil2 p q xs (i+1),filI_cons,filI_cons]
   by_cases h1:p i x=true
   · simp [h1]
   · by_cases h2:q i x=true <;> simp [h1,h2]
def ownB (ring:List Int) (i:Nat) (_:TFiber):Bool:=decide ((i:Int)∈ring)
def crsB (nd:List Int) (_:Nat) (f:TFiber):Bool:=decide (f.A∈nd)&&decide (f.B∈nd)
def ownP (n:TNetwork) (ring:List Int):List Int:=filI (ownB ring) 0 n.Fibers
def crsP (n:TNetwork) (ring nd:List Int):List Int:=filI (fun i f=>!ownB ring i f&&crsB nd i f) 0 n.Fibers
theorem p_l17Protected (n:TNetwork) (ring l:List Int) (hn:netOk n=true) (hr:ring.length≤1048576) (hl:l.length≤1048576) (hp:ringP n ring=some l):M_cx n ring=some (ownP n ring,crsP n ring l):=by
 obtain ⟨b1,b2,b3⟩:=netOk_bR hn
 unfold M_cx
 rw [p_l17Nodes n ring l hn hr hp]
 simp only [Option.bind_some]
 have:=iter_list (f:=M_h n ring l) n.Fibers (fun i (a:List Int×List Int)=>((i:Int),a.1,a.2)) (fun i f a=>.inl (if ownB ring i f then (a.1++[(i:Int)],a.2) else if crsB l i f then (a.1,a.2++[(i:Int)]) else a)) (fun a=>a) (fun i a=>a.1.length≤i∧a.2.length≤i) (fun i a f hf hI=>by
  have hlt:=(List.getElem?_eq_some_iff.1 hf).1
  have h1:decide ((i:Int) < n.Fibers.length)=true:=by simp [hlt]
  refine .inl ⟨_,rfl,?_,?_⟩
  · split
    · simp only [List.length_append,List.length_cons,List.length_nil]; omega
    · split
      · simp only [List.length_append,List.length_cons,List.length_nil]; omega
      · omega
  · simp only [M_h,h1,cond_true,p_l1Has ring (i:Int) hr,← any_mem,Option.bind_some,geti_nat,hf,p_l1Has l _ hl,bnd]
    rw [w64_eq (by omega) (by omega),grd_t (by omega),grd_t (by omega)]
    unfold ownB crsB
    by_cases e1:(i:Int)∈ring
    · simp [e1]
    · by_cases e2:f.A∈l
      · by_cases e3:f.B∈l <;> simp [e1,e2,e3]
      · simp [e1,e2]) (fun a _=>by simp [M_h]) ([],[]) ⟨Nat.le_refl _,Nat.le_refl _⟩ (by omega)
 rw [walkL_fil2] at this
 have e:((0:Nat):Int)=0:=rfl
 simp only [e,List.nil_append] at this
 rw [this]; rfl
theorem nodup_le:∀ (m:Nat) (l:List Int),l.Nodup→(∀ x∈l,0≤x∧x < (m:Int))→l.length≤m
 | 0, l, _, h => by
   cases l with
   | nil=>simp
   | cons x l=>have:=h x (by simp); omega
 | m + 1, l, hn, h => by
   by_cases hm:(m:Int)∈l
   · have:=nodup_le m (l.erase (m:Int)) (hn.erase _) (fun x hx=>by
      have h1:=(hn.mem_erase_iff).1 hx
      have:=h x h1.2
      have h3:=h1.1
      omega)
     rw [List.length_erase_of_mem hm] at this
     omega
   · have:=nodup_le m l hn (fun x hx=>by
      have:=h x hx
      have:x ≠ (m:Int):=fun e=>hm (e ▸ hx)
      omega)
     omega
theorem wkI_rng {n:TNetwork} (hn:netOk n=true) (ring:List Int):∀ (ys:List Int) (i:Nat) (p q:Int×List Int),(0≤p.1∧p.1 < n.Nodes.length)→(∀ x∈p.2,0≤x∧x < (n.Nodes.length:Int))→wkI n ring i ys p=.inl q→∀ x∈q.2,0≤x∧x < (n.Nodes.length:Int)
 | [],i,p,q,_,hp2,h=>by unfold wkI walkL at h; cases h; exact hp2
 | e :: ys, i, p, q, hp1, hp2, h => by
   rw [wkI_cons] at h
   unfold stI at h
   by_cases h1:badE n ring i e=true
   · rw [if_pos h1] at h; cases h
   · rw [if_neg h1] at h
     by_cases h2:othI n e p.1 < 0
     · rw [if_pos h2] at h; cases h
     · rw [if_neg h2] at h
       refine wkI_rng hn ring ys (i+1) _ q ?_ ?_ h
       · have hw:=(badE_wi (by simpa using h1)).1
         obtain ⟨f,_,g2⟩:=geti_fib hw
         obtain ⟨a0,ab,bm,_⟩:=netOk_fibR hn g2
         simp only
         unfold othI at h2 ⊢
         rw [g2] at h2 ⊢
         simp only at h2 ⊢
         unfold otherP at h2 ⊢
         split
         · omega
         · rename_i c1
           split
           · omega
           · rename_i c2
             rw [if_neg c1,if_neg c2] at h2; omega
       · intro x hx
         simp only [List.mem_append,List.mem_singleton] at hx
         rcases hx with hx | rfl
         · exact hp2 x hx
         · exact hp1
theorem ring_facts {n:TNetwork} (hn:netOk n=true) {ring l:List Int} (hr:ring.length≤1048576) (hp:ringP n ring=some l):ring.Nodup∧ring.length≤8∧2≤ring.length∧l.length≤8∧∀ e∈ring,0≤e∧e < (n.Fibers.length:Int):=by
 obtain ⟨b1,b2,b3⟩:=netOk_bR hn
 obtain ⟨h1,h2,_⟩:=ringP_some.1 hp
 obtain ⟨g1,g2,g3⟩:=okS_iff.1 h1
 obtain ⟨e0,f,k1,k2,k3,k4,_⟩:=start_two hn h1
 obtain ⟨a0,ab,bm,_⟩:=k4
 have hrng:=wkI_rng hn ring ring 0 _ _ (by simp only; rw [k3]; omega) (by simp) g1
 have hle:=nodup_le n.Nodes.length _ g2 hrng
 have hlen:=nd_len (by omega) hr h1
 refine ⟨wkI_nodup g1,by omega,g3,by rw [← h2]; omega,fun e he=>?_⟩
 obtain ⟨j,hj⟩:=List.getElem?_of_mem he
 have:=wkI_ok n ring ring 0 _ _ g1 j e hj
 have:=wi_iff.1 (badE_wi this).1
 omega
theorem p_protected (n:TNetwork) (ring l:List Int) (hn:netOk n=true) (hr:ring.length≤1048576) (hp:ringP n ring=some l):M_bx n ring=some (ownP n ring,crsP n ring l):=by
 obtain ⟨b1,b2,b3⟩:=netOk_bR hn
 obtain ⟨r1,r2,r3,r4,r5⟩:=ring_facts hn hr hp
 unfold M_bx
 obtain ⟨ys,s1,s2,s3⟩:=p_SortI ring (by omega)
 obtain ⟨l',a1,a2⟩:=p_around n ring (by omega) hr
 have:=a2 l hp
 subst this
 simp only [p_CloneI ring hr,s1,a1,Option.bind_some,bnd]
 have:=iter_list (f:=M_x n ring (l',(ringP n ring).isSome)) n.Fibers (fun i (a:List Int)=>((i:Int),a)) (fun i f a=>.inl (if !ownB ring i f&&crsB l' i f then a++[(i:Int)] else a)) (fun a=>a) (fun i a=>a.length≤i) (fun i a f hf hI=>by
  have hlt:=(List.getElem?_eq_some_iff.1 hf).1
  have h1:decide ((i:Int) < n.Fibers.length)=true:=by simp [hlt]
  refine .inl ⟨_,rfl,?_,?_⟩
  · split
    · simp only [List.length_append,List.length_cons,List.length_nil]; omega
    · omega
  · simp only [M_x,h1,cond_true,geti_nat,hf,Option.bind_some,p_ContI ring (i:Int) hr,p_ContI l' _ (show l'.length≤1048576 by omega),bnd]
    rw [w64_eq (by omega) (by omega),grd_t (by omega)]
    unfold ownB crsB
    by_cases e1:(i:Int)∈ring
    · simp [e1]
    · by_cases e2:f.A∈l'
      · by_cases e3:f.B∈l' <;> simp [e1,e2,e3]
      · simp [e1,e2]) (fun a _=>by simp [M_x]) [] (Nat.le_refl _) (by omega)
 rw [walkL_fil (fun i f=>!ownB ring i f&&crsB l' i f)] at this
 have e:((0:Nat):Int)=0:=rfl
 simp only [e,List.nil_append] at this
 rw [this]
 simp only [Option.bind_some]
 have e1:subT ys 0 ring.length=ys:=by rw [← s2.length_eq]; exact subT_all ys
 have e2:ys=ownP n ring:=by
  refine rise_eq _ _ (sorted_lt s3 (s2.nodup_iff.2 r1)) (filI_lt _ _ _) fun x=>?_
  rw [s2.mem_iff]
  unfold ownP
  rw [filI_mem]
  constructor
  · intro hx
    have:=r5 x hx
    have hlt:x.toNat < n.Fibers.length:=by omega
    refine ⟨x.toNat,n.Fibers[x.toNat],List.getElem?_eq_getElem hlt,?_,by omega⟩
    unfold ownB
    rw [Nat.zero_add,Int.toNat_of_nonneg (by omega)]; simpa using hx
  · rintro ⟨j,f,h1,h2,rfl⟩
    unfold ownB at h2
    simpa using h2
 rw [e1,e2]; rfl
def pfP (n:TNetwork) (ring:List Int):List Int×List Int×Bool:=if netOk n then (match ringP n ring with | some l=>(ownP n ring,crsP n ring l,true) | none=>([],[],false)) else ([],[],false)
theorem own_len (n:TNetwork) (ring:List Int):(ownP n ring).length≤n.Fibers.length:=filI_len _ _ _
theorem crs_len (n:TNetwork) (ring l:List Int):(crsP n ring l).length≤n.Fibers.length:=filI_len _ _ _
theorem own_pos {n:TNetwork} (hn:netOk n=true) {ring l:List Int} (hr:ring.length≤1048576) (hp:ringP n ring=some l):0 < (ownP n ring).length:=by
 obtain ⟨r1,r2,r3,r4,r5⟩:=ring_facts hn hr hp
 have h0:0 < ring.length:=by omega
 have:=r5 ring[0] (List.getElem_mem h0)
 have hlt:ring[0].toNat < n.Fibers.length:=by omega
 refine List.length_pos_of_mem (a:=ring[0]) ((filI_mem _ _ _ _).2 ⟨ring[0].toNat,n.Fibers[ring[0].toNat],List.getElem?_eq_getElem hlt,?_,by omega⟩)
 unfold ownB
 rw [Nat.zero_add,Int.toNat_of_nonneg (by omega)]; simp
theorem own_rng {n:TNetwork} {ring:List Int} {x:Int} (h:x∈ownP n ring):0≤x∧x < n.Fibers.length:=by
 obtain ⟨j,f,h1,_,rfl⟩:=(filI_mem _ _ _ _).1 h
 have:=(List.getElem?_eq_some_iff.1 h1).1
 omega
theorem crs_rng {n:TNetwork} {ring l:List Int} {x:Int} (h:x∈crsP n ring l):0≤x∧x < n.Fibers.length:=by
 obtain ⟨j,f,h1,_,rfl⟩:=(filI_mem _ _ _ _).1 h
 have:=(List.getElem?_eq_some_iff.1 h1).1
 omega
end Vs

namespace Vs
open Go
theorem p_impl_ProtectedFibers (n:TNetwork) (ring:List Int) (hz:z_Network n≤1048576) (hr:ring.length≤1048576):M_ci n ring=some (pfP n ring):=by
 unfold M_ci pfP
 rw [p_impl_IsRing n ring hz hr]
 unfold isRingB
 rcases bt (netOk n) with hn | hn
 · rw [hn]
   cases hp:ringP n ring with
   | none=>rfl
   | some l=>simp only [Option.bind_some,Option.isSome_some,Bool.and_self,Bool.not_true,cond_false,p_protected n ring l hn hr hp]; rfl
 · rw [hn]; rfl
theorem ringl_len {n:TNetwork} (hn:netOk n=true) {ring l:List Int} (hr:ring.length≤1048576) (hp:ringP n ring=some l):l.length≤1048576:=by
 have:=(ring_facts hn hr hp).2.2.2.1
 omega
def effI (a b:Int):Int:=IntKind.wrap .i64 (Int.tdiv (IntKind.wrap .i64 (1000 * (IntKind.wrap .i64 (a+(IntKind.wrap .i64 (2 * b)))))) a)
def effP (n:TNetwork) (ring:List Int):Int×Bool:=if netOk n then (match ringP n ring with | some l=>(effI (ownP n ring).length (crsP n ring l).length,true) | none=>(0,false)) else (0,false)
theorem p_impl_RingEfficiency (n:TNetwork) (ring:List Int) (hz:z_Network n≤1048576) (hr:ring.length≤1048576):M_en n ring=some (effP n ring):=by
 unfold M_en effP
 rw [p_impl_IsRing n ring hz hr]
 unfold isRingB
 rcases bt (netOk n) with hn | hn
 · rw [hn]
   cases hp:ringP n ring with
   | none=>rfl
   | some l =>
     have:=own_pos hn hr hp
     simp only [Option.bind_some,Option.isSome_some,Bool.and_self,Bool.not_true,cond_false,p_protected n ring l hn hr hp]
     rw [grd_t (by omega)]
     rfl
 · rw [hn]; rfl
def mxZ (a b:Int):Int:=if a < b then b else a
theorem walkL_mx (g:Int→Int):∀ (xs:List Int) (i:Nat) (m:Int),walkL (fun _ y (m:Int)=>(.inl (mxZ m (g y)):Int ⊕ Int)) (fun m=>m) i xs m=xs.foldl (fun m y=>mxZ m (g y)) m
 | [],i,m=>by simp [walkL]
 | y::xs,i,m=>by simp only [walkL,List.foldl_cons]; exact walkL_mx g xs (i+1) _
theorem p_l1Most (a b:Int):M_bs a b=some (mxZ a b):=by
 unfold M_bs mxZ
 by_cases h:b < a
 · rw [decide_eq_true h,cond_true,if_neg (by omega)]
 · rw [decide_eq_false h,cond_false]
   by_cases h2:a < b
   · rw [if_pos h2]
   · rw [if_neg h2]; congr 1; omega
def gwZ (w:List Int) (y:Int):Int:=(w[y.toNat]?).getD 0
theorem gwZ_at {w:List Int} {y:Int} (h0:0≤y) (h1:y < w.length):geti w y=some (gwZ w y):=by
 unfold geti gwZ
 rw [if_pos h0,List.getElem?_eq_getElem (by omega)]; rfl
def hlf (w:List Int) (y:Int):Int:=IntKind.wrap .i64 (Int.tdiv (IntKind.wrap .i64 (gwZ w y+1)) 2)
theorem mx_loop {f:Int×Int→Option ((Int×Int) ⊕ Int)} (xs:List Int) (g:Int→Int) (hl:xs.length≤1048576) (h1:∀ (i:Nat) y m,xs[i]?=some y→f (m,(i:Int))=some (.inl (mxZ m (g y),((i+1:Nat):Int)))) (h2:∀ m,f (m,(xs.length:Int))=some (.inr m)) (m0:Int) :
 iter f N0 (m0,0)=some (xs.foldl (fun m y=>mxZ m (g y)) m0):=by
 have:=iter_list (f:=f) xs (fun i (m:Int)=>(m,(i:Int))) (fun _ y m=>.inl (mxZ m (g y))) (fun m=>m) (fun _ _=>True) (fun i m y hy _=>.inl ⟨_,rfl,trivial,h1 i y m hy⟩) (fun m _=>h2 m) m0 trivial (by omega)
 rw [walkL_mx] at this
 exact this
def capB (n:TNetwork) (w:List Int):Bool:=decide (w.length=n.Fibers.length)&&!w.any fun x=>!wi x 0 1000
def capP (n:TNetwork) (ring w:List Int):Int×Bool:=if netOk n then (match ringP n ring with | some l=>(if capB n w then ((crsP n ring l).foldl (fun m y=>mxZ m (hlf w y)) ((ownP n ring).foldl (fun m y=>mxZ m (gwZ w y)) 0),true) else (0,false)) | none=>(0,false)) else (0,false)
theorem bne_lenR {α β:Type} (a:List α) (b:List β):((a.length:Int) != (b.length:Int))=!decide (a.length=b.length):=by
 rw [Bool.eq_iff_iff]; simp; omega
theorem p_CFi (xs:List Int) (f:Int→Option Bool) (p:Int→Bool) (hf:∀ x,f x=some (p x)) (hl:xs.length≤1048576):M_eh xs f=some (xs.any p):=by
 unfold M_eh M_eu
 rw [iter_findI (f:=M_ba xs f) xs (fun _ x=>p x) (fun i _=>(i:Int)) () (fun i x hx _=>by
  have hlt:=(List.getElem?_eq_some_iff.1 hx).1
  have h1:decide ((i:Int) < xs.length)=true:=by simp [hlt]
  simp only [M_ba,h1,cond_true,geti_nat,hx,hf,Option.bind_some]
  rw [w64_eq (by omega) (by omega)]
  rcases bt (p x) with e | e <;> simp only [e] <;> rfl) (by simp [M_ba]) (by omega)]
 rw [← anyI_any]
 cases e:findI (fun _ x=>p x) xs with
 | none =>
   have h:anyI (fun _ x=>p x) xs=false:=anyI_false.2 (findI_none.1 e)
   rw [h]; rfl
 | some q =>
   obtain ⟨i,x⟩:=q
   obtain ⟨h1,h2,_⟩:=findI_some.1 e
   have h:anyI (fun _ x=>p x) xs=true:=anyI_iff.2 ⟨i,x,h1,h2⟩
   rw [h]; simp
theorem p_impl_RingCapacity (n:TNetwork) (ring w:List Int) (hz:z_Network n≤1048576) (hr:ring.length≤1048576) (hw:w.length≤1048576):M_ej n ring w=some (capP n ring w):=by
 obtain ⟨z1,z2,_⟩:=z_net hz
 unfold M_ej capP
 rw [p_impl_IsRing n ring hz hr]
 unfold isRingB
 rcases bt (netOk n) with hn | hn
 · rw [hn]
   cases hp:ringP n ring with
   | none=>rfl
   | some l =>
     simp only [Option.bind_some,Option.isSome_some,Bool.and_self,Bool.not_true,cond_false,bne_lenR,p_CFi w M_ei (fun x=>!wi x 0 1000) (fun x=>by unfold M_ei; rw [p_within]; rfl) hw]
     unfold capB
     by_cases e1:w.length=n.Fibers.length
     · rcases bt (w.any fun x=>!wi x 0 1000) with e2 | e2
       · simp [e1,e2]
       · simp only [e1,e2,decide_true,Bool.not_true,cond_false,Bool.not_false,Bool.and_self,if_true,Option.bind_some,p_protected n ring l hn hr hp]
         have a:=own_len n ring
         have b:=crs_len n ring l
         rw [mx_loop (f:=M_bb w (ownP n ring,crsP n ring l)) (ownP n ring) (gwZ w) (by omega) (fun i y m hy=>by
          have hlt:=(List.getElem?_eq_some_iff.1 hy).1
          have h1:decide ((i:Int) < (ownP n ring).length)=true:=by simp [hlt]
          have hy2:=own_rng (List.mem_of_getElem? hy)
          simp only [M_bb,h1,cond_true,Int.toNat_natCast,hy]
          rw [grd_t (by omega),w64_eq (by omega) (by omega)]
          simp only [Option.bind_some,gwZ_at hy2.1 (show y < (w.length:Int) by omega)]
          rfl) (fun m=>by simp [M_bb])]
         simp only [Option.bind_some]
         rw [mx_loop (f:=M_bc w (ownP n ring,crsP n ring l)) (crsP n ring l) (hlf w) (by omega) (fun i y m hy=>by
          have hlt:=(List.getElem?_eq_some_iff.1 hy).1
          have h1:decide ((i:Int) < (crsP n ring l).length)=true:=by simp [hlt]
          have hy2:=crs_rng (List.mem_of_getElem? hy)
          simp only [M_bc,h1,cond_true,Int.toNat_natCast,hy]
          rw [grd_t (by omega),grd_t (by omega),w64_eq (n:=(i:Int)+1) (by omega) (by omega)]
          simp only [Option.bind_some,gwZ_at hy2.1 (show y < (w.length:Int) by omega)]
          rfl) (fun m=>by simp [M_bc])]
         rfl
     · simp [e1]
 · rw [hn]; rfl
theorem p_spec_RingCapacity (n:TNetwork) (ring w:List Int) (hz:z_Network n≤1048576) (hr:ring.length≤1048576) (hw:w.length≤1048576):M_em n ring w=some (capP n ring w):=by
 obtain ⟨z1,z2,_⟩:=z_net hz
 unfold M_em capP
 rw [p_spec_IsRing n ring hz hr]
 unfold isRingB
 rcases bt (netOk n) with hn | hn
 · rw [hn]
   cases hp:ringP n ring with
   | none=>rfl
   | some l =>
     simp only [Option.bind_some,Option.isSome_some,Bool.and_self,Bool.not_true,cond_false,bne_lenR]
     unfold capB
     by_cases e1:w.length=n.Fibers.length
     · simp only [e1,decide_true,Bool.not_true,cond_false,Bool.true_and]
       rw [iter_any (f:=M_be w) w (fun x=>!wi x 0 1000) (.inr (0,false)) (.inl ()) (fun i x hx=>by
        have hlt:=(List.getElem?_eq_some_iff.1 hx).1
        have h1:decide ((i:Int) < w.length)=true:=by simp [hlt]
        simp only [M_be,h1,cond_true,geti_nat,hx,Option.bind_some,p_l1In]
        rw [w64_eq (by omega) (by omega)]
        cases wi x 0 1000 <;> rfl) (by simp [M_be]) (by omega)]
       rcases bt (w.any fun x=>!wi x 0 1000) with e2 | e2
       · simp [e2]
       · simp only [e2,Bool.false_eq_true,if_false,Bool.not_false,if_true,Option.bind_some,p_l17Protected n ring l hn hr (ringl_len hn hr hp) hp]
         have a:=own_len n ring
         have b:=crs_len n ring l
         rw [mx_loop (f:=M_bf w (ownP n ring,crsP n ring l)) (ownP n ring) (gwZ w) (by omega) (fun i y m hy=>by
          have hlt:=(List.getElem?_eq_some_iff.1 hy).1
          have h1:decide ((i:Int) < (ownP n ring).length)=true:=by simp [hlt]
          have hy2:=own_rng (List.mem_of_getElem? hy)
          simp only [M_bf,h1,cond_true,Int.toNat_natCast,hy]
          rw [grd_t (by omega),w64_eq (by omega) (by omega)]
          simp only [Option.bind_some,gwZ_at hy2.1 (show y < (w.length:Int) by omega),p_l1Most]
          rfl) (fun m=>by simp [M_bf])]
         simp only [Option.bind_some]
         rw [mx_loop (f:=M_bg w (ownP n ring,crsP n ring l)) (crsP n ring l) (hlf w) (by omega) (fun i y m hy=>by
          have hlt:=(List.getElem?_eq_some_iff.1 hy).1
          have h1:decide ((i:Int) < (crsP n ring l).length)=true:=by simp [hlt]
          have hy2:=crs_rng (List.mem_of_getElem? hy)
          simp only [M_bg,h1,cond_true,Int.toNat_natCast,hy]
          rw [grd_t (by omega),grd_t (by omega),w64_eq (n:=(i:Int)+1) (by omega) (by omega)]
          simp only [Option.bind_some,gwZ_at hy2.1 (show y < (w.length:Int) by omega),p_l1Most]
          rfl) (fun m=>by simp [M_bg])]
         rfl
     · simp [e1]
 · rw [hn]; rfl
end Vs

namespace Vs
open Go
def stepD (n:TNetwork) (s:Int) (D:Int→List Int→List Int→List (List Int)) (a:Int) (p q:List Int) (i:Nat):List (List Int) :=
 if othI n (i:Int) a < s∨(i:Int)∈p then []
 else if othI n (i:Int) a=s then (if 2≤(p++[(i:Int)]).length∧lexB (p++[(i:Int)]) (p++[(i:Int)]).reverse=true then [p++[(i:Int)]] else [])
 else if othI n (i:Int) a∈q then [] else D (othI n (i:Int) a) (p++[(i:Int)]) (q++[othI n (i:Int) a])
def bodyD (n:TNetwork) (s:Int) (D:Int→List Int→List Int→List (List Int)) (a:Int) (p q:List Int):List (List Int):=(List.range n.Fibers.length).flatMap (stepD n s D a p q)
def dfsD (n:TNetwork) (s:Int):Nat→Int→List Int→List Int→List (List Int)
 | 0=>bodyD n s (fun _ _ _=>[])
 | k+1=>bodyD n s (dfsD n s k)
theorem wkI_app (n:TNetwork) (ring:List Int) (ys:List Int):∀ (xs:List Int) (i:Nat) (p q:Int×List Int),wkI n ring i xs p=.inl q→wkI n ring i (xs++ys) p=wkI n ring (i+xs.length) ys q
 | [], i, p, q, h => by
   unfold wkI walkL at h
   cases h; rfl
 | e :: xs, i, p, q, h => by
   rw [List.cons_append,wkI_cons]
   rw [wkI_cons] at h
   split at h
   · rename_i a he
     rw [wkI_app n ring ys xs (i+1) a q h,List.length_cons,show i+1+xs.length=i+(xs.length+1) by omega]
   · rename_i b he
     subst h
     unfold stI at he
     split at he
     · cases he
     · split at he <;> cases he
structure InvD (n:TNetwork) (s a:Int) (p q:List Int):Prop where
 wk:∃ q0,q=q0++[a]∧∀ suf,wkI n (p++suf) 0 p (s,[])=.inl (a,q0)
 nd:q.Nodup
 ge:∀ x∈q,s≤x
 st:p ≠ []→startA n p=s
 len:p.length+1=q.length
 s0:0≤s
 rg:∀ x∈q,0≤x∧x < n.Nodes.length
theorem wi_nat {n:TNetwork} {i:Nat} (hi:i < n.Fibers.length):wi (i:Int) 0 ((n.Fibers.length:Int) - 1)=true:=by
 unfold wi; simp; omega
theorem stI_ok {n:TNetwork} {p suf:List Int} {i:Nat} {a:Int} {q0:List Int} (hi:i < n.Fibers.length) (hp:(i:Int) ∉ p) (h0:0≤othI n (i:Int) a) :
 stI n (p++suf) p.length (i:Int) (a,q0)=.inl (othI n (i:Int) a,q0++[a]):=by
 have hb:badE n (p++suf) p.length (i:Int)=false:=by
  unfold badE
  rw [wi_nat hi,List.take_left,← any_mem]
  simp [hp]
 unfold stI
 simp only [hb,Bool.false_eq_true,if_false]
 rw [if_neg (by omega)]
theorem InvD.walk {n:TNetwork} {s a:Int} {p q:List Int} (h:InvD n s a p q) {i:Nat} (hi:i < n.Fibers.length) (hp:(i:Int) ∉ p) (h0:0≤othI n (i:Int) a) (suf:List Int) :
 wkI n (p++[(i:Int)]++suf) 0 (p++[(i:Int)]) (s,[])=.inl (othI n (i:Int) a,q):=by
 obtain ⟨q0,hq,hw⟩:=h.wk
 rw [List.append_assoc,wkI_app n _ _ p 0 _ _ (hw _),Nat.zero_add,wkI_cons,stI_ok hi hp h0]
 unfold wkI walkL
 rw [hq]
theorem oth_rng {n:TNetwork} (hn:netOk n=true) {i:Nat} (hi:i < n.Fibers.length) {a:Int} (h0:0≤othI n (i:Int) a) :
 othI n (i:Int) a < n.Nodes.length∧∃ f,n.Fibers[i]?=some f∧f.A < f.B∧(a=f.A∧othI n (i:Int) a=f.B∨a=f.B∧othI n (i:Int) a=f.A):=by
 have hf:n.Fibers[i]?=some n.Fibers[i]:=List.getElem?_eq_getElem hi
 have hk:=netOk_fibR hn hf
 have:=hk.a0; have:=hk.ab; have:=hk.bm
 unfold othI at h0 ⊢
 rw [Int.toNat_natCast,hf] at h0 ⊢
 simp only at h0 ⊢
 unfold otherP at h0 ⊢
 refine ⟨?_,n.Fibers[i],rfl,this |> fun _=>hk.ab,?_⟩
 · split
   · omega
   · split <;> omega
 · by_cases h1:a=n.Fibers[i].A
   · left; rw [if_pos h1]; exact ⟨h1,rfl⟩
   · rw [if_neg h1] at h0 ⊢
     by_cases h2:a=n.Fibers[i].B
     · right; rw [if_pos h2]; exact ⟨h2,rfl⟩
     · rw [if_neg h2] at h0; omega
theorem startA_app {n:TNetwork} {p:List Int} (hp:p ≠ []) (x:List Int):startA n (p++x)=startA n p:=by
 cases p with
 | nil=>exact absurd rfl hp
 | cons y p=>rfl
theorem InvD.ext {n:TNetwork} (hn:netOk n=true) {s a:Int} {p q:List Int} (h:InvD n s a p q) {i:Nat} (hi:i < n.Fibers.length) (hp:(i:Int) ∉ p) (h0:¬ othI n (i:Int) a < s) (h1:othI n (i:Int) a ≠ s)
 (h2:othI n (i:Int) a ∉ q):InvD n s (othI n (i:Int) a) (p++[(i:Int)]) (q++[othI n (i:Int) a]):=by
 have hs:=h.s0
 obtain ⟨r1,f,r2,r3,r4⟩:=oth_rng hn hi (a:=a) (by omega)
 refine ⟨⟨q,rfl,h.walk hi hp (by omega)⟩,?_,?_,fun _=>?_,by simp [h.len],hs,?_⟩
 · rw [List.nodup_append]
   exact ⟨h.nd,by simp,fun x hx y hy e=>by rw [List.mem_singleton] at hy; subst hy; subst e; exact h2 hx⟩
 · intro x hx
   rw [List.mem_append] at hx
   rcases hx with hx | hx
   · exact h.ge x hx
   · rw [List.mem_singleton] at hx; omega
 · cases p with
   | cons y p=>rw [startA_app (by simp)]; exact h.st (by simp)
   | nil =>
     obtain ⟨q0,hq,hw⟩:=h.wk
     have:=hw []
     unfold wkI walkL at this
     have ha:s=a:=by injection this with e; injection e
     unfold startA
     simp only [List.nil_append,List.getElem?_cons_zero,Int.toNat_natCast,r2]
     omega
 · intro x hx
   rw [List.mem_append] at hx
   rcases hx with hx | hx
   · exact h.rg x hx
   · rw [List.mem_singleton] at hx; omega
theorem InvD.close {n:TNetwork} {s a:Int} {p q:List Int} (h:InvD n s a p q) {i:Nat} (hi:i < n.Fibers.length) (hp:(i:Int) ∉ p) (h1:othI n (i:Int) a=s) :
 ringP n (p++[(i:Int)])=if 2≤(p++[(i:Int)]).length∧lexB (p++[(i:Int)]) (p++[(i:Int)]).reverse=true then some q else none:=by
 have hs:=h.s0
 unfold ringP
 by_cases hl:2≤(p++[(i:Int)]).length
 · have hne:p ≠ []:=by
    intro e; rw [e] at hl; simp at hl
   have hw:=h.walk hi hp (by omega) []
   rw [List.append_nil,h1] at hw
   rw [if_pos hl,startA_app hne,h.st hne,hw]
   simp only [true_and,hl]
   by_cases hx:lexB (p++[(i:Int)]) (p++[(i:Int)]).reverse=true
   · rw [if_pos ⟨h.nd,h.ge,hx⟩,if_pos hx]
   · rw [if_neg (fun e=>hx e.2.2),if_neg hx]
 · rw [if_neg hl,if_neg (fun e=>hl e.1)]
theorem InvD.init {n:TNetwork} {v:Nat} (hv:v < n.Nodes.length):InvD n (v:Int) (v:Int) [] [(v:Int)] :=
 ⟨⟨[],rfl,fun _=>rfl⟩,by simp,by simp,fun h=>absurd rfl h,rfl,by omega,by simp; omega⟩
theorem InvD.le {n:TNetwork} {s a:Int} {p q:List Int} (h:InvD n s a p q):q.length≤n.Nodes.length:=nodup_le _ q h.nd h.rg
theorem InvD.nodup {n:TNetwork} {s a:Int} {p q:List Int} (h:InvD n s a p q):p.Nodup:=by
 obtain ⟨q0,hq,hw⟩:=h.wk
 have:=hw []
 rw [List.append_nil] at this
 exact wkI_nodup this
theorem flat_split {α:Type} (f:Nat→List α) {i F:Nat} (h:i≤F):∃ R,(List.range F).flatMap f=(List.range i).flatMap f++R:=by
 obtain ⟨d,rfl⟩:=Nat.exists_eq_add_of_le h
 rw [List.range_add,List.flatMap_append]
 exact ⟨_,rfl⟩
theorem flat_succ {α:Type} (f:Nat→List α) (i:Nat):(List.range (i+1)).flatMap f=(List.range i).flatMap f++f i:=by
 rw [List.range_succ,List.flatMap_append]; simp
theorem flat_len {α:Type} (f:Nat→List α) (c:Nat):∀ (i:Nat),(∀ j,j < i→(f j).length≤c)→((List.range i).flatMap f).length≤i * c
 | 0,_=>by simp
 | i + 1, h => by
   rw [flat_succ,List.length_append,Nat.succ_mul]
   have:=flat_len f c i fun j hj=>h j (by omega)
   have:=h i (by omega)
   omega
theorem stepD_len {n:TNetwork} {s:Int} {D:Int→List Int→List Int→List (List Int)} {c:Nat} (hc:1≤c) (hD:∀ a p q,(D a p q).length≤c) (a:Int) (p q:List Int) (i:Nat):(stepD n s D a p q i).length≤c:=by
 unfold stepD
 split
 · simp
 · split
   · split <;> simp; omega
   · split
     · simp
     · exact hD _ _ _
theorem dfsD_len {n:TNetwork} {s:Int} (hF:n.Fibers.length≤14):∀ (k:Nat) (a:Int) (p q:List Int),(dfsD n s k a p q).length≤14 ^ (k+1)
 | 0, a, p, q => by
   unfold dfsD bodyD
   have:=flat_len (stepD n s (fun _ _ _=>[]) a p q) 1 n.Fibers.length fun j _=>stepD_len (by omega) (fun _ _ _=>by simp) a p q j
   omega
 | k + 1, a, p, q => by
   unfold dfsD bodyD
   have h1:1≤14 ^ (k+1):=Nat.pow_pos (by omega)
   have:=flat_len (stepD n s (dfsD n s k) a p q) (14 ^ (k+1)) n.Fibers.length fun j _=>stepD_len h1 (dfsD_len hF k) a p q j
   have h2:n.Fibers.length * 14 ^ (k+1)≤14 * 14 ^ (k+1):=Nat.mul_le_mul_right _ hF
   rw [Nat.pow_succ 14 (k+1)]
   omega
end Vs

namespace Vs
open Go
def lessB (a b:List Int):Bool:=if a.length=b.length then lexB a b else decide (a.length < b.length)
theorem p_l17LessG (a b:List Int) (hl:a.length≤1048576):M_br a b=some (lessB a b):=by
 unfold lessB
 by_cases h:a.length=b.length
 · rw [if_pos h]; exact p_l17Less a b h hl
 · rw [if_neg h]
   unfold M_br
   have e:((a.length:Int) != (b.length:Int))=true:=bne_iff_ne.2 (by omega)
   rw [e,cond_true]
   congr 1
   by_cases h2:a.length < b.length <;> simp [h2] <;> omega
theorem find_shift {α:Type} (p:Nat→α→Bool) (hp:∀ i j y,p i y=p j y):∀ (xs:List α) (k:Nat),((xs.zipIdx (k+1)).find? fun q=>p q.2 q.1)=((xs.zipIdx k).find? fun q=>p q.2 q.1).map fun q=>(q.1,q.2+1)
 | [],k=>rfl
 | x :: xs, k => by
   rw [List.zipIdx_cons,List.zipIdx_cons,List.find?_cons,List.find?_cons]
   simp only [hp (k+1) k x]
   cases p k x with
   | true=>rfl
   | false=>exact find_shift p hp xs (k+1)
theorem findI_cons {α:Type} (p:Nat→α→Bool) (x:α) (xs:List α) (hp:∀ i j y,p i y=p j y) :
 findI p (x::xs)=if p 0 x then some (0,x) else (findI p xs).map fun q=>(q.1+1,q.2):=by
 unfold findI
 rw [List.zipIdx_cons,List.find?_cons]
 by_cases h:p 0 x=true
 · simp [h]
 · simp only [Bool.not_eq_true] at h
   simp only [h,Bool.false_eq_true,if_false]
   rw [find_shift p hp xs 0,Option.map_map,Option.map_map]
   rfl
theorem lexB_cons (x y:Int) (a b:List Int):lexB (x::a) (y::b)=if x=y then lexB a b else decide (x < y):=by
 unfold lexB difB
 rw [List.zip_cons_cons,findI_cons _ _ _ (fun _ _ _=>rfl)]
 by_cases h:x=y
 · simp only [h,bne_self_eq_false,Bool.false_eq_true,if_false,if_true]
   cases findI (fun _ (q:Int×Int)=>q.1 != q.2) (a.zip b) <;> rfl
 · have:(x != y)=true:=bne_iff_ne.2 h
   simp only [this,if_true,if_neg h]
theorem lexB_irr:∀ a:List Int,lexB a a=false
 | []=>rfl
 | x::a=>by rw [lexB_cons,if_pos rfl]; exact lexB_irr a
theorem lexB_trans:∀ a b c:List Int,a.length=b.length→b.length=c.length→lexB a b=true→lexB b c=true→lexB a c=true
 | [],[],[],_,_,h,_=>h
 | x :: a, y :: b, z :: c, h1, h2, h3, h4 => by
   rw [lexB_cons] at h3 h4 ⊢
   by_cases e1:x=y
   · rw [if_pos e1] at h3
     by_cases e2:y=z
     · rw [if_pos e2] at h4
       rw [if_pos (e1.trans e2)]
       exact lexB_trans a b c (by simpa using h1) (by simpa using h2) h3 h4
     · rw [if_neg e2] at h4
       rw [if_neg (by omega)]
       simp only [decide_eq_true_eq] at h4 ⊢; omega
   · rw [if_neg e1] at h3
     simp only [decide_eq_true_eq] at h3
     by_cases e2:y=z
     · rw [if_neg (by omega)]; simp only [decide_eq_true_eq]; omega
     · rw [if_neg e2] at h4
       simp only [decide_eq_true_eq] at h4
       rw [if_neg (by omega)]; simp only [decide_eq_true_eq]; omega
theorem lexB_tot:∀ a b:List Int,a.length=b.length→lexB a b=false→lexB b a=false→a=b
 | [],[],_,_,_=>rfl
 | x :: a, y :: b, h, h1, h2 => by
   rw [lexB_cons] at h1 h2
   by_cases e:x=y
   · rw [if_pos e] at h1
     rw [if_pos e.symm] at h2
     rw [e,lexB_tot a b (by simpa using h) h1 h2]
   · rw [if_neg e] at h1
     rw [if_neg (Ne.symm e)] at h2
     simp only [decide_eq_false_iff_not] at h1 h2; omega
theorem lessB_irr (a:List Int):lessB a a=false:=by
 unfold lessB; rw [if_pos rfl]; exact lexB_irr a
theorem lessB_trans {a b c:List Int} (h1:lessB a b=true) (h2:lessB b c=true):lessB a c=true:=by
 unfold lessB at *
 by_cases e1:a.length=b.length
 · rw [if_pos e1] at h1
   by_cases e2:b.length=c.length
   · rw [if_pos e2] at h2
     rw [if_pos (e1.trans e2)]
     exact lexB_trans a b c e1 e2 h1 h2
   · rw [if_neg e2] at h2
     rw [if_neg (by omega)]; simp only [decide_eq_true_eq] at h2 ⊢; omega
 · rw [if_neg e1] at h1
   simp only [decide_eq_true_eq] at h1
   by_cases e2:b.length=c.length
   · rw [if_neg (by omega)]; simp only [decide_eq_true_eq]; omega
   · rw [if_neg e2] at h2
     simp only [decide_eq_true_eq] at h2
     rw [if_neg (by omega)]; simp only [decide_eq_true_eq]; omega
theorem lessB_tot {a b:List Int} (h1:lessB a b=false) (h2:lessB b a=false):a=b:=by
 unfold lessB at *
 by_cases e:a.length=b.length
 · rw [if_pos e] at h1
   rw [if_pos e.symm] at h2
   exact lexB_tot a b e h1 h2
 · rw [if_neg e] at h1
   rw [if_neg (Ne.symm e)] at h2
   simp only [decide_eq_false_iff_not] at h1 h2; omega
theorem lessB_ntrans {a b c:List Int} (h1:lessB a b=false) (h2:lessB b c=false):lessB a c=false:=by
 cases h:lessB a c with
 | false=>rfl
 | true =>
   -- c≤b≤a < c
   cases h3:lessB b a with
   | true=>rw [lessB_trans h3 h] at h2; cases h2
   | false=>rw [lessB_tot h1 h3] at h; rw [h] at h2; cases h2
def insR (l:List (List Int)) (r:List Int):List (List Int):=l.takeWhile (fun x=>lessB x r)++[r]++l.dropWhile (fun x=>lessB x r)
def putR (l:List (List Int)) (r:List Int):List (List Int):=if l.length≤60 then insR l r else l
def putsR (l:List (List Int)) (rs:List (List Int)):List (List Int):=rs.foldl putR l
theorem insR_perm (l:List (List Int)) (r:List Int):(insR l r).Perm (r::l):=by
 unfold insR
 have h:l.takeWhile (fun x=>lessB x r)++l.dropWhile (fun x=>lessB x r)=l:=List.takeWhile_append_dropWhile
 rw [List.append_assoc]
 refine List.perm_middle.trans ?_
 show (r::(l.takeWhile (fun x=>lessB x r)++l.dropWhile (fun x=>lessB x r))).Perm (r::l)
 rw [h]
theorem insR_len (l:List (List Int)) (r:List Int):(insR l r).length=l.length+1:=(insR_perm l r).length_eq
theorem insR_srt {l:List (List Int)} {r:List Int} (h:l.Pairwise fun a b=>lessB b a=false):(insR l r).Pairwise fun a b=>lessB b a=false:=by
 induction l with
 | nil=>simp [insR]
 | cons x l ih =>
   rw [List.pairwise_cons] at h
   unfold insR
   by_cases hx:lessB x r=true
   · simp only [List.takeWhile_cons,List.dropWhile_cons,hx,if_true]
     show (x::insR l r).Pairwise _
     rw [List.pairwise_cons]
     refine ⟨fun y hy=>?_,ih h.2⟩
     have:=(insR_perm l r).mem_iff.1 hy
     rw [List.mem_cons] at this
     rcases this with e | e
     · rw [e]
       cases h':lessB r x with
       | false=>rfl
       | true=>rw [← lessB_trans hx h',lessB_irr]
     · exact h.1 y e
   · simp only [Bool.not_eq_true] at hx
     simp only [List.takeWhile_cons,List.dropWhile_cons,hx,Bool.false_eq_true,if_false]
     show (r::x::l).Pairwise _
     rw [List.pairwise_cons,List.pairwise_cons]
     refine ⟨fun y hy=>?_,h⟩
     rw [List.mem_cons] at hy
     rcases hy with e | e
     · rw [e]; exact hx
     · exact lessB_ntrans (h.1 y e) hx
theorem putR_len (l:List (List Int)) (r:List Int) (h:l.length≤61):(putR l r).length≤61:=by
 unfold putR
 split
 · rw [insR_len]; omega
 · exact h
theorem putsR_len:∀ (rs:List (List Int)) (l:List (List Int)),l.length≤61→(putsR l rs).length≤61
 | [],l,h=>h
 | r::rs,l,h=>putsR_len rs _ (putR_len l r h)
theorem putsR_full:∀ (rs:List (List Int)) (l:List (List Int)),60 < l.length→putsR l rs=l
 | [],l,h=>rfl
 | r :: rs, l, h => by
   show putsR (putR l r) rs=l
   have:putR l r=l:=by unfold putR; rw [if_neg (by omega)]
   rw [this]; exact putsR_full rs l h
theorem putsR_app (l xs ys:List (List Int)):putsR l (xs++ys)=putsR (putsR l xs) ys:=List.foldl_append
theorem putsR_spec:∀ (rs:List (List Int)) (l:List (List Int)),l.Pairwise (fun a b=>lessB b a=false)→l.length≤61→(putsR l rs).Pairwise (fun a b=>lessB b a=false) ∧
 (if l.length+rs.length≤61 then (putsR l rs).Perm (l++rs) else (putsR l rs).length=61)
 | [], l, h, hl => by
   refine ⟨h,?_⟩
   rw [if_pos (by simpa using hl),List.append_nil]; exact List.Perm.refl _
 | r :: rs, l, h, hl => by
   show (putsR (putR l r) rs).Pairwise _∧_
   by_cases h6:l.length≤60
   · have e:putR l r=insR l r:=by unfold putR; rw [if_pos h6]
     obtain ⟨h1,h2⟩:=putsR_spec rs (insR l r) (insR_srt h) (by rw [insR_len]; omega)
     rw [insR_len] at h2
     show (putsR (putR l r) rs).Pairwise _∧(if l.length+(rs.length+1)≤61 then (putsR (putR l r) rs).Perm _ else (putsR (putR l r) rs).length=61)
     rw [e]
     refine ⟨h1,?_⟩
     by_cases hc:l.length+(rs.length+1)≤61
     · rw [if_pos hc]
       rw [if_pos (by omega)] at h2
       refine h2.trans ?_
       exact ((insR_perm l r).append_right rs).trans List.perm_middle.symm
     · rw [if_neg hc]
       rw [if_neg (by omega)] at h2
       exact h2
   · have e:putR l r=l:=by unfold putR; rw [if_neg h6]
     show _∧(if l.length+(rs.length+1)≤61 then (putsR (putR l r) rs).Perm _ else (putsR (putR l r) rs).length=61)
     rw [e,putsR_full rs l (by omega)]
     exact ⟨h,by rw [if_neg (by omega)]; omega⟩
theorem srt_eq:∀ (xs ys:List (List Int)),xs.Perm ys→xs.Pairwise (fun a b=>lessB b a=false)→ys.Pairwise (fun a b=>lessB b a=false)→xs=ys
 | [],ys,h,_,_=>(List.nil_perm.1 h).symm
 | x::xs,[],h,_,_=>by have:=h.length_eq; simp at this
 | x :: xs, y :: ys, h, h1, h2 => by
   rw [List.pairwise_cons] at h1 h2
   have e:x=y:=by
    have m1:x∈y::ys:=h.mem_iff.1 List.mem_cons_self
    have m2:y∈x::xs:=h.mem_iff.2 List.mem_cons_self
    rw [List.mem_cons] at m1 m2
    rcases m1 with e | m1
    · exact e
    · rcases m2 with e | m2
      · exact e.symm
      · exact lessB_tot (h2.1 x m1) (h1.1 y m2)
   subst e
   rw [srt_eq xs ys (List.Perm.cons_inv h) h1.2 h2.2]
end Vs

namespace Vs
open Go
theorem subT_takeG {α:Type} (xs:List α) (k:Nat) (h:k≤xs.length):subT xs 0 k=xs.take k:=by
 unfold subT
 split
 · rename_i e; rw [e.2,List.take_length]
 · rw [List.drop_zero]
theorem subT_dropG {α:Type} (xs:List α) (k:Nat) (h:k≤xs.length):subT xs k (xs.length - k)=xs.drop k:=by
 unfold subT
 split
 · rename_i e; rw [e.1,List.drop_zero]
 · rw [List.take_of_length_le (by simp)]
theorem take_while {α:Type} (p:α→Bool):∀ (l:List α),l.take (l.takeWhile p).length=l.takeWhile p∧l.drop (l.takeWhile p).length=l.dropWhile p
 | []=>⟨rfl,rfl⟩
 | x :: l => by
   obtain ⟨h1,h2⟩:=take_while p l
   simp only [List.takeWhile_cons,List.dropWhile_cons]
   by_cases h:p x=true
   · simp [h,h1,h2]
   · simp only [Bool.not_eq_true] at h
     simp [h]
theorem tw_le {α:Type} (p:α→Bool) (l:List α):(l.takeWhile p).length≤l.length:=by
 rw [← (take_while p l).1,List.length_take]; omega
theorem tw_at {α:Type} (p:α→Bool):∀ (l:List α) (i:Nat),(∀ j y,j < i→l[j]?=some y→p y=true)→i≤l.length→(i=l.length∨∃ y,l[i]?=some y∧p y=false)→(l.takeWhile p).length=i
 | [],i,_,h,_=>by simp at h ⊢; omega
 | x :: l, 0, h1, h2, h3 => by
   rcases h3 with h3 | ⟨y,h3,h4⟩
   · simp at h3
   · simp at h3; subst h3; simp [List.takeWhile_cons,h4]
 | x :: l, i + 1, h1, h2, h3 => by
   have hx:=h1 0 x (by omega) rfl
   rw [List.takeWhile_cons,hx]
   simp only [if_true,List.length_cons]
   rw [tw_at p l i (fun j y hj hy=>h1 (j+1) y (by omega) (by simpa using hy)) (by simpa using h2) (by
    rcases h3 with h3 | ⟨y,h3,h4⟩
    · left; simpa using h3
    · right; exact ⟨y,by simpa using h3,h4⟩)]
theorem p_l17Put (l:List (List Int)) (r:List Int) (h:∀ x∈l,x.length≤1048576) (hl:l.length≤1000):M_cu l r=some (insR l r,l):=by
 unfold M_cu
 obtain ⟨b,hb,hq⟩:=iter_inv (f:=M_ad l r) (fun s=>∃ i:Nat,s=(i:Int)∧i≤l.length∧∀ j y,j < i→l[j]?=some y→lessB y r=true) (fun s=>l.length - s.toNat) (fun b=>b=(((l.takeWhile fun x=>lessB x r).length:Nat):Int))
  (fun s ⟨i,e,h1,h2⟩=>by
   subst e
   unfold M_ad
   by_cases hi:i < l.length
   · have e1:decide ((i:Int) < (l.length:Int))=true:=by simp [hi]
     have e2:l[i]?=some l[i]:=List.getElem?_eq_getElem hi
     rw [e1,cond_true,grd_t (by omega),Option.bind_some,Int.toNat_natCast,e2,Option.bind_some,p_l17LessG _ _ (h _ (List.getElem_mem hi)),Option.bind_some]
     cases hc:lessB l[i] r with
     | true =>
       left
       refine ⟨((i+1:Nat):Int),by rw [cond_true,w64_eq (by omega) (by omega)]; rfl,⟨i+1,rfl,by omega,fun j y hj hy=>?_⟩,by simp; omega⟩
       by_cases hji:j=i
       · subst hji; rw [e2] at hy; cases hy; exact hc
       · exact h2 j y (by omega) hy
     | false =>
       right
       exact ⟨_,rfl,by rw [tw_at _ l i h2 (by omega) (.inr ⟨_,e2,hc⟩)]⟩
   · have e1:decide ((i:Int) < (l.length:Int))=false:=by simp; omega
     right
     rw [e1]
     exact ⟨_,rfl,by rw [tw_at _ l i h2 h1 (.inl (by omega))]⟩) N0 0 ⟨0,rfl,by omega,fun j y hj=>by omega⟩ (N0_lt (by simp; omega))
 subst hq
 have hk:=tw_le (fun x=>lessB x r) l
 rw [hb,Option.bind_some,Int.toNat_natCast]
 rw [grd_t ⟨trivial,by omega,trivial,hk⟩,Option.bind_some]
 simp only [bnd]
 rw [subT_takeG _ _ hk,subT_dropG _ _ hk,(take_while _ l).1,(take_while _ l).2]
 rw [grd_t (by omega),Option.bind_some]
 rw [grd_t (by omega),Option.bind_some]
 rw [grd_t ⟨by omega,trivial,hk,trivial⟩,Option.bind_some]
 have hd:(l.dropWhile fun x=>lessB x r).length≤l.length:=by
  rw [← (take_while _ l).2,List.length_drop]; omega
 rw [grd_t (by simp; omega),Option.bind_some]
 rfl
theorem p_l1Own (l:List Int) (hl:l.length≤1048576):M_bj l=some l:=by
 unfold M_bj
 rw [grd_t (by omega),Option.bind_some]
def RcS (n:TNetwork) (s:Int) (D:Int→List Int→List Int→List (List Int)) (L:Nat) (rc:Int→Int→List ByteArray→List TFiber→List (List Int)→List Int→List Int→Option (List ByteArray×List TFiber×List (List Int)×List Int×List Int)):Prop :=
 ∀ a p q l,InvD n s a p q→q.length=L+1→l.length≤61→(∀ x∈l,x.length≤14)→rc s a n.Nodes n.Fibers l p q=some (n.Nodes,n.Fibers,putsR l (D a p q),p,q)
theorem ring_len {n:TNetwork} (hn:netOk n=true) {s a:Int} {p q:List Int} (h:InvD n s a p q):p.length+1≤8:=by
 have h1:=h.le
 have h2:=h.len
 have:=netOk_bR hn
 omega
theorem putsR_mem:∀ (rs l:List (List Int)) (x:List Int),x∈putsR l rs→x∈l∨x∈rs
 | [],l,x,h=>.inl h
 | r :: rs, l, x, h => by
   rcases putsR_mem rs (putR l r) x h with h | h
   · unfold putR at h
     split at h
     · rcases List.mem_cons.1 ((insR_perm l r).mem_iff.1 h) with h | h
       · right; rw [h]; exact List.mem_cons_self
       · exact .inl h
     · exact .inl h
   · exact .inr (List.mem_cons_of_mem _ h)
def OkD (n:TNetwork) (r:List Int):Prop:=(ringP n r).isSome=true∧r.length≤8
theorem bodyD_ok {n:TNetwork} (hn:netOk n=true) {s:Int} {D:Int→List Int→List Int→List (List Int)} {L:Nat} (hD:∀ a p q,InvD n s a p q→q.length=L+1→∀ r∈D a p q,OkD n r)
 {a:Int} {p q:List Int} (h:InvD n s a p q) (hq:q.length=L):∀ r∈bodyD n s D a p q,OkD n r:=by
 intro r hr
 unfold bodyD at hr
 rw [List.mem_flatMap] at hr
 obtain ⟨i,hi,hr⟩:=hr
 rw [List.mem_range] at hi
 unfold stepD at hr
 split at hr
 · cases hr
 · rename_i h1
   rw [not_or] at h1
   split at hr
   · rename_i h2
     split at hr
     · rename_i h3
       rw [List.mem_singleton] at hr
       subst hr
       refine ⟨by rw [h.close hi h1.2 h2,if_pos h3]; rfl,?_⟩
       have:=ring_len hn h
       simp; omega
     · cases hr
   · rename_i h2
     split at hr
     · cases hr
     · rename_i h3
       exact hD _ _ _ (h.ext hn hi h1.2 h1.1 h2 h3) (by simp [hq]) r hr
theorem dfsD_ok {n:TNetwork} (hn:netOk n=true) {s:Int}:∀ (k:Nat) {a:Int} {p q:List Int},InvD n s a p q→q.length+k=n.Nodes.length→∀ r∈dfsD n s k a p q,OkD n r
 | 0,a,p,q,h,hk=>bodyD_ok hn (L:=q.length) (fun _ _ _ _ _ _ hr=>by cases hr) h rfl
 | k+1,a,p,q,h,hk=>bodyD_ok hn (L:=q.length) (fun a' p' q' h' hq'=>dfsD_ok hn k h' (by omega)) h rfl
theorem spec_body {n:TNetwork} (hn:netOk n=true) {s:Int} {D:Int→List Int→List Int→List (List Int)} {L:Nat}
 {rc:Int→Int→List ByteArray→List TFiber→List (List Int)→List Int→List Int→Option (List ByteArray×List TFiber×List (List Int)×List Int×List Int)}
 (hrc:RcS n s D L rc) (hD:∀ a p q,InvD n s a p q→q.length=L+1→∀ r∈D a p q,OkD n r) {a:Int} {p q:List Int} (h:InvD n s a p q) (hq:q.length=L) (l0:List (List Int)) (hl0:l0.length≤61) (hx0:∀ x∈l0,x.length≤14) :
 M_dd rc s a n.Nodes n.Fibers l0 p q=some (n.Nodes,n.Fibers,putsR l0 (bodyD n s D a p q),p,q):=by
 unfold M_dd
 have hF:=(netOk_bR hn).2.2
 have hpl:=ring_len hn h
 have hql:=h.len
 obtain ⟨b,hb,hQ⟩:=iter_inv (f:=M_d s a p q rc) (fun t=>∃ i:Nat,t=((i:Int),n.Nodes,n.Fibers,putsR l0 ((List.range i).flatMap (stepD n s D a p q)))∧i≤n.Fibers.length) (fun t=>n.Fibers.length - t.1.toNat)
  (fun b=>b=(n.Nodes,n.Fibers,putsR l0 (bodyD n s D a p q)))
  (fun t ⟨i,e,hi⟩=>by
   subst e
   obtain ⟨l,hl⟩:∃ l,l=putsR l0 ((List.range i).flatMap (stepD n s D a p q)):=⟨_,rfl⟩
   have hll:l.length≤61:=by rw [hl]; exact putsR_len _ _ hl0
   have hlx:∀ x∈l,x.length≤14:=by
    intro x hx
    rw [hl] at hx
    rcases putsR_mem _ _ _ hx with hx | hx
    · exact hx0 x hx
    · obtain ⟨R,hR⟩:=flat_split (stepD n s D a p q) hi
      have:=(bodyD_ok hn hD h hq x (by unfold bodyD; rw [hR]; exact List.mem_append_left _ hx)).2
      omega
   have hnext:putsR l (stepD n s D a p q i)=putsR l0 ((List.range (i+1)).flatMap (stepD n s D a p q)):=by rw [flat_succ,putsR_app,hl]
   rw [← hl]
   unfold M_d
   by_cases hi2:i < n.Fibers.length
   · have e1:decide ((i:Int) < (n.Fibers.length:Int))=true:=by simp [hi2]
     simp only [e1,cond_true,Option.bind_some]
     by_cases h6:l.length≤60
     · have e2:decide ((l.length:Int)≤60)=true:=by simp; omega
       simp only [e2,cond_true]
       have e3:M_bz (⟨n.Nodes,n.Fibers⟩:TNetwork) (i:Int) a=some (othI n (i:Int) a):=p_l2Other n (i:Int) a (wi_nat hi2)
       have e4:M_g p (i:Int)=some (decide ((i:Int)∈p)):=by rw [p_l1Has _ _ (by omega),any_mem]
       have e5:M_g q (othI n (i:Int) a)=some (decide (othI n (i:Int) a∈q)):=by rw [p_l1Has _ _ (by omega),any_mem]
       have w1:IntKind.wrap .i64 ((i:Int)+1)=((i+1:Nat):Int):=by rw [w64_eq (by omega) (by omega)]; rfl
       have fin:∀ l',l'=putsR l (stepD n s D a p q i)→(∃ i':Nat,(((i+1:Nat):Int),n.Nodes,n.Fibers,l')=((i':Int),n.Nodes,n.Fibers,putsR l0 ((List.range i').flatMap (stepD n s D a p q)))∧i'≤n.Fibers.length) :=
        fun l' e=>⟨i+1,by rw [e,hnext],by omega⟩
       have fin2:∀ l',l'=putsR l (stepD n s D a p q i)→(n.Fibers.length - ((((i+1:Nat):Int),n.Nodes,n.Fibers,l'):Int×List ByteArray×List TFiber×List (List Int)).1.toNat < n.Fibers.length - (((i:Int),n.Nodes,n.Fibers,l):Int×List ByteArray×List TFiber×List (List Int)).1.toNat):=fun l' _=>by simp only [Int.toNat_natCast]; omega
       left
       simp only [e3,Option.bind_some,e4,w1]
       by_cases c1:othI n (i:Int) a < s
       · simp only [c1,decide_true,cond_true,Option.bind_some]
         have:l=putsR l (stepD n s D a p q i):=by unfold stepD; rw [if_pos (.inl c1)]; rfl
         exact ⟨_,rfl,fin l this,fin2 l this⟩
       · simp only [c1,decide_false,cond_false,Option.bind_some]
         by_cases c2:(i:Int)∈p
         · simp only [c2,decide_true,cond_true]
           have:l=putsR l (stepD n s D a p q i):=by unfold stepD; rw [if_pos (.inr c2)]; rfl
           exact ⟨_,rfl,fin l this,fin2 l this⟩
         · simp only [c2,decide_false,cond_false,p_l1Own p (by omega),Option.bind_some,bnd]
           rw [grd_t (by omega),Option.bind_some]
           have hne:¬ (othI n (i:Int) a < s∨(i:Int)∈p):=fun e=>e.elim c1 c2
           by_cases c3:othI n (i:Int) a=s
           · have e6:(othI n (i:Int) a==s)=true:=by rw [c3]; simp
             simp only [e6,cond_true]
             by_cases c4:2≤(p++[(i:Int)]).length
             · have e7:decide (1 < ((p++[(i:Int)]).length:Int))=true:=by rw [decide_eq_true_eq]; omega
               have hnd:(p++[(i:Int)]).Nodup:=by
                rw [List.nodup_append]
                exact ⟨h.nodup,by simp,fun x hx y hy e=>by rw [List.mem_singleton] at hy; subst hy; subst e; exact c2 hx⟩
               have e8:M_br (p++[(i:Int)]).reverse (p++[(i:Int)])=some (!lexB (p++[(i:Int)]) (p++[(i:Int)]).reverse):=by
                rw [p_l17Less _ _ (by simp) (by simp; omega),← lexB_swap]
                rw [difB_swap]
                have:=dif_rev hnd c4
                cases hd:difB (p++[(i:Int)]) (p++[(i:Int)]).reverse with
                | none=>rw [hd] at this; cases this
                | some q=>rfl
               simp only [e7,cond_true,p_l17Back (p++[(i:Int)]) (by simp; omega),Option.bind_some,e8,Bool.not_not]
               by_cases c5:lexB (p++[(i:Int)]) (p++[(i:Int)]).reverse=true
               · simp only [c5,cond_true]
                 rw [p_l17Put l _ (fun x hx=>by have:=hlx x hx; omega) (by omega)]
                 simp only [Option.bind_some]
                 have:insR l (p++[(i:Int)])=putsR l (stepD n s D a p q i):=by
                  unfold stepD; rw [if_neg hne,if_pos c3,if_pos ⟨c4,c5⟩]
                  show _=putR l _
                  unfold putR; rw [if_pos h6]
                 exact ⟨_,rfl,fin _ this,fin2 _ this⟩
               · simp only [Bool.not_eq_true] at c5
                 simp only [c5,cond_false,Option.bind_some]
                 have:l=putsR l (stepD n s D a p q i):=by
                  unfold stepD; rw [if_neg hne,if_pos c3,if_neg (fun e=>by rw [c5] at e; exact Bool.noConfusion e.2)]; rfl
                 exact ⟨_,rfl,fin _ this,fin2 _ this⟩
             · have e7:decide (1 < ((p++[(i:Int)]).length:Int))=false:=by rw [decide_eq_false_iff_not]; omega
               simp only [e7,cond_false,Option.bind_some]
               have:l=putsR l (stepD n s D a p q i):=by
                unfold stepD; rw [if_neg hne,if_pos c3,if_neg (fun e=>c4 e.1)]; rfl
               exact ⟨_,rfl,fin _ this,fin2 _ this⟩
           · have e6:(othI n (i:Int) a==s)=false:=by simp [c3]
             simp only [e6,cond_false,e5,Option.bind_some]
             by_cases c4:othI n (i:Int) a∈q
             · simp only [c4,decide_true,Bool.not_true,cond_false]
               have:l=putsR l (stepD n s D a p q i):=by
                unfold stepD; rw [if_neg hne,if_neg c3,if_pos c4]; rfl
               exact ⟨_,rfl,fin _ this,fin2 _ this⟩
             · simp only [c4,decide_false,Bool.not_false,cond_true,p_l1Own q (by omega),Option.bind_some]
               rw [grd_t (by omega),Option.bind_some]
               rw [hrc _ _ _ l (h.ext hn hi2 c2 c1 c3 c4) (by simp [hq]) hll hlx,Option.bind_some]
               have:putsR l (D (othI n (i:Int) a) (p++[(i:Int)]) (q++[othI n (i:Int) a]))=putsR l (stepD n s D a p q i):=by
                unfold stepD; rw [if_neg hne,if_neg c3,if_neg c4]
               exact ⟨_,rfl,fin _ this,fin2 _ this⟩
     · have e2:decide ((l.length:Int)≤60)=false:=by simp; omega
       right
       simp only [e2,cond_false]
       refine ⟨_,rfl,?_⟩
       obtain ⟨R,hR⟩:=flat_split (stepD n s D a p q) hi
       have:putsR l0 (bodyD n s D a p q)=l:=by
        unfold bodyD; rw [hR,putsR_app,← hl,putsR_full _ _ (by omega)]
       rw [this]
   · have e1:decide ((i:Int) < (n.Fibers.length:Int))=false:=by simp; omega
     right
     simp only [e1,cond_false,Option.bind_some]
     refine ⟨_,rfl,?_⟩
     have:i=n.Fibers.length:=by omega
     rw [hl,this]; rfl) N0 (0,n.Nodes,n.Fibers,l0) ⟨0,rfl,by omega⟩ (N0_lt (by simp; omega))
 rw [hb,hQ]; rfl
theorem p_extend {n:TNetwork} (hn:netOk n=true) {s:Int}:∀ (k m:Nat),k < m→∀ {a:Int} {p q:List Int} (l:List (List Int)),InvD n s a p q→q.length+k=n.Nodes.length→l.length≤61→(∀ x∈l,x.length≤14) →
 M_ca m s a n.Nodes n.Fibers l p q=some (n.Nodes,n.Fibers,putsR l (dfsD n s k a p q),p,q)
 | 0, m + 1, _, a, p, q, l, h, hk, hl, hx => by
   show M_dd _ s a n.Nodes n.Fibers l p q=_
   exact spec_body hn (D:=fun _ _ _=>[]) (L:=q.length) (fun a' p' q' l' h' hq' _ _=>by have:=h'.le; omega) (fun _ _ _ _ _ _ hr=>by cases hr) h rfl l hl hx
 | k + 1, m + 1, hm, a, p, q, l, h, hk, hl, hx => by
   show M_dd _ s a n.Nodes n.Fibers l p q=_
   exact spec_body hn (D:=dfsD n s k) (L:=q.length) (fun a' p' q' l' h' hq' hl' hx'=>p_extend hn k m (by omega) l' h' (by omega) hl' hx') (fun a' p' q' h' hq'=>dfsD_ok hn k h' (by omega)) h rfl l hl hx
def ringsD (n:TNetwork):List (List Int):=(List.range n.Nodes.length).flatMap fun v:Nat=>dfsD n (v:Int) (n.Nodes.length - 1) (v:Int) [] [(v:Int)]
theorem ringsD_ok {n:TNetwork} (hn:netOk n=true):∀ r∈ringsD n,OkD n r:=by
 intro r hr
 unfold ringsD at hr
 rw [List.mem_flatMap] at hr
 obtain ⟨v,hv,hr⟩:=hr
 rw [List.mem_range] at hv
 exact dfsD_ok hn _ (InvD.init hv) (by simp; omega) r hr
theorem p_l17All (n:TNetwork) (hn:netOk n=true):M_de n=some (putsR [] (ringsD n)):=by
 unfold M_de
 have hN:=netOk_bR hn
 obtain ⟨b,hb,hQ⟩:=iter_inv (f:=M_ae n) (fun t=>∃ i:Nat,t=((i:Int),n.Nodes,n.Fibers,putsR [] ((List.range i).flatMap fun v:Nat=>dfsD n (v:Int) (n.Nodes.length - 1) (v:Int) [] [(v:Int)]))∧i≤n.Nodes.length) (fun t=>n.Nodes.length - t.1.toNat)
  (fun b=>b=(n.Nodes,n.Fibers,putsR [] (ringsD n)))
  (fun t ⟨i,e,hi⟩=>by
   subst e
   obtain ⟨l,hl⟩:∃ l,l=putsR [] ((List.range i).flatMap fun v:Nat=>dfsD n (v:Int) (n.Nodes.length - 1) (v:Int) [] [(v:Int)]):=⟨_,rfl⟩
   have hll:l.length≤61:=by rw [hl]; exact putsR_len _ _ (by simp)
   have hlx:∀ x∈l,x.length≤14:=by
    intro x hx
    rw [hl] at hx
    rcases putsR_mem _ _ _ hx with hx | hx
    · cases hx
    · obtain ⟨R,hR⟩:=flat_split (fun v:Nat=>dfsD n (v:Int) (n.Nodes.length - 1) (v:Int) [] [(v:Int)]) hi
      have:=(ringsD_ok hn x (by unfold ringsD; rw [hR]; exact List.mem_append_left _ hx)).2
      omega
   rw [← hl]
   unfold M_ae
   by_cases hi2:i < n.Nodes.length
   · have e1:decide ((i:Int) < (n.Nodes.length:Int))=true:=by simp [hi2]
     left
     simp only [e1,cond_true,bnd]
     rw [p_extend hn (n.Nodes.length - 1) N0 (N0_lt (by omega)) l (InvD.init hi2) (by simp; omega) hll hlx,Option.bind_some]
     refine ⟨_,rfl,⟨i+1,?_,by omega⟩,?_⟩
     · rw [w64_eq (by omega) (by omega),flat_succ,putsR_app,hl]; rfl
     · simp only [Int.toNat_natCast]
       rw [w64_eq (by omega) (by omega)]; omega
   · have e1:decide ((i:Int) < (n.Nodes.length:Int))=false:=by simp; omega
     right
     simp only [e1,cond_false]
     refine ⟨_,rfl,?_⟩
     have:i=n.Nodes.length:=by omega
     rw [hl,this]; rfl) N0 (0,n.Nodes,n.Fibers,[]) ⟨0,rfl,by omega⟩ (N0_lt (by simp; omega))
 rw [hb,hQ]; rfl
end Vs

namespace Vs
open Go
theorem bits64T:IntKind.bits .i64=64:=rfl
theorem ofNat64T (a:Nat):BitVec.ofInt 64 (a:Int)=BitVec.ofNat 64 a:=by
 apply BitVec.eq_of_toNat_eq
 simp [BitVec.toNat_ofInt]
theorem borT (a b:Nat) (ha:a < 2 ^ 62) (hb:b < 2 ^ 62):bits .or .i64 (a:Int) (b:Int)=((a ||| b:Nat):Int):=by
 have hab:a ||| b < 2 ^ 62:=Nat.or_lt_two_pow ha hb
 show IntKind.wrap .i64 ((BitVec.ofInt 64 (a:Int) ||| BitVec.ofInt 64 (b:Int)).toNat:Int)=_
 rw [ofNat64T,ofNat64T,BitVec.toNat_or,BitVec.toNat_ofNat,BitVec.toNat_ofNat,Nat.mod_eq_of_lt (by omega),Nat.mod_eq_of_lt (by omega),w64_eq (by omega) (by omega)]
theorem tbitV (m i:Nat) (hi:i < 64) (hm:m < 2 ^ 62):bits .and .i64 (Int.fdiv (m:Int) (2 ^ (min i (IntKind.bits .i64)))) 1=if m.testBit i then 1 else 0:=by
 have e1:min i (IntKind.bits .i64)=i:=by rw [bits64T]; omega
 have e2:Int.fdiv (m:Int) (2 ^ i)=((m / 2 ^ i:Nat):Int):=by
  rw [Int.fdiv_eq_ediv_of_nonneg _ (by exact_mod_cast Nat.zero_le (2 ^ i))]
  simp
 have hlt:m / 2 ^ i < 2 ^ 62:=Nat.lt_of_le_of_lt (Nat.div_le_self ..) hm
 rw [e1,e2]
 have e3:bits .and .i64 ((m / 2 ^ i:Nat):Int) 1=((m / 2 ^ i % 2:Nat):Int):=by
  show IntKind.wrap .i64 ((BitVec.ofInt 64 ((m / 2 ^ i:Nat):Int) &&& BitVec.ofInt 64 ((1:Nat):Int)).toNat:Int)=_
  rw [ofNat64T,ofNat64T,BitVec.toNat_and,BitVec.toNat_ofNat,BitVec.toNat_ofNat,Nat.mod_eq_of_lt (by omega),Nat.mod_eq_of_lt (by omega),Nat.and_one_is_mod,w64_eq (by omega) (by omega)]
 rw [e3,Nat.testBit_eq_decide_div_mod_eq]
 have:=Nat.mod_two_eq_zero_or_one (m / 2 ^ i)
 rcases this with h | h <;> rw [h] <;> simp
theorem tbit0 (m i:Nat) (hi:i < 64) (hm:m < 2 ^ 62):(bits .and .i64 (Int.fdiv (m:Int) (2 ^ (min i (IntKind.bits .i64)))) 1==0)=!m.testBit i:=by
 rw [tbitV m i hi hm]
 cases m.testBit i <;> rfl
theorem shl1T (x:Nat) (hx:x < 62):IntKind.wrap .i64 (1 * 2 ^ (min x (IntKind.bits .i64)))=((2 ^ x:Nat):Int):=by
 have e1:min x (IntKind.bits .i64)=x:=by rw [bits64T]; omega
 have h:2 ^ x < 2 ^ 62:=Nat.pow_lt_pow_right (by omega) hx
 have e2:((1:Int) * 2 ^ x)=((2 ^ x:Nat):Int):=by simp
 have key:∀ q:Nat,q < 2 ^ 62→IntKind.wrap .i64 (q:Int)=(q:Int):=fun q hq=>w64_eq (by omega) (by omega)
 rw [e1,e2,key _ h]
def bitGT (_:Nat) (x:Int) (m:Int):Int:=bits .or .i64 m (IntKind.wrap .i64 (1 * 2 ^ (min (Int.toNat x) (IntKind.bits .i64))))
def maskPT (l:List Int):Int:=foldI bitGT 0 l 0
theorem p_l6MaskT (l:List Int) (h0:∀ x∈l,0≤x∧x < 1048576) (hl:l.length≤1048576):M_cy l=some (maskPT l):=by
 unfold M_cy
 have:iter (M_af l) N0 (0,0)=some (maskPT l):=by
  refine iter_foldI (f:=M_af l) l (fun i (a:Int)=>(a,(i:Int))) bitGT id (fun _ _=>True) (fun i a x hx _=>?_) (fun a _=>by simp [M_af]) 0 trivial (by omega)
  have hlt:=(List.getElem?_eq_some_iff.1 hx).1
  have h1:decide ((i:Int) < l.length)=true:=by simp [hlt]
  have h2:=h0 x (List.mem_of_getElem? hx)
  have h3:IntKind.wrap .u64 x=x:=w64u_eq h2.1 (by omega)
  simp only [M_af,h1,cond_true,geti_nat,hx,Option.bind_some,h3,grd_t h2.1]
  rw [w64_eq (n:=(i:Int)+1) (by omega) (by omega)]
  exact ⟨trivial,rfl⟩
 rw [this]; rfl
theorem mask_specT:∀ (g:List Int) (k:Nat) (m:Nat),(∀ x∈g,0≤x∧x < 62)→m < 2 ^ 62→∃ m':Nat,foldI bitGT k g (m:Int)=(m':Int)∧m' < 2 ^ 62∧∀ i,m'.testBit i=(m.testBit i||decide ((i:Int)∈g))
 | [],_,m,_,hm=>⟨m,rfl,hm,fun i=>by simp⟩
 | x :: g, k, m, hg, hm => by
   have hx:=hg x List.mem_cons_self
   have hp:2 ^ x.toNat < 2 ^ 62:=Nat.pow_lt_pow_right (by omega) (by omega)
   have e:bitGT k x (m:Int)=((m ||| 2 ^ x.toNat:Nat):Int):=by
    unfold bitGT
    rw [shl1T x.toNat (by omega),borT m _ hm hp]
   obtain ⟨m',h1,h2,h3⟩:=mask_specT g (k+1) (m ||| 2 ^ x.toNat) (fun y hy=>hg y (List.mem_cons_of_mem _ hy)) (Nat.or_lt_two_pow hm hp)
   refine ⟨m',by rw [foldI,e]; exact h1,h2,fun i=>?_⟩
   rw [h3,Nat.testBit_or,Nat.testBit_two_pow,Bool.or_assoc]
   congr 1
   by_cases h:x.toNat=i
   · have:x=(i:Int):=by omega
     simp [this]
   · have:¬ ((i:Int)=x):=by omega
     simp [h,this]
theorem maskP_specT (g:List Int) (hg:∀ x∈g,0≤x∧x < 62):∃ m:Nat,maskPT g=(m:Int)∧m < 2 ^ 62∧∀ i,m.testBit i=decide ((i:Int)∈g):=by
 obtain ⟨m,h1,h2,h3⟩:=mask_specT g 0 0 hg (by decide)
 exact ⟨m,h1,h2,fun i=>by rw [h3]; simp⟩
end Vs

namespace Vs
open Go
def BitS (m:Nat) (q:List Int):Prop:=m < 2 ^ 62∧∀ i:Nat,m.testBit i=decide ((i:Int)∈q)
def RcI (n:TNetwork) (s:Int) (D:Int→List Int→List Int→List (List Int)) (L B:Nat) (rc:Int→Int→Int→List Int→TNetwork→List (List Int)→Option (TNetwork×List (List Int))):Prop :=
 ∀ a p q (m:Nat) l,InvD n s a p q→q.length=L+1→BitS m q→l.length≤B→rc s a (m:Int) p n l=some (n,l++D a p q)
theorem p_oth (n:TNetwork) {i:Nat} (hi:i < n.Fibers.length) (a:Int):((geti n.Fibers (i:Int)).bind fun y=>M_bv y a)=some (othI n (i:Int) a):=by
 rw [geti_nat,List.getElem?_eq_getElem hi,Option.bind_some,p_otherEnd]
 unfold othI
 rw [Int.toNat_natCast,List.getElem?_eq_getElem hi]
theorem impl_body {n:TNetwork} (hn:netOk n=true) {s:Int} {D:Int→List Int→List Int→List (List Int)} {L B:Nat} (hB:B≤1000000000000)
 {rc:Int→Int→Int→List Int→TNetwork→List (List Int)→Option (TNetwork×List (List Int))}
 (hrc:RcI n s D L B rc) {c:Nat} (hc:1≤c) (hD:∀ a p q,(D a p q).length≤c) {a:Int} {p q:List Int} (h:InvD n s a p q) (hq:q.length=L) {m:Nat} (hm:BitS m q) (l0:List (List Int)) (hl0:l0.length+14 * c≤B) :
 M_dq rc s a (m:Int) p n l0=some (n,l0++bodyD n s D a p q):=by
 unfold M_dq
 have hN:=netOk_bR hn
 have hF:=hN.2.2
 have hpl:=ring_len hn h
 obtain ⟨b,hb,hQ⟩:=iter_inv (f:=M_b s a (m:Int) p n rc) (fun t=>∃ i:Nat,t=((i:Int),n,l0++(List.range i).flatMap (stepD n s D a p q))∧i≤n.Fibers.length) (fun t=>n.Fibers.length - t.1.toNat)
  (fun b=>b=(n,l0++bodyD n s D a p q))
  (fun t ⟨i,e,hi⟩=>by
   subst e
   obtain ⟨l,hl⟩:∃ l,l=l0++(List.range i).flatMap (stepD n s D a p q):=⟨_,rfl⟩
   have hll:l.length≤B:=by
    rw [hl,List.length_append]
    have:=flat_len (stepD n s D a p q) c i fun j _=>stepD_len hc hD a p q j
    have h2:i * c≤14 * c:=Nat.mul_le_mul_right _ (by omega)
    omega
   have hnext:l++stepD n s D a p q i=l0++(List.range (i+1)).flatMap (stepD n s D a p q):=by rw [flat_succ,hl,List.append_assoc]
   rw [← hl]
   unfold M_b
   by_cases hi2:i < n.Fibers.length
   · have e1:decide ((i:Int) < (n.Fibers.length:Int))=true:=by simp [hi2]
     have hg:geti n.Fibers (i:Int)=some n.Fibers[i]:=by rw [geti_nat,List.getElem?_eq_getElem hi2]
     have e3:M_bv n.Fibers[i] a=some (othI n (i:Int) a):=by
      have:=p_oth n hi2 a
      rwa [hg,Option.bind_some] at this
     have e4:M_bh p (i:Int)=some (decide ((i:Int)∈p)):=p_ContI _ _ (by omega)
     have w1:IntKind.wrap .i64 ((i:Int)+1)=((i+1:Nat):Int):=by rw [w64_eq (by omega) (by omega)]; rfl
     have fin:∀ l',l'=l++stepD n s D a p q i→(∃ i':Nat,(((i+1:Nat):Int),n,l')=((i':Int),n,l0++(List.range i').flatMap (stepD n s D a p q))∧i'≤n.Fibers.length) :=
      fun l' e=>⟨i+1,by rw [e,hnext],by omega⟩
     have fin2:∀ l':List (List Int),(n.Fibers.length - ((((i+1:Nat):Int),n,l'):Int×TNetwork×List (List Int)).1.toNat < n.Fibers.length - (((i:Int),n,l):Int×TNetwork×List (List Int)).1.toNat):=fun l'=>by simp only [Int.toNat_natCast]; omega
     left
     simp only [e1,cond_true,hg,Option.bind_some,e3,e4,w1]
     by_cases c1:othI n (i:Int) a < s
     · simp only [c1,decide_true,cond_true,Option.bind_some]
       have:l=l++stepD n s D a p q i:=by unfold stepD; rw [if_pos (.inl c1),List.append_nil]
       exact ⟨_,rfl,fin l this,fin2 l⟩
     · simp only [c1,decide_false,cond_false,Option.bind_some]
       by_cases c2:(i:Int)∈p
       · simp only [c2,decide_true,cond_true]
         have:l=l++stepD n s D a p q i:=by unfold stepD; rw [if_pos (.inr c2),List.append_nil]
         exact ⟨_,rfl,fin l this,fin2 l⟩
       · simp only [c2,decide_false,cond_false,bnd]
         rw [grd_t (by omega),Option.bind_some]
         have hne:¬ (othI n (i:Int) a < s∨(i:Int)∈p):=fun e=>e.elim c1 c2
         have hs:=h.s0
         obtain ⟨ho,_⟩:=oth_rng hn hi2 (a:=a) (by omega)
         by_cases c3:othI n (i:Int) a=s
         · have e6:(othI n (i:Int) a==s)=true:=by rw [c3]; simp
           simp only [e6,cond_true]
           obtain ⟨w,hw,_⟩:=p_around n (p++[(i:Int)]) (by omega) (by simp; omega)
           rw [hw,Option.bind_some]
           rw [h.close hi2 c2 c3]
           by_cases c4:2≤(p++[(i:Int)]).length∧lexB (p++[(i:Int)]) (p++[(i:Int)]).reverse=true
           · rw [if_pos c4]
             simp only [Option.isSome_some,cond_true]
             rw [grd_t (by omega),Option.bind_some]
             have:l++[p++[(i:Int)]]=l++stepD n s D a p q i:=by
              unfold stepD; rw [if_neg hne,if_pos c3,if_pos c4]
             exact ⟨_,rfl,fin _ this,fin2 _⟩
           · rw [if_neg c4]
             simp only [Option.isSome_none,cond_false]
             have:l=l++stepD n s D a p q i:=by
              unfold stepD; rw [if_neg hne,if_pos c3,if_neg c4,List.append_nil]
             exact ⟨_,rfl,fin _ this,fin2 _⟩
         · have e6:(othI n (i:Int) a==s)=false:=by simp [c3]
           obtain ⟨x,hx⟩:∃ x:Nat,othI n (i:Int) a=(x:Int):=⟨(othI n (i:Int) a).toNat,by omega⟩
           have hx8:x < 8:=by omega
           simp only [e6,cond_false]
           rw [grd_t (by omega),Option.bind_some]
           rw [hx,Int.toNat_natCast,tbit0 m x (by omega) hm.1,hm.2 x,← hx]
           by_cases c4:othI n (i:Int) a∈q
           · simp only [c4,decide_true,Bool.not_true,cond_false]
             have:l=l++stepD n s D a p q i:=by
              unfold stepD; rw [if_neg hne,if_neg c3,if_pos c4,List.append_nil]
             exact ⟨_,rfl,fin _ this,fin2 _⟩
           · simp only [c4,decide_false,Bool.not_false,cond_true]
             rw [Option.bind_some,shl1T x (by omega),borT m _ hm.1 (Nat.pow_lt_pow_right (by omega) (by omega))]
             have hb':BitS (m ||| 2 ^ x) (q++[othI n (i:Int) a]):=by
              refine ⟨Nat.or_lt_two_pow hm.1 (Nat.pow_lt_pow_right (by omega) (by omega)),fun j=>?_⟩
              rw [Nat.testBit_or,Nat.testBit_two_pow,hm.2 j]
              by_cases hj:x=j
              · subst hj; simp [hx]
              · have:¬ ((j:Int)=othI n (i:Int) a):=by omega
                simp [hj,this]
             rw [hrc _ _ _ _ l (h.ext hn hi2 c2 c1 c3 c4) (by simp [hq]) hb' hll,Option.bind_some]
             have:l++D (othI n (i:Int) a) (p++[(i:Int)]) (q++[othI n (i:Int) a])=l++stepD n s D a p q i:=by
              unfold stepD; rw [if_neg hne,if_neg c3,if_neg c4]
             exact ⟨_,rfl,fin _ this,fin2 _⟩
   · have e1:decide ((i:Int) < (n.Fibers.length:Int))=false:=by simp; omega
     right
     simp only [e1,cond_false]
     refine ⟨_,rfl,?_⟩
     have:i=n.Fibers.length:=by omega
     rw [hl,this]; rfl) N0 (0,n,l0) ⟨0,by simp,by omega⟩ (N0_lt (by simp; omega))
 rw [hb,hQ]; rfl
theorem p_ext {n:TNetwork} (hn:netOk n=true) {s:Int}:∀ (k f:Nat),k < f→∀ {a:Int} {p q:List Int} {m:Nat} (l:List (List Int)),InvD n s a p q→q.length+k=n.Nodes.length→BitS m q→l.length+2 * 14 ^ (k+1)≤1000000000000 →
 M_cm f s a (m:Int) p n l=some (n,l++dfsD n s k a p q)
 | 0, f + 1, _, a, p, q, m, l, h, hk, hm, hl => by
   show M_dq _ s a (m:Int) p n l=_
   exact impl_body hn (D:=fun _ _ _=>[]) (L:=q.length) (B:=l.length+14 * 1) (by omega) (fun a' p' q' m' l' h' hq' _ _=>by have:=h'.le; omega) (Nat.le_refl 1) (fun _ _ _=>by simp) h rfl hm l (Nat.le_refl _)
 | k + 1, f + 1, hf, a, p, q, m, l, h, hk, hm, hl => by
   show M_dq _ s a (m:Int) p n l=_
   have h1:1≤14 ^ (k+1):=Nat.pow_pos (by omega)
   rw [Nat.pow_succ 14 (k+1)] at hl
   exact impl_body hn (D:=dfsD n s k) (L:=q.length) (B:=l.length+14 * 14 ^ (k+1)) (by omega) (fun a' p' q' m' l' h' hq' hm' hl'=>p_ext hn k f (by omega) l' h' (by omega) hm' (by omega)) h1 (dfsD_len (netOk_bR hn).2.2 k) h rfl hm l (Nat.le_refl _)
theorem bitS_one (v:Nat) (hv:v < 62):BitS (2 ^ v) [(v:Int)]:=by
 refine ⟨Nat.pow_lt_pow_right (by omega) hv,fun i=>?_⟩
 rw [Nat.testBit_two_pow]
 by_cases h:v=i
 · simp [h]
 · have:¬ ((i:Int)=v):=by omega
   simp [h,this]
theorem p_rings1 (n:TNetwork) (hn:netOk n=true):iter (M_ao n) N0 (0,n,[])=some (ringsD n):=by
 have hN:=netOk_bR hn
 have hE:∀ k,k < n.Nodes.length→14 ^ (k+1)≤14 ^ 8:=fun k hk=>Nat.pow_le_pow_right (by omega) (by omega)
 obtain ⟨C,h8,hC⟩:∃ C:Nat,14 ^ 8≤C∧C≤2000000000:=⟨14 ^ 8,Nat.le_refl _,by simp⟩
 obtain ⟨b,hb,hQ⟩:=iter_inv (f:=M_ao n) (fun t=>∃ i:Nat,t=((i:Int),n,(List.range i).flatMap fun v:Nat=>dfsD n (v:Int) (n.Nodes.length - 1) (v:Int) [] [(v:Int)])∧i≤n.Nodes.length) (fun t=>n.Nodes.length - t.1.toNat)
  (fun b=>b=ringsD n)
  (fun t ⟨i,e,hi⟩=>by
   subst e
   unfold M_ao
   by_cases hi2:i < n.Nodes.length
   · have e1:decide ((i:Int) < (n.Nodes.length:Int))=true:=by simp [hi2]
     left
     simp only [e1,cond_true]
     have hlen:((List.range i).flatMap fun v:Nat=>dfsD n (v:Int) (n.Nodes.length - 1) (v:Int) [] [(v:Int)]).length≤16000000000:=by
      have h3:∀ v:Nat,(dfsD n (v:Int) (n.Nodes.length - 1) (v:Int) [] [(v:Int)]).length≤C:=fun v=>by
       have:=dfsD_len (n:=n) (s:=(v:Int)) hN.2.2 (n.Nodes.length - 1) (v:Int) [] [(v:Int)]
       have:=hE (n.Nodes.length - 1) (by omega)
       omega
      have:=flat_len (fun v:Nat=>dfsD n (v:Int) (n.Nodes.length - 1) (v:Int) [] [(v:Int)]) C i fun j _=>h3 j
      have h5:i * C≤8 * C:=Nat.mul_le_mul_right _ (by omega)
      omega
     have hp:=p_ext hn (s:=(i:Int)) (n.Nodes.length - 1) (N0+1) (by have:=N0_lt (n:=n.Nodes.length) (by omega); omega) (m:=2 ^ i) ((List.range i).flatMap fun v:Nat=>dfsD n (v:Int) (n.Nodes.length - 1) (v:Int) [] [(v:Int)]) (InvD.init hi2) (by simp; omega) (bitS_one i (by omega)) (by
      have:=hE (n.Nodes.length - 1) (by omega)
      omega)
     have hs:M_er (i:Int) (i:Int) ((2 ^ i:Nat):Int) [] n ((List.range i).flatMap fun v:Nat=>dfsD n (v:Int) (n.Nodes.length - 1) (v:Int) [] [(v:Int)])=_:=hp
     rw [grd_t (by omega),Option.bind_some,Int.toNat_natCast,shl1T i (by omega),hs,Option.bind_some]
     refine ⟨_,rfl,⟨i+1,?_,by omega⟩,?_⟩
     · rw [w64_eq (by omega) (by omega),flat_succ]; rfl
     · simp only [Int.toNat_natCast]
       rw [w64_eq (by omega) (by omega)]; omega
   · have e1:decide ((i:Int) < (n.Nodes.length:Int))=false:=by simp; omega
     right
     simp only [e1,cond_false]
     refine ⟨_,rfl,?_⟩
     have:i=n.Nodes.length:=by omega
     rw [this]; rfl) N0 (0,n,[]) ⟨0,rfl,by omega⟩ (N0_lt (by simp; omega))
 rw [hb,hQ]
theorem ringsD_len {n:TNetwork} (hn:netOk n=true):(ringsD n).length≤16000000000:=by
 have hN:=netOk_bR hn
 obtain ⟨C,h8,hC⟩:∃ C:Nat,14 ^ 8≤C∧C≤2000000000:=⟨14 ^ 8,Nat.le_refl _,by simp⟩
 have h3:∀ v:Nat,(dfsD n (v:Int) (n.Nodes.length - 1) (v:Int) [] [(v:Int)]).length≤C:=fun v=>by
  have:=dfsD_len (n:=n) (s:=(v:Int)) hN.2.2 (n.Nodes.length - 1) (v:Int) [] [(v:Int)]
  have:14 ^ (n.Nodes.length - 1+1)≤14 ^ 8:=Nat.pow_le_pow_right (by omega) (by omega)
  omega
 have:=flat_len (fun v:Nat=>dfsD n (v:Int) (n.Nodes.length - 1) (v:Int) [] [(v:Int)]) C n.Nodes.length fun j _=>h3 j
 have h5:n.Nodes.length * C≤8 * C:=Nat.mul_le_mul_right _ hN.2.1
 unfold ringsD
 omega
theorem p_CompareT (a b:List Int) (hl:a.length≤1048576):∃ r,M_cd a b=some r:=by
 unfold M_cd
 obtain ⟨x,hx,_⟩:=iter_inv (f:=M_w a b) (fun t=>∃ i:Nat,t=(i:Int)∧i≤a.length) (fun t=>a.length - t.toNat) (fun _=>True)
  (fun t ⟨i,e,hi⟩=>by
   subst e
   unfold M_w
   by_cases h1:i < a.length
   · have e1:decide ((i:Int) < (a.length:Int))=true:=by simp [h1]
     rw [e1,cond_true,geti_nat,List.getElem?_eq_getElem h1,Option.bind_some]
     by_cases h2:b.length≤i
     · have e2:decide ((b.length:Int)≤(i:Int))=true:=by simp [h2]
       right
       rw [e2]
       exact ⟨_,rfl,trivial⟩
     · have e2:decide ((b.length:Int)≤(i:Int))=false:=by simp; omega
       rw [e2,cond_false,geti_nat,List.getElem?_eq_getElem (by omega:i < b.length),Option.bind_some,p_cmp,Option.bind_some]
       cases (cmpI a[i] (b[i]'(by omega)) != 0) with
       | true=>right; exact ⟨_,rfl,trivial⟩
       | false =>
         left
         refine ⟨_,rfl,⟨i+1,by rw [w64_eq (by omega) (by omega)]; rfl,by omega⟩,?_⟩
         rw [w64_eq (by omega) (by omega)]
         simp only [Int.toNat_natCast]; omega
   · have e1:decide ((i:Int) < (a.length:Int))=false:=by simp; omega
     right
     rw [e1]
     exact ⟨_,rfl,trivial⟩) N0 0 ⟨0,rfl,by omega⟩ (N0_lt (by simp; omega))
 rw [hx,Option.bind_some]
 cases x with
 | inr v=>exact ⟨v,rfl⟩
 | inl u =>
   cases decide ((a.length:Int) < (b.length:Int)) with
   | true=>exact ⟨_,rfl⟩
   | false=>exact ⟨_,rfl⟩
theorem p_Or2 (x y:Int):M_cl [x,y]=some (if x=0 then y else x):=by
 unfold M_cl
 have key:=iter_findI (f:=M_n [x,y]) [x,y] (fun _ x=>x != 0) (fun _ x=>x) () (fun i z hz _=>by
  have hlt:=(List.getElem?_eq_some_iff.1 hz).1
  have h1:decide ((i:Int) < (([x,y]:List Int).length:Int))=true:=by simp only [decide_eq_true_eq]; omega
  simp only [M_n,h1,cond_true,geti_nat,hz,Option.bind_some]
  rw [w64_eq (by omega) (by simp at hlt; omega)]
  cases z != 0 <;> rfl) (by simp [M_n]) (by simp)
 rw [key]
 by_cases h1:x=0
 · by_cases h2:y=0
   · subst h1; subst h2; rfl
   · have:(y != 0)=true:=bne_iff_ne.2 h2
     simp [findI,h1,this]
 · have:(x != 0)=true:=bne_iff_ne.2 h1
   simp [findI,h1,this]
theorem p_c2 (a b:List Int) (ha:a.length≤1048576) (hb:b.length≤1048576):∃ r,M_ce a b=some r∧decide (r < 0)=lessB a b:=by
 unfold M_ce
 obtain ⟨r,hr⟩:=p_CompareT a b ha
 simp only [p_cmp,Option.bind_some,hr,bnd,p_Or2]
 refine ⟨_,rfl,?_⟩
 unfold lessB
 by_cases h:a.length=b.length
 · rw [if_pos h]
   obtain ⟨r',h1,h2⟩:=p_CompareI a b h ha
   rw [hr] at h1
   cases h1
   rw [if_pos (by rw [h]; unfold cmpI; simp),h2]
 · rw [if_neg h]
   unfold cmpI
   by_cases h2:a.length < b.length
   · have e1:(a.length:Int) < (b.length:Int):=by omega
     simp [e1,h2]
   · have e1:¬ (a.length:Int) < (b.length:Int):=by omega
     have e2:(b.length:Int) < (a.length:Int):=by omega
     simp [e1,e2,h2]
def cfR (a b:List Int):Int:=(M_ce a b).getD 0
theorem p_rings (n:TNetwork) (hn:netOk n=true):∃ ys,M_dr n=some ys∧ys.Perm (ringsD n)∧ys.Pairwise (fun a b=>lessB b a=false):=by
 unfold M_dr
 rw [p_rings1 n hn,Option.bind_some]
 have hlen:=ringsD_len hn
 have hk:∀ x∈ringsD n,∀ y∈ringsD n,M_ce x y=some (cfR x y)∧(cfR x y < 0↔lessB x y=true):=by
  intro x hx y hy
  have h1:=(ringsD_ok hn x hx).2
  have h2:=(ringsD_ok hn y hy).2
  obtain ⟨r,h3,h4⟩:=p_c2 x y (by omega) (by omega)
  unfold cfR
  rw [h3]
  exact ⟨rfl,by rw [← h4]; simp⟩
 obtain ⟨ys,h1,h2,h3⟩:=sortX_spec (cmp:=fun x0 x1=>M_ce x0 x1) (xs:=ringsD n) cfR (by omega) (fun x hx y hy=>(hk x hx y hy).1)
  (fun x hx=>by rw [(hk x hx x hx).2,lessB_irr]; simp)
  (fun x hx y hy z hz a b=>(hk x hx z hz).2.2 (lessB_trans ((hk x hx y hy).2.1 a) ((hk y hy z hz).2.1 b)))
  (fun x hx y hy z hz a b=>by
   rw [(hk x hx y hy).2,Bool.not_eq_true] at a
   rw [(hk y hy z hz).2,Bool.not_eq_true] at b
   rw [(hk x hx z hz).2,Bool.not_eq_true]
   exact lessB_ntrans a b)
 rw [h1]
 refine ⟨ys,rfl,h2,?_⟩
 refine List.Pairwise.imp_of_mem ?_ h3
 intro a b ha hb hab
 rw [(hk b (h2.mem_iff.1 hb) a (h2.mem_iff.1 ha)).2,Bool.not_eq_true] at hab
 exact hab
def arP (n:TNetwork):List (List Int)×Bool:=if netOk n then (if (ringsD n).length≤60 then (putsR [] (ringsD n),true) else ([],false)) else ([],false)
theorem puts_le {n:TNetwork}:(putsR [] (ringsD n)).Pairwise (fun a b=>lessB b a=false)∧(if (ringsD n).length≤61 then (putsR [] (ringsD n)).Perm (ringsD n) else (putsR [] (ringsD n)).length=61):=by
 have:=putsR_spec (ringsD n) [] List.Pairwise.nil (by simp)
 simpa using this
theorem p_impl_AllRings (n:TNetwork) (hz:z_Network n≤1048576):M_ct n=some (arP n):=by
 unfold M_ct arP
 rw [p_IsValidNetwork n hz,Option.bind_some]
 cases hn:netOk n with
 | false=>rfl
 | true =>
   obtain ⟨ys,h1,h2,h3⟩:=p_rings n hn
   simp only [Bool.not_true,cond_false,h1,Option.bind_some,if_true]
   have hl:=h2.length_eq
   obtain ⟨q1,q2⟩:=puts_le (n:=n)
   by_cases h6:(ringsD n).length≤60
   · have e:decide (60 < (ys.length:Int))=false:=by simp; omega
     rw [if_pos (by omega)] at q2
     rw [e,cond_false,if_pos h6,srt_eq ys _ (h2.trans q2.symm) h3 q1]
   · have e:decide (60 < (ys.length:Int))=true:=by simp; omega
     rw [e,cond_true,if_neg h6]
theorem p_spec_AllRings (n:TNetwork) (hz:z_Network n≤1048576):M_cv n=some ((arP n).2,(arP n).1):=by
 unfold M_cv arP
 rw [p_l2Good n hz,Option.bind_some]
 cases hn:netOk n with
 | false=>rfl
 | true =>
   simp only [Bool.not_true,cond_false,p_l17All n hn,Option.bind_some,if_true]
   obtain ⟨q1,q2⟩:=puts_le (n:=n)
   by_cases h6:(ringsD n).length≤60
   · rw [if_pos (by omega)] at q2
     have:=q2.length_eq
     have e:decide (60 < ((putsR [] (ringsD n)).length:Int))=false:=by simp; omega
     rw [e,cond_false,if_pos h6]
   · have:60 < (putsR [] (ringsD n)).length:=by
      split at q2
      · have:=q2.length_eq; omega
      · omega
     have e:decide (60 < ((putsR [] (ringsD n)).length:Int))=true:=by simp; omega
     rw [e,cond_true,if_neg h6]
theorem arP_ok {n:TNetwork} (h:(arP n).2=true):netOk n=true∧(arP n).1.length≤60∧∀ r∈(arP n).1,OkD n r:=by
 unfold arP at h ⊢
 cases hn:netOk n with
 | false=>rw [hn] at h; cases h
 | true =>
   rw [hn] at h
   simp only [if_true] at h ⊢
   by_cases h6:(ringsD n).length≤60
   · rw [if_pos h6]
     obtain ⟨q1,q2⟩:=puts_le (n:=n)
     rw [if_pos (by omega)] at q2
     exact ⟨trivial,by have:=q2.length_eq; simp only; omega,fun r hr=>ringsD_ok hn r (q2.mem_iff.1 hr)⟩
   · rw [if_neg h6] at h; cases h
end Vs

namespace Vs
open Go
def protP (n:TNetwork) (ring:List Int):List Int:=match ringP n ring with
 | some l=>ownP n ring++crsP n ring l
 | none=>[]
theorem prot_rng {n:TNetwork} {ring:List Int} {x:Int} (h:x∈protP n ring):0≤x∧x < n.Fibers.length:=by
 unfold protP at h
 split at h
 · rw [List.mem_append] at h
   rcases h with h | h
   · exact own_rng h
   · exact crs_rng h
 · cases h
theorem p_l17Cover {n:TNetwork} (hn:netOk n=true) {ring:List Int} (hr:OkD n ring):∃ m:Nat,M_cz n ring=some (m:Int)∧m < 2 ^ 62∧∀ i:Nat,m.testBit i=decide ((i:Int)∈protP n ring):=by
 obtain ⟨h1,h2⟩:=hr
 obtain ⟨l,hl⟩:=Option.isSome_iff_exists.1 h1
 have hF:=(netOk_bR hn).2.2
 unfold M_cz protP
 rw [p_l17Protected n ring l hn (by omega) (ringl_len hn (by omega) hl) hl,Option.bind_some,hl]
 have ho:=own_len n ring
 have hc:=crs_len n ring l
 simp only []
 rw [p_l6MaskT (ownP n ring) (fun x hx=>by have:=own_rng hx; omega) (Nat.le_trans ho (by omega)),Option.bind_some,p_l6MaskT (crsP n ring l) (fun x hx=>by have:=crs_rng hx; omega) (Nat.le_trans hc (by omega)),Option.bind_some]
 obtain ⟨m1,a1,a2,a3⟩:=maskP_specT (ownP n ring) (fun x hx=>by have:=own_rng hx; omega)
 obtain ⟨m2,b1,b2,b3⟩:=maskP_specT (crsP n ring l) (fun x hx=>by have:=crs_rng hx; omega)
 rw [a1,b1,borT m1 m2 a2 b2]
 refine ⟨_,rfl,Nat.or_lt_two_pow a2 b2,fun i=>?_⟩
 rw [Nat.testBit_or,a3,b3]
 simp only [List.mem_append]
 by_cases h:(i:Int)∈ownP n ring <;> simp [h]
theorem p_Concat2 (xs ys:List Int) (hx:xs.length≤1048576) (hy:ys.length≤1048576):M_dx [xs,ys]=some (xs++ys):=by
 unfold M_dx
 have h1:iter (M_ac [xs,ys]) N0 (0,0)=some ((xs.length+ys.length:Nat):Int):=by
  have:=iter_foldI (f:=M_ac [xs,ys]) [xs,ys] (fun i (a:Int)=>(a,(i:Int))) (fun _ (x:List Int) a=>a+x.length) id (fun i a=>0≤a∧a≤i * 1048576) (fun i a x hx' hI=>by
   have hlt:=(List.getElem?_eq_some_iff.1 hx').1
   have hxl:x.length≤1048576:=by
    have:=List.mem_of_getElem? hx'
    simp at this
    rcases this with e | e <;> rw [e] <;> assumption
   simp only [List.length_cons,List.length_nil] at hlt
   have e1:decide ((i:Int) < (([xs,ys]:List (List Int)).length:Int))=true:=by simp only [decide_eq_true_eq,List.length_cons,List.length_nil]; omega
   refine ⟨by constructor <;> omega,?_⟩
   simp only [M_ac,e1,cond_true,geti_nat,hx',Option.bind_some]
   rw [w64_eq (n:=a+(x.length:Int)) (by omega) (by omega)]
   have e2:decide (a+(x.length:Int) < 0)=false:=by simp; omega
   rw [e2,cond_false,w64_eq (by omega) (by omega)]; rfl) (fun a _=>by simp [M_ac]) 0 ⟨by omega,by omega⟩ (by simp)
  refine Eq.trans this ?_
  simp [foldI]
 rw [h1,Option.bind_some]
 have h2:∃ L,M_dw ((xs.length+ys.length:Nat):Int)=some (0,0,L):=by
  unfold M_dw
  have e1:decide (((xs.length+ys.length:Nat):Int) < 0)=false:=by simp; omega
  have e2:IntKind.wrap .i64 (0 - ((0:Nat):Int))=0:=by decide
  rw [e1,cond_false,e2,Int.sub_zero,w64_eq (by omega) (by omega)]
  by_cases h0:xs.length+ys.length=0
  · rw [h0]; exact ⟨[],rfl⟩
  · have e3:decide (0 < ((xs.length+ys.length:Nat):Int))=true:=by simp only [decide_eq_true_eq]; omega
    rw [e3,cond_true,grd_t ⟨by omega,by omega⟩,Option.bind_some]
    simp only [bnd]
    rw [grd_t ⟨trivial,by omega,trivial,by simp⟩,Option.bind_some]
    exact ⟨_,rfl⟩
 obtain ⟨L,hL⟩:=h2
 rw [hL,Option.bind_some]
 have h0:subT L 0 0=[]:=by
  unfold subT
  split
  · rename_i e; exact List.length_eq_zero_iff.1 e.2.symm
  · simp
 obtain ⟨b,hb,hq⟩:=iter_inv (f:=M_bi [xs,ys]) (fun t=>∃ (i:Nat) (M:List Int),t=(0,([xs,ys].take i).flatten.length,(i:Int),M)∧i≤2∧subT M 0 ([xs,ys].take i).flatten.length=([xs,ys].take i).flatten) (fun t=>2 - t.2.2.1.toNat)
  (fun b=>b.1=0∧b.2.1=(xs++ys).length∧subT b.2.2 0 b.2.1=xs++ys)
  (fun t ⟨i,M,e,hi,hM⟩=>by
   subst e
   unfold M_bi
   by_cases hi2:i < 2
   · left
     have e1:decide ((i:Int) < (([xs,ys]:List (List Int)).length:Int))=true:=by simp only [decide_eq_true_eq,List.length_cons,List.length_nil]; omega
     obtain ⟨x,hx'⟩:∃ x,([xs,ys]:List (List Int))[i]?=some x:=⟨_,List.getElem?_eq_getElem (by simpa using hi2)⟩
     have hxl:x.length≤1048576:=by
      have:=List.mem_of_getElem? hx'
      simp at this
      rcases this with e | e <;> rw [e] <;> assumption
     have hfl:([xs,ys].take i).flatten.length≤2097152:=by
      match i,hi2 with
      | 0,_=>simp
      | 1,_=>simp; omega
     have ht:([xs,ys].take (i+1)).flatten=([xs,ys].take i).flatten++x:=by
      rw [List.take_add_one,hx']; simp
     simp only [e1,cond_true,geti_nat,hx',Option.bind_some,bnd,hM]
     rw [grd_t (by omega),Option.bind_some,w64_eq (by omega) (by omega)]
     refine ⟨_,rfl,⟨i+1,_,by rw [ht,List.length_append]; rfl,by omega,?_⟩,by simp; omega⟩
     rw [ht]; exact subT_all _
   · right
     have hi3:i=2:=by omega
     subst hi3
     refine ⟨_,rfl,rfl,by simp,?_⟩
     simpa using hM) N0 (0,0,0,L) ⟨0,L,rfl,by omega,h0⟩ (N0_lt (by simp))
 rw [hb,Option.bind_some]
 simp only [bnd,hq.1,hq.2.2]
def gB (d:List Bool) (y:Int):Bool:=(d[y.toNat]?).getD false
theorem gB_at {d:List Bool} {y:Int} (h0:0≤y) (h1:y < d.length):d[y.toNat]?=some (gB d y):=by
 have:y.toNat < d.length:=by omega
 unfold gB
 rw [List.getElem?_eq_getElem this]; rfl
def nfS (mk:Bool) (y:Int) (p:Int×List Bool):Int×List Bool:=(if gB p.2 y then p.1 else p.1+1,p.2.set y.toNat (gB p.2 y||mk))
def nfP (mk:Bool) (ys:List Int) (p:Int×List Bool):Int×List Bool:=foldI (fun _ y p=>nfS mk y p) 0 ys p
theorem p_newFibers {n:TNetwork} (hn:netOk n=true) {ring:List Int} (hr:OkD n ring) (mk:Bool) (d:List Bool) (hd:d.length=n.Fibers.length) :
 M_cf n ring 0 n.Fibers.length mk d=some (nfP mk (protP n ring) (0,d)):=by
 obtain ⟨h1,h2⟩:=hr
 obtain ⟨l,hl⟩:=Option.isSome_iff_exists.1 h1
 have hF:=(netOk_bR hn).2.2
 unfold M_cf
 have ho:=own_len n ring
 have hc:=crs_len n ring l
 rw [p_protected n ring l hn (by omega) hl,Option.bind_some]
 simp only [bnd]
 rw [p_Concat2 _ _ (by omega) (by omega),Option.bind_some]
 have hp:protP n ring=ownP n ring++crsP n ring l:=by unfold protP; rw [hl]
 have hpl:(protP n ring).length≤28:=by rw [hp,List.length_append]; omega
 rw [← hp]
 have hloop:=iter_foldI (f:=M_p 0 n.Fibers.length mk (protP n ring)) (protP n ring) (fun i (p:Int×List Bool)=>(p.1,(i:Int),p.2)) (fun _ y p=>nfS mk y p) id (fun i p=>0≤p.1∧p.1≤i∧p.2.length=n.Fibers.length) (fun i p y hy hI=>by
  obtain ⟨i1,i2,i3⟩:=hI
  have hlt:=(List.getElem?_eq_some_iff.1 hy).1
  have hyr:=prot_rng (List.mem_of_getElem? hy)
  have e1:decide ((i:Int) < ((protP n ring).length:Int))=true:=by simp [hlt]
  have e2:=gB_at (d:=p.2) hyr.1 (by omega)
  unfold nfS
  simp only [M_p,e1,cond_true,Int.toNat_natCast,hy,Option.bind_some,Nat.zero_add,e2,bnd]
  rw [grd_t ⟨by omega,by omega⟩,Option.bind_some,grd_t hyr,Option.bind_some]
  have w1:IntKind.wrap .i64 ((i:Int)+1)=((i+1:Nat):Int):=by rw [w64_eq (by omega) (by omega)]; rfl
  have w2:IntKind.wrap .i64 (p.1+1)=p.1+1:=w64_eq (by omega) (by omega)
  cases gB p.2 y with
  | true =>
    simp only [Bool.not_true,cond_false,Option.bind_some,cond_true,if_true,Bool.true_or,w1]
    exact ⟨⟨by omega,by omega,by simp [i3]⟩,trivial⟩
  | false =>
    simp only [Bool.not_false,cond_true,Option.bind_some,cond_false,Bool.false_eq_true,if_false,Bool.false_or,w1,w2]
    exact ⟨⟨by omega,by omega,by simp [i3]⟩,trivial⟩) (fun p _=>by simp [M_p]) (0,d) ⟨by omega,by omega,hd⟩ (by omega)
 have hloop2:iter (M_p 0 n.Fibers.length mk (protP n ring)) N0 (0,0,d)=_:=hloop
 rw [hloop2]; rfl
def markB (d:List Bool) (ys:List Int):List Bool:=ys.foldl (fun d y=>d.set y.toNat true) d
theorem markB_len:∀ (ys:List Int) (d:List Bool),(markB d ys).length=d.length
 | [],d=>rfl
 | y :: ys, d => by
   show (markB (d.set y.toNat true) ys).length=_
   rw [markB_len ys]; simp
theorem markB_at:∀ (ys:List Int) (d:List Bool) (j:Nat),(∀ y∈ys,0≤y)→j < d.length→gB (markB d ys) (j:Int)=(gB d (j:Int)||decide ((j:Int)∈ys))
 | [],d,j,_,_=>by simp [markB]
 | y :: ys, d, j, h0, hj => by
   show gB (markB (d.set y.toNat true) ys) (j:Int)=_
   rw [markB_at ys _ j (fun z hz=>h0 z (List.mem_cons_of_mem _ hz)) (by simpa using hj)]
   have hy:=h0 y List.mem_cons_self
   have e:gB (d.set y.toNat true) (j:Int)=(gB d (j:Int)||decide ((j:Int)=y)):=by
    unfold gB
    rw [Int.toNat_natCast,List.getElem?_set]
    by_cases h:y.toNat=j
    · have:(j:Int)=y:=by omega
      simp [h,this,hj]
    · have:¬ (j:Int)=y:=by omega
      simp [h,this]
   rw [e,Bool.or_assoc]
   congr 1
   simp only [List.mem_cons]
   by_cases h:(j:Int)=y <;> simp [h]
theorem nf_true:∀ (ys:List Int) (k:Nat) (p:Int×List Bool),(foldI (fun _ y p=>nfS true y p) k ys p).2=markB p.2 ys
 | [],k,p=>rfl
 | y :: ys, k, p => by
   show (foldI (fun _ y p=>nfS true y p) (k+1) ys (nfS true y p)).2=markB (p.2.set y.toNat true) ys
   rw [nf_true ys (k+1)]
   unfold nfS
   simp
theorem set_same (d:List Bool) (y:Int):d.set y.toNat (gB d y)=d:=by
 apply List.ext_getElem?
 intro i
 rw [List.getElem?_set]
 unfold gB
 by_cases h:y.toNat=i
 · subst h
   by_cases h2:y.toNat < d.length
   · simp [h2]
   · simp [h2]
 · simp [h]
theorem nf_false:∀ (ys:List Int) (k:Nat) (p:Int×List Bool),foldI (fun _ y p=>nfS false y p) k ys p=(p.1+(ys.countP fun y=>!gB p.2 y:Nat),p.2)
 | [],k,p=>by simp [foldI]
 | y :: ys, k, p => by
   show foldI (fun _ y p=>nfS false y p) (k+1) ys (nfS false y p)=_
   have e:nfS false y p=(if gB p.2 y then p.1 else p.1+1,p.2):=by
    unfold nfS; rw [Bool.or_false,set_same]
   rw [e,nf_false ys (k+1)]
   simp only [List.countP_cons]
   cases gB p.2 y with
   | true=>simp
   | false=>simp; omega
def unP (p:Nat→Bool) (F:Nat):List Int:=foldI (fun i (_:Unit) a=>if p i then a++[(i:Int)] else a) 0 (List.replicate F ()) []
theorem foldI_unit {α A:Type} (g:Nat→A→A):∀ (xs:List α) (k:Nat) (a:A),foldI (fun i (_:α) a=>g i a) k xs a=foldI (fun i (_:Unit) a=>g i a) k (List.replicate xs.length ()) a
 | [],k,a=>rfl
 | x::xs,k,a=>foldI_unit g xs (k+1) (g k a)
theorem foldI_congr {α A:Type} {g g':Nat→α→A→A}:∀ (xs:List α) (k:Nat) (a:A),(∀ i x,xs[i]?=some x→g (k+i) x=g' (k+i) x)→foldI g k xs a=foldI g' k xs a
 | [],k,a,_=>rfl
 | x :: xs, k, a, h => by
   show foldI g (k+1) xs (g k x a)=foldI g' (k+1) xs (g' k x a)
   have:=h 0 x rfl
   rw [Nat.add_zero] at this
   rw [this]
   exact foldI_congr xs (k+1) _ fun i y hy=>by
    have:=h (i+1) y (by simpa using hy)
    rwa [show k+1+i=k+(i+1) by omega]
theorem unP_len (p:Nat→Bool) (F:Nat):(unP p F).length≤F:=by
 have:∀ (xs:List Unit) (k:Nat) (a:List Int),(foldI (fun i (_:Unit) a=>if p i then a++[(i:Int)] else a) k xs a).length≤a.length+xs.length:=by
  intro xs
  induction xs with
  | nil=>intro k a; simp [foldI]
  | cons x xs ih =>
    intro k a
    refine Nat.le_trans (ih (k+1) _) ?_
    simp only [List.length_cons]
    cases p k <;> simp <;> omega
 have:=this (List.replicate F ()) 0 []
 simpa [unP] using this
def inR (n:TNetwork) (rs:List (List Int)) (i:Nat):Bool:=rs.any fun r=>decide ((i:Int)∈protP n r)
def ufP (n:TNetwork):List Int×Bool:=if (arP n).2 then (unP (fun i=>!inR n (arP n).1 i) n.Fibers.length,true) else ([],false)
theorem p_impl_UnringedFibers (n:TNetwork) (hz:z_Network n≤1048576):M_dc n=some (ufP n):=by
 unfold M_dc ufP
 rw [p_impl_AllRings n hz,Option.bind_some]
 cases h:(arP n).2 with
 | false=>rfl
 | true =>
   obtain ⟨hn,h6,hok⟩:=arP_ok h
   have hF:=(netOk_bR hn).2.2
   simp only [Bool.not_true,cond_false,if_true]
   rw [grd_t ⟨by omega,by omega,by omega,by omega⟩,Option.bind_some]
   simp only [bnd,Int.toNat_natCast]
   have h1:∃ d:List Bool,iter (M_ap n (arP n)) N0 (n.Fibers.length,0,List.replicate n.Fibers.length false)=some (n.Fibers.length,d)∧d.length=n.Fibers.length∧∀ i:Nat,i < n.Fibers.length→gB d (i:Int)=inR n (arP n).1 i:=by
    obtain ⟨b,hb,hq⟩:=iter_inv (f:=M_ap n (arP n)) (fun t=>∃ (k:Nat) (d:List Bool),t=(n.Fibers.length,(k:Int),d)∧k≤(arP n).1.length∧d.length=n.Fibers.length∧∀ i:Nat,i < n.Fibers.length→gB d (i:Int)=inR n ((arP n).1.take k) i)
     (fun t=>(arP n).1.length - t.2.1.toNat) (fun b=>b.1=n.Fibers.length∧b.2.length=n.Fibers.length∧∀ i:Nat,i < n.Fibers.length→gB b.2 (i:Int)=inR n (arP n).1 i)
     (fun t ⟨k,d,e,hk,hd,hi⟩=>by
      subst e
      unfold M_ap
      by_cases hk2:k < (arP n).1.length
      · left
        have e1:decide ((k:Int) < ((arP n).1.length:Int))=true:=by simp [hk2]
        have e2:(arP n).1[k]?=some (arP n).1[k]:=List.getElem?_eq_getElem hk2
        simp only [e1,cond_true,Int.toNat_natCast,e2,Option.bind_some]
        rw [grd_t ⟨by omega,by omega⟩,Option.bind_some,p_newFibers hn (hok _ (List.getElem_mem hk2)) true d hd,Option.bind_some]
        refine ⟨_,rfl,⟨k+1,_,by rw [w64_eq (by omega) (by omega)]; rfl,by omega,?_,fun i hi'=>?_⟩,?_⟩
        · unfold nfP; rw [nf_true,markB_len]; exact hd
        · unfold nfP
          rw [nf_true,markB_at _ _ _ (fun y hy=>(prot_rng hy).1) (by simp only; omega)]
          simp only
          rw [hi i hi']
          unfold inR
          rw [List.take_add_one,e2,List.any_append]
          simp
        · rw [w64_eq (by omega) (by omega)]
          simp only [Int.toNat_natCast]; omega
      · right
        have e1:decide ((k:Int) < ((arP n).1.length:Int))=false:=by simp; omega
        rw [e1]
        refine ⟨_,rfl,rfl,hd,fun i hi'=>?_⟩
        have:=hi i hi'
        rwa [List.take_of_length_le (by omega)] at this) N0 (n.Fibers.length,0,List.replicate n.Fibers.length false)
     ⟨0,_,rfl,by omega,by simp,fun i hi=>by simp [gB,inR,hi]⟩ (N0_lt (by simp; omega))
    obtain ⟨b1,b2⟩:=b
    simp only at hq
    obtain ⟨q1,q2,q3⟩:=hq
    exact ⟨b2,by rw [hb,q1],q2,q3⟩
   obtain ⟨d,hd1,hd2,hd3⟩:=h1
   rw [hd1,Option.bind_some]
   have h2:iter (M_q (n.Fibers.length,d)) N0 (0,[])=some (unP (fun i=>!inR n (arP n).1 i) n.Fibers.length):=by
    have:=iter_foldI (f:=M_q (n.Fibers.length,d)) d (fun i (a:List Int)=>((i:Int),a)) (fun i x a=>if !x then a++[(i:Int)] else a) id (fun i a=>a.length≤i) (fun i a x hx hI=>by
     have hlt:=(List.getElem?_eq_some_iff.1 hx).1
     have e1:decide ((i:Int) < (n.Fibers.length:Int))=true:=by simp; omega
     simp only [M_q,e1,cond_true,Int.toNat_natCast,hx,Option.bind_some,bnd]
     rw [grd_t ⟨by omega,by omega⟩,Option.bind_some]
     have w1:IntKind.wrap .i64 ((i:Int)+1)=((i+1:Nat):Int):=by rw [w64_eq (by omega) (by omega)]; rfl
     cases x with
     | true=>simp only [Bool.not_true,cond_false,Bool.false_eq_true,if_false,w1]; exact ⟨by omega,trivial⟩
     | false =>
       simp only [Bool.not_false,cond_true,if_true,w1]
       rw [grd_t (by omega),Option.bind_some]
       exact ⟨by simp; omega,rfl⟩) (fun a _=>by simp [M_q,hd2]) [] (by simp) (by omega)
    refine Eq.trans this ?_
    simp only [id]
    congr 1
    rw [foldI_congr (g':=fun i _ a=>if !inR n (arP n).1 i then a++[(i:Int)] else a) d 0 [] (fun i x hx=>by
     have hlt:=(List.getElem?_eq_some_iff.1 hx).1
     have:=hd3 i (by omega)
     unfold gB at this
     rw [Int.toNat_natCast,hx] at this
     rw [Nat.zero_add,← this]; rfl),foldI_unit,hd2]
    rfl
   rw [h2]; rfl
end Vs

namespace Vs
open Go
theorem cntR_or (p q r:Nat→Bool):∀ (N:Nat),(∀ i,i < N→p i=(q i||r i))→(∀ i,i < N→(q i&&r i)=false)→(List.range N).countP p=(List.range N).countP q+(List.range N).countP r
 | 0,_,_=>rfl
 | N + 1, h, hd => by
   rw [List.range_succ,List.countP_append,List.countP_append,List.countP_append,cntR_or p q r N (fun i hi=>h i (by omega)) (fun i hi=>hd i (by omega))]
   have h1:=h N (by omega)
   have h2:=hd N (by omega)
   simp only [List.countP_cons,List.countP_nil,h1]
   cases hq:q N <;> cases hr:r N
   · simp <;> omega
   · simp <;> omega
   · simp <;> omega
   · rw [hq,hr] at h2; cases h2
theorem cntR_zero (p:Nat→Bool):∀ (N:Nat),(∀ i,i < N→p i=false)→(List.range N).countP p=0
 | 0,_=>rfl
 | N + 1, h => by
   rw [List.range_succ,List.countP_append,cntR_zero p N fun i hi=>h i (by omega)]
   simp [h N (by omega)]
theorem cntR_one (q:Nat→Bool) (y:Nat):∀ (N:Nat),y < N→(List.range N).countP (fun i:Nat=>decide (i=y)&&q i)=if q y then 1 else 0
 | 0,h=>by omega
 | N + 1, h => by
   rw [List.range_succ,List.countP_append]
   by_cases hy:N=y
   · subst hy
     have h0:∀ i,i < N→(decide (i=N)&&q i)=false:=fun i hi=>by
      have h9:¬ i=N:=by omega
      simp [h9]
     rw [cntR_zero _ N h0]
     simp
   · rw [cntR_one q y N (by omega)]
     simp [hy]
theorem cntR_mem (q:Nat→Bool) (N:Nat):∀ (P:List Int),P.Nodup→(∀ y∈P,0≤y∧y < N)→(List.range N).countP (fun i:Nat=>decide ((i:Int)∈P)&&q i)=P.countP fun y=>q y.toNat
 | [],_,_=>by rw [cntR_zero _ N fun i _=>by simp]; rfl
 | y :: P, hn, hr => by
   rw [List.nodup_cons] at hn
   have hy:=hr y List.mem_cons_self
   rw [cntR_or _ (fun i => decide (i = y.toNat) && q i) (fun i : Nat => decide ((i : Int) ∈ P) && q i) N (fun i _ => by
       simp only [List.mem_cons]
       by_cases h1:(i:Int)=y
       · subst h1
         simp only [Int.toNat_natCast,decide_true,true_or,Bool.true_and]
         cases q i <;> simp
       · have:¬ i=y.toNat:=by omega
         simp [h1,this]) (fun i _=>by
       by_cases h1:i=y.toNat
       · have:¬ (i:Int)∈P:=by
          have:(i:Int)=y:=by omega
          rw [this]; exact hn.1
         simp [this]
       · simp [h1])]
   rw [cntR_one q y.toNat N (by omega),cntR_mem q N P hn.2 fun z hz=>hr z (List.mem_cons_of_mem _ hz),List.countP_cons]
   omega
theorem prot_nodup (n:TNetwork) (ring:List Int):(protP n ring).Nodup:=by
 unfold protP
 split
 · rename_i l _
   rw [List.nodup_append]
   refine ⟨(filI_lt _ n.Fibers 0).imp fun h=>by omega,(filI_lt _ n.Fibers 0).imp fun h=>by omega,fun x hx y hy e=>?_⟩
   subst e
   obtain ⟨j,f,a1,a2,a3⟩:=(filI_mem _ n.Fibers 0 x).1 hx
   obtain ⟨j',f',b1,b2,b3⟩:=(filI_mem _ n.Fibers 0 x).1 hy
   have:j=j':=by omega
   subst this
   rw [a1] at b1; cases b1
   simp only [Bool.and_eq_true,Bool.not_eq_true'] at b2
   rw [b2.1] at a2; cases a2
 · exact List.nodup_nil
def pcN (m:Nat):Nat:=(List.range 62).countP fun i=>m.testBit i
theorem cntR_le (p:Nat→Bool) {k N:Nat} (h:k≤N) (h0:∀ i,k≤i→p i=false):(List.range N).countP p=(List.range k).countP p:=by
 obtain ⟨d,rfl⟩:=Nat.exists_eq_add_of_le h
 clear h
 induction d with
 | zero=>rfl
 | succ d ih =>
   rw [show k+(d+1)=k+d+1 by omega,List.range_succ,List.countP_append,ih]
   simp [h0 (k+d) (by omega)]
theorem and1 (x:Nat) (hx:x < 2 ^ 62):bits .and .i64 (x:Int) 1=((x % 2:Nat):Int):=by
 show IntKind.wrap .i64 ((BitVec.ofInt 64 (x:Int) &&& BitVec.ofInt 64 ((1:Nat):Int)).toNat:Int)=_
 rw [ofNat64T,ofNat64T,BitVec.toNat_and,BitVec.toNat_ofNat,BitVec.toNat_ofNat,Nat.mod_eq_of_lt (by omega),Nat.mod_eq_of_lt (by omega),Nat.and_one_is_mod,w64_eq (by omega) (by omega)]
theorem p_l17Bits (m:Nat) (hm:m < 2 ^ 62):M_df (m:Int)=some (pcN m:Int):=by
 unfold M_df
 obtain ⟨b,hb,hq⟩:=iter_inv (f:=M_bk) (fun t=>∃ k:Nat,k≤62∧t=(((m / 2 ^ k:Nat):Int),(((List.range k).countP fun i=>m.testBit i:Nat):Int))) (fun t=>t.1.toNat) (fun b=>b=((pcN m:Nat):Int))
  (fun t ⟨k,hk,e⟩=>by
   subst e
   have hlt:m / 2 ^ k < 2 ^ 62:=Nat.lt_of_le_of_lt (Nat.div_le_self ..) hm
   have hc:((List.range k).countP fun i=>m.testBit i)≤k:=by
    have:=List.countP_le_length (p:=fun i=>m.testBit i) (l:=List.range k)
    rwa [List.length_range] at this
   unfold M_bk
   by_cases h0:m / 2 ^ k=0
   · right
     have e1:decide ((0:Int) < ((m / 2 ^ k:Nat):Int))=false:=by rw [h0]; rfl
     simp only [e1,cond_false]
     refine ⟨_,rfl,?_⟩
     unfold pcN
     rw [cntR_le _ hk fun i hi=>?_]
     have hmk:m < 2 ^ k:=by
      rcases Nat.div_eq_zero_iff.1 h0 with h | h
      · have:0 < 2 ^ k:=Nat.pow_pos (by omega)
        omega
      · exact h
     exact Nat.testBit_lt_two_pow (Nat.lt_of_lt_of_le hmk (Nat.pow_le_pow_right (by omega) hi))
   · left
     have hk2:k < 62:=by
      refine Nat.lt_of_not_le fun h=>h0 ?_
      exact Nat.div_eq_of_lt (Nat.lt_of_lt_of_le hm (Nat.pow_le_pow_right (by omega) h))
     have e1:decide ((0:Int) < ((m / 2 ^ k:Nat):Int))=true:=decide_eq_true (Int.ofNat_lt.2 (Nat.pos_of_ne_zero h0))
     have e2:Int.fdiv ((m / 2 ^ k:Nat):Int) (2 ^ (min (Int.toNat 1) (IntKind.bits .i64)))=((m / 2 ^ (k+1):Nat):Int):=by
      rw [Int.fdiv_eq_ediv_of_nonneg _ (by decide),Nat.pow_succ,← Nat.div_div_eq_div_mul]
      rfl
     simp only [e1,cond_true,e2,and1 _ hlt]
     refine ⟨_,rfl,⟨k+1,by omega,?_⟩,?_⟩
     · have hmod:=Nat.mod_lt (m / 2 ^ k) (by omega:0 < 2)
       rw [w64_eq (by omega) (by omega),List.range_succ,List.countP_append]
       simp only [List.countP_cons,List.countP_nil,Nat.testBit_eq_decide_div_mod_eq]
       rcases Nat.mod_two_eq_zero_or_one (m / 2 ^ k) with h | h <;> simp [h]
     · simp only [Int.toNat_natCast]
       rw [Nat.pow_succ,← Nat.div_div_eq_div_mul]
       exact Nat.div_lt_self (Nat.pos_of_ne_zero h0) (by omega)) N0 ((m:Int),0) ⟨0,by omega,by simp⟩ (N0_lt (by simp; omega))
 rw [hb,hq]; rfl
theorem bandNot (a b:Nat) (ha:a < 2 ^ 62) (hb:b < 2 ^ 62):∃ m:Nat,bits .andNot .i64 (a:Int) (b:Int)=(m:Int)∧m < 2 ^ 62∧∀ i,m.testBit i=(a.testBit i&&!b.testBit i):=by
 refine ⟨(BitVec.ofNat 64 a &&& ~~~ BitVec.ofNat 64 b).toNat,?_,?_,?_⟩
 · have h1:(BitVec.ofNat 64 a &&& ~~~ BitVec.ofNat 64 b).toNat≤a:=by
    rw [BitVec.toNat_and,BitVec.toNat_ofNat,Nat.mod_eq_of_lt (by omega)]
    exact Nat.and_le_left
   show IntKind.wrap .i64 ((BitVec.ofInt 64 (a:Int) &&& ~~~ BitVec.ofInt 64 (b:Int)).toNat:Int)=_
   rw [ofNat64T,ofNat64T,w64_eq (by omega) (by omega)]
 · have h1:(BitVec.ofNat 64 a &&& ~~~ BitVec.ofNat 64 b).toNat≤a:=by
    rw [BitVec.toNat_and,BitVec.toNat_ofNat,Nat.mod_eq_of_lt (by omega)]
    exact Nat.and_le_left
   omega
 · intro i
   rw [BitVec.testBit_toNat,BitVec.getLsbD_and,BitVec.getLsbD_not,BitVec.getLsbD_ofNat,BitVec.getLsbD_ofNat]
   by_cases hi:i < 64
   · simp [hi]
   · have:a.testBit i=false:=Nat.testBit_lt_two_pow (Nat.lt_of_lt_of_le ha (Nat.pow_le_pow_right (by omega) (by omega)))
     simp [hi,this]
def cntD (n:TNetwork) (d:List Bool) (r:List Int):Nat:=(protP n r).countP fun y=>!gB d y
def leftD (n:TNetwork) (d:List Bool):Nat:=(List.range n.Fibers.length).countP fun i:Nat=>!gB d (i:Int)
theorem markB_all {n:TNetwork} {d:List Bool} (hd:d.length=n.Fibers.length) (r:List Int) (i:Nat):gB (markB d (protP n r)) (i:Int)=(gB d (i:Int)||decide ((i:Int)∈protP n r)):=by
 by_cases hi:i < d.length
 · exact markB_at _ _ _ (fun y hy=>(prot_rng hy).1) hi
 · have h1:gB (markB d (protP n r)) (i:Int)=false:=by
    unfold gB
    rw [Int.toNat_natCast,List.getElem?_eq_none (by rw [markB_len]; omega)]; rfl
   have h2:gB d (i:Int)=false:=by
    unfold gB
    rw [Int.toNat_natCast,List.getElem?_eq_none (by omega)]; rfl
   have h3:¬ (i:Int)∈protP n r:=fun h=>by have:=prot_rng h; omega
   rw [h1,h2]; simp [h3]
theorem cntD_eq {n:TNetwork} (d:List Bool) (r:List Int) (N:Nat) (hN:n.Fibers.length≤N):(List.range N).countP (fun i:Nat=>decide ((i:Int)∈protP n r)&&!gB d (i:Int))=cntD n d r:=by
 rw [cntR_mem (fun i:Nat=>!gB d (i:Int)) N (protP n r) (prot_nodup n r) fun y hy=>by have:=prot_rng hy; omega]
 unfold cntD
 refine List.countP_congr fun y hy=>?_
 have:=(prot_rng hy).1
 rw [Int.toNat_of_nonneg this]
theorem left_mark {n:TNetwork} {d:List Bool} (hd:d.length=n.Fibers.length) (r:List Int):leftD n d=leftD n (markB d (protP n r))+cntD n d r:=by
 unfold leftD
 rw [← cntD_eq d r n.Fibers.length (Nat.le_refl _),cntR_or _ (fun i:Nat=>!gB (markB d (protP n r)) (i:Int)) (fun i:Nat=>decide ((i:Int)∈protP n r)&&!gB d (i:Int))]
 · intro i _
   rw [markB_all hd]
   cases gB d (i:Int) <;> cases decide ((i:Int)∈protP n r) <;> rfl
 · intro i _
   rw [markB_all hd]
   cases gB d (i:Int) <;> cases decide ((i:Int)∈protP n r) <;> rfl
def bstS (n:TNetwork) (d:List Bool) (i:Nat) (r:List Int) (o:Option (Nat×Nat)):Option (Nat×Nat):=match o with
 | none=>if 0 < cntD n d r then some (i,cntD n d r) else none
 | some q=>if q.2 < cntD n d r then some (i,cntD n d r) else some q
def bstD (n:TNetwork) (d:List Bool) (L:List (List Int)):Option (Nat×Nat):=foldI (bstS n d) 0 L none
def BstOk (n:TNetwork) (d:List Bool) (L:List (List Int)) (o:Option (Nat×Nat)):Prop:=∀ q,o=some q→0 < q.2∧∃ r,L[q.1]?=some r∧cntD n d r=q.2
theorem bstS_ok {n:TNetwork} {d:List Bool} {L:List (List Int)} {i:Nat} {r:List Int} {o:Option (Nat×Nat)} (hi:L[i]?=some r) (h:BstOk n d L o):BstOk n d L (bstS n d i r o):=by
 intro q hq
 unfold bstS at hq
 split at hq
 · split at hq
   · cases hq; exact ⟨by assumption,r,hi,rfl⟩
   · cases hq
 · rename_i q'
   have h':=h q' rfl
   split at hq
   · cases hq; exact ⟨by simp only; omega,r,hi,rfl⟩
   · cases hq; exact h'
theorem bstD_ok {n:TNetwork} (d:List Bool) (L:List (List Int)):BstOk n d L (bstD n d L):=by
 have:∀ (xs:List (List Int)) (k:Nat) (o:Option (Nat×Nat)),(∀ j r,xs[j]?=some r→L[k+j]?=some r)→BstOk n d L o→BstOk n d L (foldI (bstS n d) k xs o):=by
  intro xs
  induction xs with
  | nil=>intro k o _ h; exact h
  | cons x xs ih =>
    intro k o hx h
    exact ih (k+1) _ (fun j r hj=>by have:=hx (j+1) r (by simpa using hj); rwa [show k+1+j=k+(j+1) by omega]) (bstS_ok (hx 0 x rfl) h)
 exact this L 0 none (fun j r h=>by simpa using h) (fun q h=>by cases h)
def coverF (n:TNetwork) (L:List (List Int)):Nat→List Bool→List (List Int)→List (List Int)
 | 0,_,out=>out
 | k + 1, d, out => match bstD n d L with
   | none=>out
   | some q=>coverF n L k (markB d (protP n ((L[q.1]?).getD []))) (out++[(L[q.1]?).getD []])
def crP (n:TNetwork):List (List Int)×Bool:=if (arP n).2 then (coverF n (arP n).1 15 (List.replicate n.Fibers.length false) [],true) else ([],false)
theorem impl_best {n:TNetwork} (h:(arP n).2=true) (d:List Bool) (hd:d.length=n.Fibers.length) (out:List (List Int)) :
 iter (M_f n (arP n) (n.Fibers.length,out,d)) N0 (0,0,0,d)=some (match bstD n d (arP n).1 with | none=>(0,0,d) | some q=>((q.1:Int),(q.2:Int),d)):=by
 obtain ⟨hn,h6,hok⟩:=arP_ok h
 have hF:=(netOk_bR hn).2.2
 have:=iter_foldI (f:=M_f n (arP n) (n.Fibers.length,out,d)) (arP n).1 (fun i (o:Option (Nat×Nat))=>(match o with | none=>((0:Int),(0:Int),(i:Int),d) | some q=>((q.1:Int),(q.2:Int),(i:Int),d))) (bstS n d)
  (fun o=>match o with | none=>((0:Int),(0:Int),d) | some q=>((q.1:Int),(q.2:Int),d)) (fun _ _=>True) (fun i o r hr _=>by
  have hlt:=(List.getElem?_eq_some_iff.1 hr).1
  have e1:decide ((i:Int) < ((arP n).1.length:Int))=true:=by simp [hlt]
  have e2:=p_newFibers hn (hok r (List.mem_of_getElem? hr)) false d hd
  have e3:nfP false (protP n r) (0,d)=((cntD n d r:Int),d):=by
   unfold nfP; rw [nf_false]; simp [cntD]
  rw [e3] at e2
  have w1:IntKind.wrap .i64 ((i:Int)+1)=((i+1:Nat):Int):=by rw [w64_eq (by omega) (by omega)]; rfl
  refine ⟨trivial,?_⟩
  cases o with
  | none =>
    simp only [M_f,e1,cond_true,Int.toNat_natCast,hr,Option.bind_some,e2,bstS,w1]
    rw [grd_t ⟨by omega,by omega⟩,Option.bind_some]
    by_cases hc:0 < cntD n d r
    · have e4:decide ((0:Int) < (cntD n d r:Int))=true:=by simp only [decide_eq_true_eq]; omega
      rw [e4,cond_true,if_pos hc]
    · have e4:decide ((0:Int) < (cntD n d r:Int))=false:=by simp only [decide_eq_false_iff_not]; omega
      rw [e4,cond_false,if_neg hc]
  | some q =>
    simp only [M_f,e1,cond_true,Int.toNat_natCast,hr,Option.bind_some,e2,bstS,w1]
    rw [grd_t ⟨by omega,by omega⟩,Option.bind_some]
    by_cases hc:q.2 < cntD n d r
    · have e4:decide ((q.2:Int) < (cntD n d r:Int))=true:=by simp only [decide_eq_true_eq]; omega
      rw [e4,cond_true,if_pos hc]
    · have e4:decide ((q.2:Int) < (cntD n d r:Int))=false:=by simp only [decide_eq_false_iff_not]; omega
      rw [e4,cond_false,if_neg hc]) (fun o _=>by cases o <;> simp [M_f]) none trivial (by omega)
 exact this
theorem spec_best {n:TNetwork} (h:(arP n).2=true) (d:List Bool) (H:Nat) (hH:H < 2 ^ 62) (hb:∀ i:Nat,H.testBit i=gB d (i:Int)) (out:List (List Int)) :
 iter (M_i n (true,(arP n).1) ((H:Int),out)) N0 (-1,0,0)=some (match bstD n d (arP n).1 with | none=>(-1) | some q=>(q.1:Int)):=by
 obtain ⟨hn,h6,hok⟩:=arP_ok h
 have hF:=(netOk_bR hn).2.2
 have:=iter_foldI (f:=M_i n (true,(arP n).1) ((H:Int),out)) (arP n).1 (fun i (o:Option (Nat×Nat))=>(match o with | none=>((-1:Int),(0:Int),(i:Int)) | some q=>((q.1:Int),(q.2:Int),(i:Int)))) (bstS n d)
  (fun o=>match o with | none=>(-1:Int) | some q=>(q.1:Int)) (fun _ _=>True) (fun i o r hr _=>by
  have hlt:=(List.getElem?_eq_some_iff.1 hr).1
  have e1:decide ((i:Int) < ((arP n).1.length:Int))=true:=by simp [hlt]
  obtain ⟨m,c1,c2,c3⟩:=p_l17Cover hn (hok r (List.mem_of_getElem? hr))
  obtain ⟨m2,d1,d2,d3⟩:=bandNot m H c2 hH
  have e2:M_df (bits .andNot .i64 (m:Int) (H:Int))=some (cntD n d r:Int):=by
   rw [d1,p_l17Bits m2 d2,← cntD_eq d r 62 (by omega)]
   unfold pcN
   congr 2
   refine List.countP_congr fun j _=>?_
   rw [d3,c3,hb]
  have w1:IntKind.wrap .i64 ((i:Int)+1)=((i+1:Nat):Int):=by rw [w64_eq (by omega) (by omega)]; rfl
  refine ⟨trivial,?_⟩
  cases o with
  | none =>
    simp only [M_i,e1,cond_true,Int.toNat_natCast,hr,Option.bind_some,c1,e2,bstS,w1]
    rw [grd_t ⟨by omega,by omega⟩,Option.bind_some]
    by_cases hc:0 < cntD n d r
    · have e4:decide ((0:Int) < (cntD n d r:Int))=true:=by simp only [decide_eq_true_eq]; omega
      rw [e4,cond_true,if_pos hc]
    · have e4:decide ((0:Int) < (cntD n d r:Int))=false:=by simp only [decide_eq_false_iff_not]; omega
      rw [e4,cond_false,if_neg hc]
  | some q =>
    simp only [M_i,e1,cond_true,Int.toNat_natCast,hr,Option.bind_some,c1,e2,bstS,w1]
    rw [grd_t ⟨by omega,by omega⟩,Option.bind_some]
    by_cases hc:q.2 < cntD n d r
    · have e4:decide ((q.2:Int) < (cntD n d r:Int))=true:=by simp only [decide_eq_true_eq]; omega
      rw [e4,cond_true,if_pos hc]
    · have e4:decide ((q.2:Int) < (cntD n d r:Int))=false:=by simp only [decide_eq_false_iff_not]; omega
      rw [e4,cond_false,if_neg hc]) (fun o _=>by cases o <;> simp [M_i]) none trivial (by omega)
 exact this
theorem impl_cover {n:TNetwork} (h:(arP n).2=true):∀ (k N:Nat) (d:List Bool) (out:List (List Int)),d.length=n.Fibers.length→leftD n d < k→k≤N→out.length+k≤100 →
 iter (M_bo n (arP n)) N (n.Fibers.length,out,d)=some (.inr (coverF n (arP n).1 k d out,true))
 | 0,_,_,_,_,hl,_,_=>by omega
 | k+1,0,_,_,_,_,hN,_=>by omega
 | k + 1, N + 1, d, out, hd, hl, hN, ho => by
   obtain ⟨hn,h6,hok⟩:=arP_ok h
   have key:M_bo n (arP n) (n.Fibers.length,out,d)=match bstD n d (arP n).1 with
    | none=>some (.inr (.inr (out,true)))
    | some q=>some (.inl (n.Fibers.length,out++[((arP n).1[q.1]?).getD []],markB d (protP n (((arP n).1[q.1]?).getD [])))):=by
    unfold M_bo
    simp only []
    rw [impl_best h d hd out,Option.bind_some]
    have hb:=bstD_ok (n:=n) d (arP n).1
    cases hq:bstD n d (arP n).1 with
    | none=>rfl
    | some q =>
      obtain ⟨h1,r,h2,h3⟩:=hb q hq
      have hlt:=(List.getElem?_eq_some_iff.1 h2).1
      have e1:((q.2:Int)==0)=false:=by simp; omega
      have hr:=hok r (List.mem_of_getElem? h2)
      simp only [e1,cond_false,Int.toNat_natCast,h2,Option.bind_some,Option.getD_some,bnd]
      rw [grd_t ⟨by omega,by omega⟩,Option.bind_some,p_newFibers hn hr true d hd,Option.bind_some,p_CloneI r (by have:=hr.2; omega),Option.bind_some,grd_t (by omega),Option.bind_some]
      unfold nfP
      rw [nf_true]
   rw [iter,key]
   unfold coverF
   have hb:=bstD_ok (n:=n) d (arP n).1
   cases hq:bstD n d (arP n).1 with
   | none=>rfl
   | some q =>
     obtain ⟨h1,r,h2,h3⟩:=hb q hq
     have hm:=left_mark (n:=n) hd (((arP n).1[q.1]?).getD [])
     rw [h2] at hm
     simp only [Option.getD_some] at hm
     simp only [h2,Option.getD_some]
     exact impl_cover h k N _ _ (by rw [markB_len]; exact hd) (by omega) (by omega) (by simp; omega)
theorem spec_cover {n:TNetwork} (h:(arP n).2=true):∀ (k N:Nat) (d:List Bool) (H:Nat) (out:List (List Int)),d.length=n.Fibers.length→H < 2 ^ 62→(∀ i:Nat,H.testBit i=gB d (i:Int))→leftD n d < k→k≤N→out.length+k≤100 →
 iter (M_ag n (true,(arP n).1)) N ((H:Int),out)=some (.inr (coverF n (arP n).1 k d out,true))
 | 0,_,_,_,_,_,_,_,hl,_,_=>by omega
 | k+1,0,_,_,_,_,_,_,_,hN,_=>by omega
 | k + 1, N + 1, d, H, out, hd, hH, hB, hl, hN, ho => by
   obtain ⟨hn,h6,hok⟩:=arP_ok h
   have hb:=bstD_ok (n:=n) d (arP n).1
   cases hq:bstD n d (arP n).1 with
   | none =>
     have key:M_ag n (true,(arP n).1) ((H:Int),out)=some (.inr (.inr (out,true))):=by
      unfold M_ag
      simp only []
      rw [spec_best h d H hH hB out,Option.bind_some,hq]; rfl
     rw [iter,key]
     unfold coverF
     rw [hq]
   | some q =>
     obtain ⟨h1,r,h2,h3⟩:=hb q hq
     have hlt:=(List.getElem?_eq_some_iff.1 h2).1
     have hr:=hok r (List.mem_of_getElem? h2)
     obtain ⟨m,c1,c2,c3⟩:=p_l17Cover hn hr
     have key:M_ag n (true,(arP n).1) ((H:Int),out)=some (.inl (((H ||| m:Nat):Int),out++[r])):=by
      unfold M_ag
      simp only []
      rw [spec_best h d H hH hB out,Option.bind_some,hq]
      have e1:decide ((q.1:Int) < 0)=false:=by simp only [decide_eq_false_iff_not]; omega
      simp only [e1,cond_false,Int.toNat_natCast,h2,Option.bind_some,bnd]
      rw [grd_t ⟨by omega,by omega⟩,Option.bind_some,p_l1Own r (by have:=hr.2; omega),Option.bind_some,grd_t (by omega),Option.bind_some,c1,Option.bind_some,borT H m hH c2]
     rw [iter,key]
     unfold coverF
     rw [hq]
     have hm:=left_mark (n:=n) hd r
     simp only [h2,Option.getD_some]
     exact spec_cover h k N _ _ _ (by rw [markB_len]; exact hd) (Nat.or_lt_two_pow hH c2) (fun i=>by rw [Nat.testBit_or,hB,c3,markB_all hd]) (by omega) (by omega) (by simp; omega)
theorem left_le (n:TNetwork) (hF:n.Fibers.length≤14) (d:List Bool):leftD n d < 15:=by
 unfold leftD
 have:=List.countP_le_length (p:=fun i:Nat=>!gB d (i:Int)) (l:=List.range n.Fibers.length)
 rw [List.length_range] at this
 omega
theorem p_impl_CoverRings (n:TNetwork) (hz:z_Network n≤1048576):M_db n=some (crP n):=by
 unfold M_db crP
 rw [p_impl_AllRings n hz,Option.bind_some]
 cases h:(arP n).2 with
 | false=>rfl
 | true =>
   obtain ⟨hn,h6,hok⟩:=arP_ok h
   have hF:=(netOk_bR hn).2.2
   simp only [Bool.not_true,cond_false,if_true]
   rw [grd_t ⟨by omega,by omega,by omega,by omega⟩,Option.bind_some]
   simp only [bnd,Int.toNat_natCast]
   rw [impl_cover h 15 N0 (List.replicate n.Fibers.length false) [] (by simp) (left_le n hF _) (by have:=N0_lt (n:=15) (by omega); omega) (by simp)]
   rfl
theorem p_spec_CoverRings (n:TNetwork) (hz:z_Network n≤1048576):M_dg n=some (crP n):=by
 unfold M_dg crP
 rw [p_spec_AllRings n hz,Option.bind_some]
 cases h:(arP n).2 with
 | false=>rfl
 | true =>
   obtain ⟨hn,h6,hok⟩:=arP_ok h
   have hF:=(netOk_bR hn).2.2
   simp only [Bool.not_true,cond_false,if_true]
   have hg:∀ i:Nat,gB (List.replicate n.Fibers.length false) (i:Int)=false:=fun i=>by
    unfold gB
    rw [Int.toNat_natCast,List.getElem?_replicate]
    split <;> rfl
   have:=spec_cover h 15 N0 (List.replicate n.Fibers.length false) 0 [] (by simp) (by decide) (fun i=>by rw [hg,Nat.zero_testBit]) (left_le n hF _) (by have:=N0_lt (n:=15) (by omega); omega) (by simp)
   have e:iter (M_ag n (true,(arP n).1)) N0 (0,[])=_:=this
   rw [e]; rfl
theorem cover_z {n:TNetwork} {L:List (List Int)} (hL:∀ r∈L,r.length≤8):∀ (k:Nat) (d:List Bool) (out:List (List Int)),(∀ r∈out,r.length≤8)→(coverF n L k d out).length≤out.length+k∧∀ r∈coverF n L k d out,r.length≤8
 | 0,d,out,h=>⟨by simp [coverF],h⟩
 | k + 1, d, out, h => by
   unfold coverF
   have hb:=bstD_ok (n:=n) d L
   cases hq:bstD n d L with
   | none=>exact ⟨by simp only; omega,h⟩
   | some q =>
     obtain ⟨_,r,h2,_⟩:=hb q hq
     simp only [h2,Option.getD_some]
     have:=cover_z (n:=n) hL k (markB d (protP n r)) (out++[r]) (fun x hx=>by
      rw [List.mem_append,List.mem_singleton] at hx
      rcases hx with hx | hx
      · exact h x hx
      · rw [hx]; exact hL r (List.mem_of_getElem? h2))
     refine ⟨?_,this.2⟩
     have:=this.1
     rw [List.length_append,List.length_singleton] at this
     omega
end Vs

namespace Vs
open Go
structure CurOk (c:Tl1Cur) (m:Nat):Prop where
 by8:∀ x∈c.code,0≤x∧x≤255
 len:c.code.length≤65536
 at0:0≤c.atF
 atm:c.atF≤(m:Int)
theorem and255 (x:Int):0≤bits .and .u64 x 255∧bits .and .u64 x 255≤255:=by
 have h:(BitVec.ofInt (IntKind.bits .u64) x &&& BitVec.ofInt (IntKind.bits .u64) 255).toNat≤255:=by
  rw [BitVec.toNat_and]
  exact Nat.le_trans Nat.and_le_right (by decide)
 unfold bits
 simp only
 generalize (BitVec.ofInt (IntKind.bits .u64) x &&& BitVec.ofInt (IntKind.bits .u64) 255).toNat=k at h
 have:IntKind.wrap .u64 (k:Int)=(k:Int):=by
  unfold IntKind.wrap
  simp [IntKind.bits,IntKind.signed]
  omega
 rw [this]; omega
theorem p_next {c:Tl1Cur} {m:Nat} (h:CurOk c m) (hm:m≤1000000000000):∃ b c',M_cr c=some (b,c')∧0≤b∧b≤255∧CurOk c' (m+1):=by
 obtain ⟨h1,h2,h3,h4⟩:=h
 have hb:∃ b,(cond (decide (c.atF < (c.code.length:Int))) ((geti c.code c.atF).bind fun yZ2=>some (IntKind.wrap .i64 yZ2)) (some 0):Option Int)=some b∧0≤b∧b≤255:=by
  by_cases e:c.atF < (c.code.length:Int)
  · rw [decide_eq_true e,cond_true]
    have hlt:c.atF.toNat < c.code.length:=by omega
    have hg:geti c.code c.atF=some c.code[c.atF.toNat]:=by
     unfold geti; rw [if_pos h3]; exact List.getElem?_eq_getElem hlt
    have:=h1 _ (List.getElem_mem hlt)
    rw [hg]
    refine ⟨c.code[c.atF.toNat],?_,this.1,this.2⟩
    simp only [Option.bind_some]
    rw [w64_eq (by omega) (by omega)]
  · rw [decide_eq_false e,cond_false]; exact ⟨0,rfl,by omega,by omega⟩
 obtain ⟨b,b1,b2,b3⟩:=hb
 unfold M_cr
 rw [b1]
 simp only [Option.bind_some]
 rw [w64_eq (n:=c.atF+1) (by omega) (by omega)]
 by_cases e:c.atF+1≤(c.code.length:Int)
 · rw [decide_eq_true e,cond_true]
   exact ⟨_,_,rfl,b2,b3,⟨h1,h2,by simp only; omega,by simp only; omega⟩⟩
 · rw [decide_eq_false e,cond_false]
   have h5:=and255 (Int.fdiv (IntKind.wrap .u64 ((IntKind.wrap .u64 ((IntKind.wrap .u64 (c.seed * 6364136223846793005))+(IntKind.wrap .u64 b)))+897897)) (2 ^ (min (Int.toNat 40) (IntKind.bits .u64))))
   refine ⟨_,_,rfl,?_,?_,⟨h1,h2,by simp only; omega,by simp only; omega⟩⟩
   · rw [w64_eq (by omega) (by omega)]; exact h5.1
   · rw [w64_eq (by omega) (by omega)]; exact h5.2
theorem p_pick {c:Tl1Cur} {m:Nat} (n:Int) (h:CurOk c m) (hm:m≤100000000000):∃ x c',M_a n c=some (x,c')∧0≤x∧(x < n∨x=0)∧CurOk c' (m+2):=by
 unfold M_a
 by_cases e:n≤1
 · rw [decide_eq_true e,cond_true]
   exact ⟨0,c,rfl,by omega,.inr rfl,⟨h.by8,h.len,h.at0,by have:=h.atm; omega⟩⟩
 · rw [decide_eq_false e,cond_false]
   obtain ⟨b,c1,g1,g2,g3,g4⟩:=p_next h (by omega)
   rw [g1]
   simp only [Option.bind_some]
   by_cases e2:200 < n
   · rw [decide_eq_true e2,cond_true]
     obtain ⟨b',c2,k1,k2,k3,k4⟩:=p_next g4 (by omega)
     rw [k1]
     simp only [Option.bind_some]
     rw [grd_t (by omega)]
     simp only [Option.bind_some]
     refine ⟨_,_,rfl,?_,.inl ?_,k4⟩
     · rw [w64_eq (n:=b * 256) (by omega) (by omega),w64_eq (by omega) (by omega)]
       exact Int.tmod_nonneg _ (by omega)
     · exact Int.tmod_lt_of_pos _ (by omega)
   · rw [decide_eq_false e2,cond_false,grd_t (by omega)]
     simp only [Option.bind_some]
     exact ⟨_,_,rfl,Int.tmod_nonneg _ g2,.inl (Int.tmod_lt_of_pos _ (by omega)),⟨g4.by8,g4.len,g4.at0,by have:=g4.atm; omega⟩⟩
theorem CurOk.up {c:Tl1Cur} {m k:Nat} (h:CurOk c m) (hk:m≤k):CurOk c k:=⟨h.by8,h.len,h.at0,by have:=h.atm; omega⟩
theorem p_one {c:Tl1Cur} {m:Nat} (n:Int) (h:CurOk c m) (hm:m≤100000000000):∃ b c',M_da n c=some (b,c')∧CurOk c' (m+2):=by
 obtain ⟨x,c1,g1,g2,g3,g4⟩:=p_pick n h hm
 unfold M_da
 rw [g1]
 exact ⟨_,_,rfl,g4⟩
theorem p_amongL {c:Tl1Cur} {m:Nat} (l:List Int) (h:CurOk c m) (hm:m≤100000000000) (hl:0 < l.length):∃ x c',M_bp c l=some (x,c',l)∧x∈l∧CurOk c' (m+2):=by
 obtain ⟨i,c1,g1,g2,g3,g4⟩:=p_pick (l.length:Int) h hm
 unfold M_bp
 rw [g1]
 simp only [Option.bind_some]
 have hi:i.toNat < l.length:=by omega
 rw [grd_t (by omega)]
 simp only [Option.bind_some,List.getElem?_eq_getElem hi]
 exact ⟨_,_,rfl,List.getElem_mem hi,g4⟩
theorem p_ofL {c:Tl1Cur} {m:Nat} (l:List ByteArray) (h:CurOk c m) (hm:m≤100000000000) (hl:0 < l.length):∃ x c',M_dh c l=some (x,c',l)∧x∈l∧CurOk c' (m+2):=by
 obtain ⟨i,c1,g1,g2,g3,g4⟩:=p_pick (l.length:Int) h hm
 unfold M_dh
 rw [g1]
 simp only [Option.bind_some]
 have hi:i.toNat < l.length:=by omega
 rw [grd_t (by omega)]
 simp only [Option.bind_some,List.getElem?_eq_getElem hi]
 exact ⟨_,_,rfl,List.getElem_mem hi,g4⟩
end Vs

namespace Vs
open Go
theorem p_beforeT (f g:TFiber):∃ r,M_cb f g=some r:=by
 unfold M_cb
 cases (f.A != g.A)
 · cases (f.B != g.B)
   · cases (f.Length != g.Length) <;> exact ⟨_,rfl⟩
   · exact ⟨_,rfl⟩
 · exact ⟨_,rfl⟩
theorem p_least (a b:Int):∃ r,M_cn a b=some r:=by
 unfold M_cn
 cases decide (a < b) <;> exact ⟨_,rfl⟩
theorem p_most (a b:Int):∃ r,M_bs a b=some r∧a≤r∧b≤r∧(r=a∨r=b):=by
 unfold M_bs
 by_cases h:b < a
 · rw [decide_eq_true h,cond_true]; exact ⟨a,rfl,by omega,by omega,.inl rfl⟩
 · rw [decide_eq_false h,cond_false]; exact ⟨b,rfl,by omega,by omega,.inr rfl⟩
theorem p_l2Put (l:List TFiber) (f:TFiber) (hl:l.length≤1048576):∃ l',M_co l f=some l'∧l'.length=l.length+1:=by
 obtain ⟨o,o1,i,rfl,o3⟩:=iter_inv (f:=M_s l f) (fun s=>∃ i:Nat,s=i∧i≤l.length) (fun s=>l.length - s.toNat) (fun o=>∃ i:Nat,o=(i:Int)∧i≤l.length) (fun s hI=>by
  obtain ⟨i,rfl,hi⟩:=hI
  by_cases h:i < l.length
  · obtain ⟨r,hr⟩:=p_beforeT l[i] f
    simp only [M_s,decide_eq_true (show (i:Int) < (l.length:Int) by omega),cond_true,geti_nat,List.getElem?_eq_getElem h,Option.bind_some,hr]
    by_cases h2:r≤0
    · left
      rw [decide_eq_true h2,cond_true,w64_eq (n:=(i:Int)+1) (by omega) (by omega)]
      exact ⟨_,rfl,⟨i+1,by simp,by omega⟩,by omega⟩
    · right
      rw [decide_eq_false h2,cond_false]
      exact ⟨_,rfl,i,rfl,hi⟩
  · right
    simp only [M_s,decide_eq_false (show ¬ (i:Int) < (l.length:Int) by omega),cond_false]
    exact ⟨_,rfl,i,rfl,hi⟩) N0 0 ⟨0,rfl,by omega⟩ (N0_lt (by omega))
 unfold M_co
 rw [o1]
 simp only [Option.bind_some,slT,slF,Int.toNat_natCast,bnd]
 rw [if_pos ⟨by omega,o3⟩,if_pos ⟨by omega,o3⟩]
 simp only [Option.bind_some]
 rw [grd_t (by simp; omega),]
 simp only [Option.bind_some]
 rw [grd_t (by simp; omega)]
 simp only [Option.bind_some]
 rw [grd_t (by simp; omega)]
 exact ⟨_,rfl,by simp; omega⟩
theorem net_step1 {c:Tl1Cur} {m:Nat} (x:Int) (c0:Tl1Cur) (hx:0≤x∧x < 5) (i:Int) (hi:0≤i∧i < 2+x) (fs:List TFiber) (hf:fs.length≤1000) (h:CurOk c m) (hm:m≤10000000000) :
 ∃ fs' c',M_l (x,c0) (i,fs,c)=some (.inl (i+1,fs',c'))∧fs'.length≤fs.length+1∧CurOk c' (m+6):=by
 obtain ⟨b,c1,hb,hc⟩:∃ b c1,(cond (i==Int.tmod (i+1) (2+x)) (some (true,c)) ((M_da 10 c).bind fun rZ10=>some (rZ10.1,rZ10.2)):Option (Bool×Tl1Cur))=some (b,c1)∧CurOk c1 (m+2):=by
  cases (i==Int.tmod (i+1) (2+x))
  · obtain ⟨b,c1,g1,g2⟩:=p_one 10 h (by omega)
    exact ⟨b,c1,by rw [cond_false,g1]; rfl,g2⟩
  · exact ⟨true,c,rfl,h.up (by omega)⟩
 simp only [M_l,w64_eq (n:=2+x) (by omega) (by omega),w64_eq (n:=i+1) (by omega) (by omega),decide_eq_true hi.2,cond_true,grd_t (show (2+x) ≠ 0 by omega),Option.bind_some,hb]
 cases b with
 | true=>exact ⟨fs,c1,rfl,by omega,hc.up (by omega)⟩
 | false =>
   obtain ⟨a1,ha1⟩:=p_least i (Int.tmod (i+1) (2+x))
   obtain ⟨a2,ha2,_⟩:=p_most i (Int.tmod (i+1) (2+x))
   obtain ⟨x8,c2,g1,g2,g3,g4⟩:=p_pick 8 hc (by omega)
   obtain ⟨rk,c3,k1,k2,k3⟩:=p_amongL [0,0,0,1,2] g4 (by omega) (by simp)
   obtain ⟨l',l1,l2⟩:=p_l2Put fs ⟨a1,a2,IntKind.wrap .i64 (100 * (IntKind.wrap .i64 (1+x8))),rk⟩ (by omega)
   simp only [cond_false,ha1,ha2,g1,bnd,k1,l1,Option.bind_some]
   exact ⟨l',c3,rfl,by omega,k3.up (by omega)⟩
theorem net_step2 {c:Tl1Cur} {m:Nat} (x:Int) (c0:Tl1Cur) (hx:0≤x∧x < 5) (i:Int) (hi:0 < i∧i≤10) (fs:List TFiber) (hf:fs.length≤1000) (h:CurOk c m) (hm:m≤10000000000) :
 ∃ fs' c',M_m (x,c0) (i,fs,c)=some (.inl (i - 1,fs',c'))∧fs'.length≤fs.length+1∧CurOk c' (m+8):=by
 obtain ⟨p,c1,p1,p2,p3,p4⟩:=p_pick (2+x) h (by omega)
 obtain ⟨q,c2,q1,q2,q3,q4⟩:=p_pick (2+x) p4 (by omega)
 simp only [M_m,w64_eq (n:=2+x) (by omega) (by omega),w64_eq (n:=i - 1) (by omega) (by omega),decide_eq_true hi.1,cond_true,Option.bind_some,p1,q1]
 cases (p != q) with
 | false=>exact ⟨fs,c2,rfl,by omega,q4.up (by omega)⟩
 | true =>
   obtain ⟨a1,ha1⟩:=p_least p q
   obtain ⟨a2,ha2,_⟩:=p_most p q
   obtain ⟨x8,c2',g1,g2,g3,g4⟩:=p_pick 8 q4 (by omega)
   obtain ⟨rk,c3,k1,k2,k3⟩:=p_amongL [0,0,0,1,2] g4 (by omega) (by simp)
   obtain ⟨l',l1,l2⟩:=p_l2Put fs ⟨a1,a2,IntKind.wrap .i64 (100 * (IntKind.wrap .i64 (1+x8))),rk⟩ (by omega)
   simp only [cond_true,ha1,ha2,g1,bnd,k1,l1,Option.bind_some]
   exact ⟨l',c3,rfl,by omega,k3.up (by omega)⟩
theorem p_network {c:Tl1Cur} {m:Nat} (h:CurOk c m) (hm:m≤1000000000):∃ (K:Nat) (nodes:List ByteArray) (fs:List TFiber) (c':Tl1Cur),M_cp c=some (0,K,nodes,fs,c')∧2≤K∧K≤6∧nodes.length=6∧(∀ s∈nodes,s.size≤9)∧fs.length≤9∧CurOk c' (m+100):=by
 obtain ⟨x,c1,x1,x2,x3,x4⟩:=p_pick 5 h (by omega)
 have hx:0≤x∧x < 5:=by omega
 obtain ⟨⟨f1,c2⟩,o1,o2,o3⟩:=iter_inv (f:=M_l (x,c1)) (fun s=>0≤s.1∧s.1≤2+x∧(s.2.1.length:Int)≤s.1∧CurOk s.2.2 (m+2+6 * s.1.toNat)) (fun s=>(2+x - s.1).toNat) (fun o=>o.1.length≤6∧CurOk o.2 (m+38)) (fun s hI=>by
  obtain ⟨j,l,cc⟩:=s
  obtain ⟨i1,i2,i3,i4⟩:=hI
  simp only at i1 i2 i3 i4
  by_cases hj:j < 2+x
  · left
    obtain ⟨fs',c',g1,g2,g3⟩:=net_step1 x c1 hx j ⟨i1,hj⟩ l (by omega) i4 (by omega)
    exact ⟨_,g1,⟨by simp only; omega,by simp only; omega,by simp only; omega,g3.up (by simp only; omega)⟩,by simp only; omega⟩
  · right
    refine ⟨(l,cc),?_,by simp only; omega,i4.up (by omega)⟩
    simp only [M_l,w64_eq (n:=2+x) (by omega) (by omega),decide_eq_false hj,cond_false]) N0 (0,[],c1) ⟨by simp,by simp only; omega,by simp,x4.up (by simp)⟩ (N0_lt (by simp only; omega))
 simp only at o2 o3
 obtain ⟨y,c3,y1,y2,y3,y4⟩:=p_pick 4 o3 (by omega)
 have hy:0≤y∧y < 4:=by omega
 obtain ⟨⟨f2,c4⟩,q1,q2,q3⟩:=iter_inv (f:=M_m (x,c1)) (fun s=>0≤s.1∧s.1≤3∧(s.2.1.length:Int)≤9 - s.1∧CurOk s.2.2 (m+40+8 * (3 - s.1.toNat))) (fun s=>s.1.toNat) (fun o=>o.1.length≤9∧CurOk o.2 (m+64)) (fun s hI=>by
  obtain ⟨j,l,cc⟩:=s
  obtain ⟨i1,i2,i3,i4⟩:=hI
  simp only at i1 i2 i3 i4
  by_cases hj:0 < j
  · left
    obtain ⟨fs',c',g1,g2,g3⟩:=net_step2 x c1 hx j ⟨hj,by omega⟩ l (by omega) i4 (by omega)
    exact ⟨_,g1,⟨by simp only; omega,by simp only; omega,by simp only; omega,g3.up (by simp only; omega)⟩,by simp only; omega⟩
  · right
    refine ⟨(l,cc),?_,by simp only; omega,i4.up (by omega)⟩
    simp only [M_m,decide_eq_false hj,cond_false]) N0 (y,f1,c3) ⟨by simp only; omega,by simp only; omega,by simp only; omega,y4.up (by simp only; omega)⟩ (N0_lt (by simp only; omega))
 simp only at q2 q3
 unfold M_cp
 simp only [x1,Option.bind_some,bnd,w64_eq (n:=2+x) (by omega) (by omega)]
 rw [grd_t ⟨trivial,by omega,trivial,by omega⟩]
 simp only [Option.bind_some,o1,y1,q1]
 exact ⟨_,_,_,_,rfl,by omega,by omega,rfl,by decide,q2,q3.up (by omega)⟩
structure NetD (K:Nat) (nodes:List ByteArray) (fs:List TFiber):Prop where
 k1:1≤K
 k:K≤nodes.length
 n:nodes.length≤10
 z:∀ s∈nodes,s.size≤9
 f:fs.length≤15
theorem any_loop {c:Tl1Cur} {m:Nat} (fs:List TFiber) (h0:0 < fs.length) (h9:fs.length≤9) (h:CurOk c m) (hm:m≤10000000000):∃ fs' c',iter M_aj N0 (fs,c)=some (fs',c')∧fs'.length≤15∧CurOk c' (m+100):=by
 obtain ⟨⟨f2,c4⟩,q1,q2,q3⟩:=iter_inv (f:=M_aj) (fun s=>0 < s.1.length∧s.1.length≤15∧CurOk s.2 (m+2 * s.1.length)) (fun s=>16 - s.1.length) (fun o=>o.1.length≤15∧CurOk o.2 (m+100)) (fun s hI=>by
  obtain ⟨l,cc⟩:=s
  obtain ⟨i1,i2,i3⟩:=hI
  simp only at i1 i2 i3
  obtain ⟨x,c1,x1,x2,x3,x4⟩:=p_pick 2 i3 (by omega)
  simp only [M_aj,x1,Option.bind_some,w64_eq (n:=14+x) (by omega) (by omega),w64_eq (n:=(l.length:Int) - 1) (by omega) (by omega)]
  by_cases hj:(l.length:Int) < 14+x
  · left
    have e:((l.length:Int) - 1).toNat < l.length:=by omega
    rw [decide_eq_true hj,cond_true,grd_t (by omega)]
    simp only [Option.bind_some,List.getElem?_eq_getElem e,bnd]
    rw [grd_t (by omega)]
    exact ⟨_,rfl,⟨by simp,by simp only [List.length_append,List.length_cons,List.length_nil]; omega,x4.up (by simp only [List.length_append,List.length_cons,List.length_nil]; omega)⟩,by simp only [List.length_append,List.length_cons,List.length_nil]; omega⟩
  · right
    rw [decide_eq_false hj,cond_false]
    exact ⟨_,rfl,by simp only; omega,x4.up (by omega)⟩) N0 (fs,c) ⟨by simp only; omega,by simp only; omega,h.up (by omega)⟩ (N0_lt (by simp only; omega))
 exact ⟨f2,c4,q1,q2,q3⟩
theorem subT_pre {α:Type} (xs:List α) (k:Nat) (h:k≤xs.length):subT xs 0 k=xs.take k:=by
 rw [subT_drop]; simp
theorem p_anyNetwork {c:Tl1Cur} {m:Nat} (h:CurOk c m) (hm:m≤1000000000):∃ (K:Nat) (nodes:List ByteArray) (fs:List TFiber) (c':Tl1Cur),M_cq c=some (0,K,nodes,fs,c')∧NetD K nodes fs∧CurOk c' (m+300):=by
 obtain ⟨K,nodes,fs,c1,n1,n2,n3,n4,n5,n6,n7⟩:=p_network h (by omega)
 have hD:NetD K nodes fs:=⟨by omega,by omega,by omega,n5,by omega⟩
 unfold M_cq
 simp only [n1,Option.bind_some]
 by_cases h0:fs.length=0
 · rw [show ((fs.length:Int)==0)=true by simp [h0],cond_true]
   exact ⟨_,_,_,_,rfl,hD,n7.up (by omega)⟩
 rw [show ((fs.length:Int)==0)=false by simp; exact fun e=>h0 (by simp [e]),cond_false]
 obtain ⟨i,c2,i1,i2,i3,i4⟩:=p_pick (fs.length:Int) n7 (by omega)
 have hi:i.toNat < fs.length:=by omega
 obtain ⟨r,c3,r1,r2,r3,r4⟩:=p_pick 24 i4 (by omega)
 simp only [i1,Option.bind_some]
 rw [grd_t (by omega)]
 simp only [Option.bind_some,List.getElem?_eq_getElem hi,r1]
 have fin:∀ (K':Nat) (f:TFiber) (nodes':List ByteArray) (fs':List TFiber) (c':Tl1Cur),NetD K' nodes' fs'→i.toNat < fs'.length→CurOk c' (m+300) →
  ∃ (K'':Nat) (nodes'':List ByteArray) (fs'':List TFiber) (c'':Tl1Cur),((grd (0≤i∧i < (fs'.length:Int))).bind fun _=>(fs'[(Int.toNat i)]?).bind fun _=>bnd (fs'.set (Int.toNat i) f) fun l=>some ((0:Nat),K',nodes',l,c'))=some (0,K'',nodes'',fs'',c'')∧NetD K'' nodes'' fs''∧CurOk c'' (m+300):=by
  intro K' f nodes' fs' c' hD' hi' hc'
  rw [grd_t (by omega)]
  simp only [Option.bind_some,List.getElem?_eq_getElem hi',bnd]
  exact ⟨_,_,_,_,rfl,⟨hD'.k1,hD'.k,hD'.n,hD'.z,by rw [List.length_set]; exact hD'.f⟩,hc'⟩
 rcases bt (r==0) with e | e
 · obtain ⟨x,c4,k1,k2,k3⟩:=p_ofL [(⟨#[98]⟩:ByteArray),(⟨#[]⟩:ByteArray),(⟨#[65]⟩:ByteArray),(⟨#[97,98,99,100,101,102,103,104]⟩:ByteArray),(⟨#[97,98,99,100,101,102,103,104,105]⟩:ByteArray),(⟨#[120,49]⟩:ByteArray)] r4 (by omega) (by simp)
   have hx:x.size≤9:=(show ∀ s∈[(⟨#[98]⟩:ByteArray),(⟨#[]⟩:ByteArray),(⟨#[65]⟩:ByteArray),(⟨#[97,98,99,100,101,102,103,104]⟩:ByteArray),(⟨#[97,98,99,100,101,102,103,104,105]⟩:ByteArray),(⟨#[120,49]⟩:ByteArray)],s.size≤9 by decide) x k2
   have h00:0+Int.toNat 0 < nodes.length:=by simp; omega
   simp only [e,cond_true,bnd,k1,Option.bind_some]
   rw [grd_t (by omega)]
   simp only [Option.bind_some,List.getElem?_eq_getElem h00]
   refine fin _ _ _ _ _ ⟨by omega,by rw [List.length_set]; omega,by rw [List.length_set]; omega,fun s hs=>?_,by omega⟩ hi (k3.up (by omega))
   rcases List.mem_or_eq_of_mem_set hs with h1 | h1
   · exact n5 s h1
   · rw [h1]; exact hx
 rw [e,cond_false]
 rcases bt (r==1) with e | e
 · obtain ⟨x,c4,k1,k2,k3,k4⟩:=p_pick 8 r4 (by omega)
   simp only [e,cond_true,k1,Option.bind_some]
   exact fin _ _ _ _ _ hD hi (k4.up (by omega))
 rw [e,cond_false]
 rcases bt (r==2) with e | e
 · obtain ⟨x,c4,k1,k2,k3,k4⟩:=p_pick 10 r4 (by omega)
   simp only [e,cond_true,k1,Option.bind_some]
   exact fin _ _ _ _ _ hD hi (k4.up (by omega))
 rw [e,cond_false]
 rcases bt (r==3) with e | e
 · obtain ⟨x,c4,k1,k2,k3⟩:=p_amongL [0,1,5000,5001] r4 (by omega) (by simp)
   simp only [e,cond_true,bnd,k1,Option.bind_some]
   exact fin _ _ _ _ _ hD hi (k3.up (by omega))
 rw [e,cond_false]
 rcases bt (r==4) with e | e
 · obtain ⟨x,c4,k1,k2,k3⟩:=p_amongL [(-1),9,10] r4 (by omega) (by simp)
   simp only [e,cond_true,bnd,k1,Option.bind_some]
   exact fin _ _ _ _ _ hD hi (k3.up (by omega))
 rw [e,cond_false]
 rcases bt (r==5) with e | e
 · have h00:Int.toNat 0 < fs.length:=by simp; omega
   simp only [e,cond_true]
   rw [grd_t (by omega)]
   simp only [Option.bind_some,List.getElem?_eq_getElem h00,bnd]
   rw [grd_t (by omega)]
   exact fin K _ nodes (fs++[fs[Int.toNat 0]]) _ ⟨hD.k1,hD.k,hD.n,hD.z,by simp; omega⟩ (by simp; omega) (r4.up (by omega))
 rw [e,cond_false]
 rcases bt (r==6) with e | e
 · obtain ⟨fs',c4,k1,k2,k3⟩:=any_loop fs (by omega) n6 r4 (by omega)
   simp only [e,cond_true,k1,Option.bind_some]
   exact ⟨_,_,_,_,rfl,⟨by omega,by omega,by omega,n5,k2⟩,k3.up (by omega)⟩
 rw [e,cond_false]
 rcases bt (r==7) with e | e
 · simp only [e,cond_true,bnd,subT_pre nodes K hD.k]
   rw [grd_t (by omega)]
   simp only [Option.bind_some]
   refine fin _ _ _ _ _ ⟨by simp,(by simp only [List.length_append,List.length_take,List.length_cons,List.length_nil]; have:=hD.k; omega),by simp; omega,fun s hs=>?_,by omega⟩ hi (r4.up (by omega))
   rcases List.mem_append.1 hs with h1 | h1
   · exact n5 s (List.mem_of_mem_take h1)
   · exact (show ∀ s∈[(⟨#[112]⟩:ByteArray),(⟨#[113]⟩:ByteArray),(⟨#[114]⟩:ByteArray),(⟨#[115]⟩:ByteArray)],s.size≤9 by decide) s h1
 rw [e,cond_false]
 exact fin _ _ _ _ _ hD hi (r4.up (by omega))
end Vs

namespace Vs
open Go
theorem ext_eq:∀ m,M_ck m=M_ca m
 | 0=>rfl
 | m + 1 => by
   show M_ex (M_ck m)=M_dd (M_ca m)
   rw [ext_eq m]; rfl
theorem all_eq (n:TNetwork):M_ee n=M_cv n:=by
 have h:M_bl n=M_ae n:=by
  funext s
  unfold M_bl M_ae
  rw [ext_eq]
 unfold M_ee M_cv M_et M_de
 rw [h]
theorem bt' (b:Bool):b=true∨b=false:=by cases b <;> simp
theorem z_drawnG {K:Nat} {nodes:List ByteArray} {fs:List TFiber} (h:NetD K nodes fs):z_Network ⟨nodes.take K,fs⟩≤1048576∧fs.length≤15:=by
 have hs:∀ (l:List ByteArray),(∀ s∈l,s.size≤9)→(l.map fun x=>x.size).sum≤9 * l.length:=by
  intro l
  induction l with
  | nil=>intro _; simp
  | cons a l ih =>
    intro hl
    have h1:=hl a (by simp)
    have h2:=ih fun s hs=>hl s (by simp [hs])
    simp only [List.map_cons,List.sum_cons,List.length_cons]; omega
 have h1:=hs (nodes.take K) fun s hs=>h.z s (List.mem_of_mem_take hs)
 have h2:(nodes.take K).length≤10:=by rw [List.length_take]; have:=h.n; omega
 have h3:fs.length≤15:=by have:=h.f; omega
 unfold z_Network z_StringS z_FiberS
 simp only
 omega
def codeOk (code:List Int):Prop:=(∀ x∈code,0≤x∧x≤255)∧code.length≤65536
theorem cur0 {code:List Int} (h:codeOk code):CurOk (⟨code,0,0⟩:Tl1Cur) 0:=⟨h.1,h.2,by simp,by simp⟩
theorem p_drawNet {code:List Int} (h:codeOk code):∃ n,M_di code=some n∧z_Network n≤1048576:=by
 obtain ⟨K,nodes,fs,c',h1,h2,h3⟩:=p_anyNetwork (cur0 h) (by omega)
 unfold M_di
 rw [h1,Option.bind_some]
 simp only [bnd]
 rw [subT_pre _ _ h2.k]
 exact ⟨_,rfl,(z_drawnG h2).1⟩
theorem p_ringed {c:Tl1Cur} {m:Nat} (h:CurOk c m) (hm:m≤1000000):∃ (n:TNetwork) (ring:List Int) (c':Tl1Cur),M_ef c=some (n,ring,c')∧z_Network n≤1048576∧n.Fibers.length≤15∧ring.length≤100∧CurOk c' (m+1000):=by
 obtain ⟨K,nodes,fs,c1,n1,n2,n3,n4,n5,n6,n7⟩:=p_network h (by omega)
 have hD:NetD K nodes fs:=⟨by omega,by omega,by omega,n5,by omega⟩
 obtain ⟨hz,hf⟩:=z_drawnG hD
 unfold M_ef
 rw [n1,Option.bind_some]
 simp only [bnd]
 rw [subT_pre _ _ hD.k,all_eq,p_spec_AllRings _ hz,Option.bind_some]
 have step:∃ (ring:List Int) (c2:Tl1Cur),((cond (arP ⟨nodes.take K,fs⟩).2 (some (decide (0 < ((arP ⟨nodes.take K,fs⟩).1.length:Int)))) (some false):Option Bool).bind fun oZ6=>cond (oZ6) ((M_a ((arP ⟨nodes.take K,fs⟩).1.length:Int) c1).bind fun rZ8=>(grd (0≤rZ8.1∧rZ8.1 < ((arP ⟨nodes.take K,fs⟩).1.length:Int))).bind fun kZ9=>((arP ⟨nodes.take K,fs⟩).1[(Int.toNat rZ8.1)]?).bind fun yZ10=>(M_bj yZ10).bind fun rZ11=>some (rZ11,rZ8.2)) (some ([],c1)))=some (ring,c2)∧ring.length≤8∧CurOk c2 (m+200):=by
  rcases bt' (arP ⟨nodes.take K,fs⟩).2 with e | e
  · obtain ⟨hn,h6,hok⟩:=arP_ok e
    rw [e,cond_true,Option.bind_some]
    by_cases h0:0 < (arP ⟨nodes.take K,fs⟩).1.length
    · have e1:decide (0 < ((arP ⟨nodes.take K,fs⟩).1.length:Int))=true:=by simp only [decide_eq_true_eq]; omega
      obtain ⟨x,c2,x1,x2,x3,x4⟩:=p_pick ((arP ⟨nodes.take K,fs⟩).1.length:Int) n7 (by omega)
      have hlt:x.toNat < (arP ⟨nodes.take K,fs⟩).1.length:=by omega
      have hr:=hok _ (List.getElem_mem hlt)
      rw [e1,cond_true,x1,Option.bind_some,grd_t ⟨x2,by omega⟩,Option.bind_some,List.getElem?_eq_getElem hlt,Option.bind_some,p_l1Own _ (by have:=hr.2; omega),Option.bind_some]
      exact ⟨_,_,rfl,hr.2,x4.up (by omega)⟩
    · have e1:decide (0 < ((arP ⟨nodes.take K,fs⟩).1.length:Int))=false:=by simp only [decide_eq_false_iff_not]; omega
      rw [e1]
      exact ⟨_,_,rfl,by simp,n7.up (by omega)⟩
  · rw [e]
    exact ⟨_,_,rfl,by simp,n7.up (by omega)⟩
 obtain ⟨ring,c2,s1,s2,s3⟩:=step
 rw [s1,Option.bind_some]
 obtain ⟨x,c3,x1,x2,x3,x4⟩:=p_pick 20 s3 (by omega)
 rw [x1,Option.bind_some]
 simp only
 rcases bt' (x==0) with e | e
 · rw [e,cond_true,p_l17Back _ (by omega),Option.bind_some]
   exact ⟨_,_,_,rfl,hz,hf,by simp; omega,x4.up (by omega)⟩
 rw [e,cond_false]
 rcases bt' (x==1) with e | e
 · rw [e,cond_true]
   by_cases h0:0 < ring.length
   · have e1:decide (0 < (ring.length:Int))=true:=by simp only [decide_eq_true_eq]; omega
     rw [e1,cond_true,grd_t ⟨by omega,trivial,by show 1≤ring.length; omega,trivial⟩,Option.bind_some]
     have hl:(subT ring (Int.toNat 1) (ring.length - Int.toNat 1)).length≤8:=by
      unfold subT
      split
      · omega
      · rw [List.length_take,List.length_drop]; omega
     rw [p_l1Own _ (by omega),Option.bind_some,grd_t ⟨by omega,by omega⟩,Option.bind_some]
     rw [show Int.toNat 0=0 from rfl,List.getElem?_eq_getElem h0,Option.bind_some,grd_t (by omega),Option.bind_some]
     exact ⟨_,_,_,rfl,hz,hf,by rw [List.length_append,List.length_singleton]; omega,x4.up (by omega)⟩
   · have e1:decide (0 < (ring.length:Int))=false:=by simp only [decide_eq_false_iff_not]; omega
     rw [e1,cond_false]
     exact ⟨_,_,_,rfl,hz,hf,by omega,x4.up (by omega)⟩
 rw [e,cond_false]
 rcases bt' (x==2) with e | e
 · obtain ⟨y,c4,y1,y2,y3,y4⟩:=p_pick 16 x4 (by omega)
   rw [e,cond_true,y1,Option.bind_some,grd_t (by omega),Option.bind_some]
   exact ⟨_,_,_,rfl,hz,hf,by simp; omega,y4.up (by omega)⟩
 rw [e,cond_false]
 rcases bt' (x==3) with e | e
 · obtain ⟨K2,nodes2,fs2,c4,y1,y2,y3⟩:=p_anyNetwork x4 (by omega)
   obtain ⟨hz2,hf2⟩:=z_drawnG y2
   rw [e,cond_true,y1,Option.bind_some]
   rw [subT_pre _ _ y2.k]
   exact ⟨_,_,_,rfl,hz2,hf2,by omega,y3.up (by omega)⟩
 rw [e]
 exact ⟨_,_,_,rfl,hz,hf,by omega,x4.up (by omega)⟩
theorem p_drawCap {code:List Int} (h:codeOk code):∃ (n:TNetwork) (ring w:List Int),M_eg code=some (n,ring,w)∧z_Network n≤1048576∧ring.length≤100∧w.length≤100:=by
 obtain ⟨n,ring,c1,r1,hz,hf,hr,r2⟩:=p_ringed (cur0 h) (by omega)
 unfold M_eg
 rw [r1,Option.bind_some]
 obtain ⟨b,hb,hq⟩:=iter_inv (f:=M_bm (n,ring,c1)) (fun t=>∃ (i:Nat),t.1=(i:Int)∧i≤n.Fibers.length∧t.2.1.length=i∧CurOk t.2.2 (1000+2 * i)) (fun t=>n.Fibers.length - t.1.toNat)
  (fun b=>b.1.length≤15∧CurOk b.2 2000) (fun t hI=>by
   obtain ⟨i0,w,c⟩:=t
   obtain ⟨i,e,hi,hw,hc⟩:=hI
   simp only at e hw hc
   subst e
   unfold M_bm
   by_cases hi2:i < n.Fibers.length
   · left
     have e1:decide ((i:Int) < (n.Fibers.length:Int))=true:=by simp [hi2]
     obtain ⟨x,c',a1,a2,a3⟩:=p_amongL [0,1,2,7,100,1000] hc (by omega) (by simp)
     simp only [e1,cond_true,bnd,a1,Option.bind_some]
     rw [grd_t (by omega),Option.bind_some,w64_eq (by omega) (by omega)]
     refine ⟨_,rfl,⟨i+1,by simp only; omega,by omega,by simp [hw],a3.up (by omega)⟩,by simp only [Int.toNat_natCast]; omega⟩
   · right
     have e1:decide ((i:Int) < (n.Fibers.length:Int))=false:=by simp; omega
     simp only [e1,cond_false]
     exact ⟨_,rfl,by simp only; omega,hc.up (by omega)⟩) N0 (0,[],c1) ⟨0,rfl,by omega,rfl,r2.up (by omega)⟩ (N0_lt (by simp; omega))
 rw [hb,Option.bind_some]
 obtain ⟨w,c2⟩:=b
 obtain ⟨q1,q2⟩:=hq
 simp only at q1 q2
 obtain ⟨x,c3,x1,x2,x3,x4⟩:=p_pick 24 q2 (by omega)
 simp only [x1,Option.bind_some]
 rcases bt' (x==0) with e | e
 · rw [e,cond_true]
   simp only [bnd]
   rw [grd_t (by omega),Option.bind_some]
   exact ⟨_,_,_,rfl,hz,hr,by simp; omega⟩
 rw [e,cond_false]
 rcases bt' (x==1) with e | e
 · rw [e,cond_true]
   by_cases h0:0 < w.length
   · have e1:decide (0 < (w.length:Int))=true:=by simp only [decide_eq_true_eq]; omega
     obtain ⟨y,c4,y1,y2,y3⟩:=p_amongL [-1,1001] x4 (by omega) (by simp)
     simp only [e1,cond_true,bnd,y1,Option.bind_some]
     rw [grd_t ⟨by omega,by omega⟩,Option.bind_some,show Int.toNat 0=0 from rfl,List.getElem?_eq_getElem h0,Option.bind_some]
     exact ⟨_,_,_,rfl,hz,hr,by simp; omega⟩
   · have e1:decide (0 < (w.length:Int))=false:=by simp only [decide_eq_false_iff_not]; omega
     rw [e1,cond_false]
     exact ⟨_,_,_,rfl,hz,hr,by omega⟩
 rw [e]
 exact ⟨_,_,_,rfl,hz,hr,by omega⟩
theorem bst_none {n:TNetwork} {d:List Bool}:∀ (xs:List (List Int)) (k:Nat) (o:Option (Nat×Nat)),foldI (bstS n d) k xs o=none→o=none∧∀ r∈xs,cntD n d r=0
 | [],k,o,h=>⟨h,fun r hr=>by cases hr⟩
 | x :: xs, k, o, h => by
   obtain ⟨h1,h2⟩:=bst_none xs (k+1) (bstS n d k x o) h
   cases o with
   | some q =>
     unfold bstS at h1
     simp only at h1
     split at h1 <;> cases h1
   | none =>
     unfold bstS at h1
     simp only at h1
     split at h1
     · cases h1
     · rename_i h3
       refine ⟨rfl,fun r hr=>?_⟩
       rcases List.mem_cons.1 hr with e | e
       · rw [e]; omega
       · exact h2 r e
theorem cover_prot {n:TNetwork} {L:List (List Int)}:∀ (k:Nat) (d:List Bool) (out:List (List Int)),d.length=n.Fibers.length→leftD n d < k→(∀ i:Nat,gB d (i:Int)=inR n out i)→(∀ r∈out,r∈L) →
 (∀ i:Nat,inR n (coverF n L k d out) i=inR n L i)∧∀ r∈coverF n L k d out,r∈L
 | 0,_,_,_,h,_,_=>by omega
 | k + 1, d, out, hd, hk, hb, ho => by
   unfold coverF
   have hbo:=bstD_ok (n:=n) d L
   cases hq:bstD n d L with
   | none =>
     refine ⟨fun i=>?_,ho⟩
     have hz:=(bst_none L 0 none hq).2
     simp only
     rw [Bool.eq_iff_iff]
     unfold inR
     simp only [List.any_eq_true,decide_eq_true_eq]
     constructor
     · rintro ⟨r,h1,h2⟩; exact ⟨r,ho r h1,h2⟩
     · rintro ⟨r,h1,h2⟩
       have h3:=hz r h1
       unfold cntD at h3
       rw [List.countP_eq_zero] at h3
       have h4:=h3 _ h2
       simp only [Bool.not_eq_true',Bool.not_eq_false] at h4
       rw [hb] at h4
       unfold inR at h4
       simpa using h4
   | some q =>
     obtain ⟨h1,r,h2,h3⟩:=hbo q hq
     have hm:=left_mark (n:=n) hd r
     simp only [h2,Option.getD_some]
     refine cover_prot k _ _ (by rw [markB_len]; exact hd) (by omega) (fun i=>?_) fun x hx=>?_
     · rw [markB_all hd,hb]
       unfold inR
       rw [List.any_append]
       simp
     · rw [List.mem_append,List.mem_singleton] at hx
       rcases hx with hx | hx
       · exact ho x hx
       · rw [hx]; exact List.mem_of_getElem? h2
theorem unP_mem (p:Nat→Bool) (F:Nat) (i:Nat) (hi:i < F):decide ((i:Int)∈unP p F)=p i:=by
 have:∀ (N k:Nat) (a:List Int),(i:Int)∈foldI (fun j (_:Unit) a=>if p j then a++[(j:Int)] else a) k (List.replicate N ()) a↔(i:Int)∈a∨(k≤i∧i < k+N∧p i=true):=by
  intro N
  induction N with
  | zero=>intro k a; simp [foldI]; omega
  | succ N ih =>
    intro k a
    show (i:Int)∈foldI _ (k+1) (List.replicate N ()) _↔_
    rw [ih]
    show (i:Int)∈(if p k then a++[(k:Int)] else a)∨_↔_
    by_cases hk:p k=true
    · rw [if_pos hk,List.mem_append,List.mem_singleton]
      by_cases e:i=k
      · subst e; simp [hk]
      · have:¬ (i:Int)=k:=by omega
        simp only [this,or_false]
        constructor
        · rintro (h | ⟨h1,h2,h3⟩)
          · exact .inl h
          · exact .inr ⟨by omega,by omega,h3⟩
        · rintro (h | ⟨h1,h2,h3⟩)
          · exact .inl h
          · exact .inr ⟨by omega,by omega,h3⟩
    · rw [if_neg hk]
      by_cases e:i=k
      · subst e; simp [hk]
      · constructor
        · rintro (h | ⟨h1,h2,h3⟩)
          · exact .inl h
          · exact .inr ⟨by omega,by omega,h3⟩
        · rintro (h | ⟨h1,h2,h3⟩)
          · exact .inl h
          · exact .inr ⟨by omega,by omega,h3⟩
 unfold unP
 rw [Bool.eq_iff_iff,decide_eq_true_eq,this]
 simp only [List.not_mem_nil,false_or]
 constructor
 · rintro ⟨_,_,h⟩; exact h
 · intro h; exact ⟨by omega,by omega,h⟩
theorem p_vHas (l:List Int) (x:Int) (hl:l.length≤1048576):M_cj l x=some (decide (x∈l)):=by
 unfold M_cj
 rw [iter_any (f:=M_az l x) l (fun y=>y==x) (.inr true) (.inl ()) (fun i y hy=>by
  have hlt:=(List.getElem?_eq_some_iff.1 hy).1
  have h1:decide ((i:Int) < l.length)=true:=by simp [hlt]
  simp only [M_az,h1,cond_true,geti_nat,hy,Option.bind_some]
  rw [w64_eq (by omega) (by omega)]
  cases y==x <;> rfl) (by simp [M_az]) (by omega),any_mem]
 cases l.any fun y=>y==x <;> rfl
theorem pf_prot {n:TNetwork} (hn:netOk n=true) {r:List Int} (hr:OkD n r):(pfP n r).2.2=true∧protP n r=(pfP n r).1++(pfP n r).2.1∧(pfP n r).1.length≤14∧(pfP n r).2.1.length≤14:=by
 obtain ⟨l,hl⟩:=Option.isSome_iff_exists.1 hr.1
 have hF:=(netOk_bR hn).2.2
 unfold pfP protP
 rw [if_pos hn,hl]
 have:=own_len n r
 have:=crs_len n r l
 exact ⟨rfl,rfl,by simp only; omega,by simp only; omega⟩
theorem cover_loop {n:TNetwork} (hz:z_Network n≤1048576) (h:(arP n).2=true):iter (M_k n (crP n) (ufP n)) N0 0=some (.inl ()):=by
 obtain ⟨hn,h6,hok⟩:=arP_ok h
 have hF:=(netOk_bR hn).2.2
 have hc2:(crP n).2=true:=by unfold crP; rw [if_pos h]
 have hc1:(crP n).1=coverF n (arP n).1 15 (List.replicate n.Fibers.length false) []:=by unfold crP; rw [if_pos h]
 have hg:∀ i:Nat,gB (List.replicate n.Fibers.length false) (i:Int)=false:=fun i=>by
  unfold gB
  rw [Int.toNat_natCast,List.getElem?_replicate]
  split <;> rfl
 obtain ⟨cp1,cp2⟩:=cover_prot (n:=n) (L:=(arP n).1) 15 (List.replicate n.Fibers.length false) [] (by simp) (left_le n hF _) (fun i=>by rw [hg]; rfl) (fun r hr=>by cases hr)
 rw [← hc1] at cp1 cp2
 have hu1:(ufP n).1=unP (fun i=>!inR n (arP n).1 i) n.Fibers.length:=by unfold ufP; rw [if_pos h]
 have hul:(ufP n).1.length≤14:=by rw [hu1]; have:=unP_len (fun i=>!inR n (arP n).1 i) n.Fibers.length; omega
 have hcl:(crP n).1.length≤15:=by
  rw [hc1]
  have:=(cover_z (n:=n) (L:=(arP n).1) (fun r hr=>(hok r hr).2) 15 (List.replicate n.Fibers.length false) [] (fun r hr=>by cases hr)).1
  simpa using this
 have inner:∀ i:Nat,iter (M_e n (crP n) (i:Int)) N0 (false,0)=some (.inl (inR n (crP n).1 i)):=by
  intro i
  have:=iter_foldI (f:=M_e n (crP n) (i:Int)) (crP n).1 (fun k (b:Bool)=>(b,(k:Int))) (fun _ r b=>b||decide ((i:Int)∈protP n r)) (fun b=>.inl b) (fun _ _=>True) (fun k b r hr _=>by
   have hlt:=(List.getElem?_eq_some_iff.1 hr).1
   have e1:decide ((k:Int) < ((crP n).1.length:Int))=true:=by simp [hlt]
   have hrok:=hok r (cp2 r (List.mem_of_getElem? hr))
   obtain ⟨f1,f2,f3,f4⟩:=pf_prot hn hrok
   have w1:IntKind.wrap .i64 ((k:Int)+1)=((k+1:Nat):Int):=by rw [w64_eq (by omega) (by omega)]; rfl
   have e2:M_ci (⟨n.Nodes,n.Fibers⟩:TNetwork) r=some (pfP n r):=p_impl_ProtectedFibers n r hz (by have:=hrok.2; omega)
   refine ⟨trivial,?_⟩
   simp only [M_e,e1,cond_true,Int.toNat_natCast,hr,Option.bind_some,e2,f1,Bool.not_true,cond_false,w1]
   rw [grd_t ⟨by omega,by omega⟩,Option.bind_some,f2]
   cases b with
   | true=>simp
   | false =>
     rw [p_vHas _ _ (by omega),p_vHas _ _ (by omega)]
     simp only [cond_false,Option.bind_some,List.mem_append,Bool.false_or]
     by_cases c1:(i:Int)∈(pfP n r).1
     · simp [c1]
     · simp [c1]) (fun b _=>by simp [M_e]) false trivial (by omega)
  refine Eq.trans this ?_
  congr 2
  have gen:∀ (xs:List (List Int)) (k:Nat) (b:Bool),foldI (fun _ r b=>b||decide ((i:Int)∈protP n r)) k xs b=(b||xs.any fun r=>decide ((i:Int)∈protP n r)):=by
   intro xs
   induction xs with
   | nil=>intro k b; simp [foldI]
   | cons x xs ih=>intro k b; show foldI _ (k+1) xs _=_; rw [ih,List.any_cons,Bool.or_assoc]
  rw [gen,Bool.false_or]; rfl
 have:=iter_any (f:=M_k n (crP n) (ufP n)) n.Fibers (fun _=>false) (.inr false) (.inl ()) (fun i f hf=>by
  have hlt:=(List.getElem?_eq_some_iff.1 hf).1
  have e1:decide ((i:Int) < (n.Fibers.length:Int))=true:=by simp [hlt]
  simp only [M_k,e1,cond_true,hc2,Option.bind_some,inner,p_vHas _ _ (by omega:(ufP n).1.length≤1048576)]
  rw [hu1,unP_mem _ _ _ hlt,cp1,w64_eq (by omega) (by omega)]
  cases inR n (arP n).1 i <;> rfl) (by simp [M_k]) (by omega)
 rw [this]
 simp
theorem foldl_mx (g:Int→Int):∀ (xs:List Int) (m:Int),m≤xs.foldl (fun m y=>mxZ m (g y)) m∧(∀ y∈xs,g y≤xs.foldl (fun m y=>mxZ m (g y)) m)∧∀ B,m≤B→(∀ y∈xs,g y≤B)→xs.foldl (fun m y=>mxZ m (g y)) m≤B
 | [],m=>⟨by simp,⟨(fun y hy=>by cases hy),fun B h _=>by simpa using h⟩⟩
 | x :: xs, m => by
   obtain ⟨h1,h2,h3⟩:=foldl_mx g xs (mxZ m (g x))
   have hm:m≤mxZ m (g x)∧g x≤mxZ m (g x)∧(mxZ m (g x)=m∨mxZ m (g x)=g x):=by unfold mxZ; split <;> omega
   simp only [List.foldl_cons]
   refine ⟨by omega,fun y hy=>?_,fun B h hB=>h3 B ?_ fun y hy=>hB y (List.mem_cons_of_mem _ hy)⟩
   · rcases List.mem_cons.1 hy with e | e
     · rw [e]; omega
     · exact h2 y e
   · have:=hB x List.mem_cons_self
     omega
theorem capB_at {n:TNetwork} {w:List Int} (h:capB n w=true):w.length=n.Fibers.length∧∀ y:Int,0≤y→y < n.Fibers.length→geti w y=some (gwZ w y)∧0≤gwZ w y∧gwZ w y≤1000:=by
 unfold capB at h
 simp only [Bool.and_eq_true,decide_eq_true_eq,Bool.not_eq_true'] at h
 refine ⟨h.1,fun y h0 h1=>?_⟩
 have h2:=gwZ_at (w:=w) h0 (by omega)
 refine ⟨h2,?_⟩
 have hm:gwZ w y∈w:=by
  unfold gwZ
  have hlt:y.toNat < w.length:=by omega
  rw [List.getElem?_eq_getElem hlt]
  exact List.getElem_mem hlt
 have h3:=List.any_eq_false.1 h.2 _ hm
 simp only [wi,Bool.not_eq_true,Bool.not_eq_false',Bool.and_eq_true,decide_eq_true_eq] at h3
 exact h3
theorem p_FnCover (code:List Int) (o1:code.length≤9223372036854775807∧∀ x∈code,0≤x∧x≤255):M_ev code=some true:=by
 have hb:=o1.2
 unfold M_ev M_eo
 by_cases hl:(65536:Int) < (code.length:Int)
 · simp [hl]
 simp only [decide_eq_false hl,Option.bind_some,cond_false]
 have hc:codeOk code:=⟨hb,by omega⟩
 obtain ⟨n,d1,hz⟩:=p_drawNet hc
 have d2:M_dj code=some n:=by unfold M_dj; rw [d1]; rfl
 have i1:M_db (⟨n.Nodes,n.Fibers⟩:TNetwork)=some (crP n):=p_impl_CoverRings n hz
 have i2:M_dg (⟨n.Nodes,n.Fibers⟩:TNetwork)=some (crP n):=p_spec_CoverRings n hz
 have i3:M_dc (⟨n.Nodes,n.Fibers⟩:TNetwork)=some (ufP n):=p_impl_UnringedFibers n hz
 have e3:(ufP n).2=(crP n).2:=by unfold ufP crP; cases (arP n).2 <;> rfl
 simp only [d2,Option.bind_some,i1,i2,i3,e3,beq_self_eq_true,Bool.not_true,cond_false,bne_self_eq_false]
 have hloop:iter (M_k n (crP n) (ufP n)) N0 0=some (.inl ()):=by
  rcases bt' (arP n).2 with e | e
  · exact cover_loop hz e
  · have hc2:(crP n).2=false:=by unfold crP; rw [e]; rfl
    have:M_k n (crP n) (ufP n) 0=some (.inr (.inl ())):=by
     unfold M_k
     rw [hc2]
     cases decide ((0:Int) < (n.Fibers.length:Int)) <;> rfl
    have hN:N0=(N0 - 1)+1:=by have:=N0_lt (n:=0) (by omega); omega
    rw [hN,iter,this]
 rw [hloop,Option.bind_some]
 simp only
 obtain ⟨m,ring,w,g1,hzm,hr,hw⟩:=p_drawCap hc
 simp only [g1,Option.bind_some,p_impl_RingCapacity m ring w hzm (by omega) (by omega),p_spec_RingCapacity m ring w hzm (by omega) (by omega),bne_self_eq_false,cond_false,beq_self_eq_true,Bool.not_true]
 rcases (bt' (capP m ring w).2).symm with e | e
 · rw [e]; rfl
 rw [e]
 simp only [Bool.not_true,cond_false]
 -- what a capacity says
 have hcap:netOk m=true∧∃ l,ringP m ring=some l∧capB m w=true:=by
  unfold capP at e
  cases hn:netOk m with
  | false=>rw [hn] at e; cases e
  | true =>
    rw [hn] at e
    simp only [if_true] at e
    cases hp:ringP m ring with
    | none=>rw [hp] at e; cases e
    | some l =>
      rw [hp] at e
      simp only at e
      cases hcb:capB m w with
      | false=>rw [hcb] at e; cases e
      | true=>exact ⟨rfl,l,rfl,rfl⟩
 obtain ⟨hn,l,hp,hcb⟩:=hcap
 have hF:=(netOk_bR hn).2.2
 obtain ⟨cw,cg⟩:=capB_at hcb
 have hpf:pfP m ring=(ownP m ring,crsP m ring l,true):=by unfold pfP; rw [if_pos hn,hp]
 have hcv:(capP m ring w).1=(crsP m ring l).foldl (fun m y=>mxZ m (hlf w y)) ((ownP m ring).foldl (fun m y=>mxZ m (gwZ w y)) 0):=by
  unfold capP; rw [if_pos hn,hp]; simp only [hcb,if_true]
 obtain ⟨o1,o2,o3⟩:=foldl_mx (gwZ w) (ownP m ring) 0
 obtain ⟨x1,x2,x3⟩:=foldl_mx (hlf w) (crsP m ring l) ((ownP m ring).foldl (fun m y=>mxZ m (gwZ w y)) 0)
 rw [← hcv] at x1 x2 x3
 have hhlf:∀ y∈crsP m ring l,hlf w y=(gwZ w y+1) / 2:=fun y hy=>by
  have hy2:=crs_rng hy
  have:=cg y hy2.1 hy2.2
  unfold hlf
  rw [w64_eq (n:=gwZ w y+1) (by omega) (by omega),Int.tdiv_eq_ediv_of_nonneg (by omega),w64_eq (by omega) (by omega)]
 have hc1000:(capP m ring w).1≤1000:=x3 1000 (o3 1000 (by omega) fun y hy=>by have hy2:=own_rng hy; exact (cg y hy2.1 hy2.2).2.2) fun y hy=>by
  have hy2:=crs_rng hy
  have:=cg y hy2.1 hy2.2
  rw [hhlf y hy]; omega
 have hpfe:M_ci m ring=some (pfP m ring):=p_impl_ProtectedFibers m ring hzm (by omega)
 have ho:=own_len m ring
 have hcl:=crs_len m ring l
 simp only [hpfe,Option.bind_some,hpf]
 have l3:iter (M_ah (m,ring,w) (capP m ring w) (ownP m ring,crsP m ring l,true)) N0 0=some (.inl ()):=by
  rw [iter_any (f:=M_ah (m,ring,w) (capP m ring w) (ownP m ring,crsP m ring l,true)) (ownP m ring) (fun _=>false) (.inr false) (.inl ()) (fun i y hy=>by
   have hlt:=(List.getElem?_eq_some_iff.1 hy).1
   have hy2:=own_rng (List.mem_of_getElem? hy)
   obtain ⟨a1,a2,a3⟩:=cg y hy2.1 hy2.2
   have a4:=o2 y (List.mem_of_getElem? hy)
   have e1:decide ((i:Int) < ((ownP m ring).length:Int))=true:=by simp [hlt]
   have e2:w[y.toNat]?=some (gwZ w y):=by
    obtain ⟨k,rfl⟩:=Int.eq_ofNat_of_zero_le hy2.1
    rwa [show geti w ((k:Nat):Int)=w[k]? from geti_nat w k] at a1
   have e3:decide ((capP m ring w).1 < gwZ w y)=false:=by simp only [decide_eq_false_iff_not]; omega
   simp only [M_ah,e1,cond_true,Int.toNat_natCast,hy,Option.bind_some,e2,e3,cond_false]
   rw [grd_t ⟨by omega,by omega⟩,Option.bind_some,grd_t ⟨by omega,by omega⟩,Option.bind_some,w64_eq (by omega) (by omega)]; rfl) (by simp [M_ah]) (by omega)]
  simp
 have l4:iter (M_ai (m,ring,w) (capP m ring w) (ownP m ring,crsP m ring l,true)) N0 0=some (.inl ()):=by
  rw [iter_any (f:=M_ai (m,ring,w) (capP m ring w) (ownP m ring,crsP m ring l,true)) (crsP m ring l) (fun _=>false) (.inr false) (.inl ()) (fun i y hy=>by
   have hlt:=(List.getElem?_eq_some_iff.1 hy).1
   have hy2:=crs_rng (List.mem_of_getElem? hy)
   obtain ⟨a1,a2,a3⟩:=cg y hy2.1 hy2.2
   have a4:=x2 y (List.mem_of_getElem? hy)
   rw [hhlf y (List.mem_of_getElem? hy)] at a4
   have e1:decide ((i:Int) < ((crsP m ring l).length:Int))=true:=by simp [hlt]
   have e2:w[y.toNat]?=some (gwZ w y):=by
    obtain ⟨k,rfl⟩:=Int.eq_ofNat_of_zero_le hy2.1
    rwa [show geti w ((k:Nat):Int)=w[k]? from geti_nat w k] at a1
   have e3:decide (IntKind.wrap .i64 (2 * (capP m ring w).1) < gwZ w y)=false:=by
    rw [w64_eq (by omega) (by omega)]
    simp only [decide_eq_false_iff_not]; omega
   simp only [M_ai,e1,cond_true,Int.toNat_natCast,hy,Option.bind_some,e2,e3,cond_false]
   rw [grd_t ⟨by omega,by omega⟩,Option.bind_some,grd_t ⟨by omega,by omega⟩,Option.bind_some,w64_eq (by omega) (by omega)]; rfl) (by simp [M_ai]) (by omega)]
  simp
 rw [l3,Option.bind_some]
 simp only
 rw [l4,Option.bind_some]
 simp only [p_impl_RingEfficiency m ring hzm (by omega),Option.bind_some]
 have hpos:=own_pos hn (by omega) hp
 have heff:effP m ring=(effI (ownP m ring).length (crsP m ring l).length,true):=by unfold effP; rw [if_pos hn,hp]
 have hge:1000≤effI ((ownP m ring).length:Int) ((crsP m ring l).length:Int):=by
  unfold effI
  generalize (ownP m ring).length=a at *
  generalize (crsP m ring l).length=b at *
  rw [w64_eq (n:=2 * (b:Int)) (by omega) (by omega),w64_eq (n:=(a:Int)+2 * (b:Int)) (by omega) (by omega),w64_eq (n:=1000 * ((a:Int)+2 * (b:Int))) (by omega) (by omega)]
  rw [Int.tdiv_eq_ediv_of_nonneg (by omega)]
  have h1:1000≤1000 * ((a:Int)+2 * (b:Int)) / (a:Int):=by
   rw [Int.le_ediv_iff_mul_le (by omega)]; omega
  have h2:1000 * ((a:Int)+2 * (b:Int)) / (a:Int)≤1000 * ((a:Int)+2 * (b:Int)):=Int.ediv_le_self _ (by omega)
  rw [w64_eq (by omega) (by omega)]; exact h1
 rw [heff]
 simp only [cond_true]
 rw [decide_eq_true hge]
end Vs

namespace Vs
end Vs

