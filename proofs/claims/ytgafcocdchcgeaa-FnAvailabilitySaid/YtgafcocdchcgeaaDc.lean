/-
  Part of the proof that the law FnAvailability returns true at every input; no condition beside the row's own.
-/
import Derived.Test.YtgafcocdchcgeaaQe
import Derived.Test.YtgafcocdchcgeaaDa
set_option linter.defProp false
set_option linter.unusedSimpArgs false
set_option linter.unusedVariables false
namespace Vs
open Go
def z_StringS (xs:(List ByteArray)):Nat:=xs.length+(xs.map fun x=>x.size).sum
def z_FiberS (xs:(List TFiber)):Nat:=xs.length
def z_Network (x:TNetwork):Nat:=z_StringS x.Nodes+z_FiberS x.Fibers
def z_IntS (xs:(List Int)):Nat:=xs.length
def z_Outage (x:TOutage):Nat:=z_IntS x.Down
def z_Route (x:TRoute):Nat:=z_IntS x.Fibers
end Vs

namespace Vs
open Go
def wi (x a b:Int):Bool:=decide (a≤x)&&decide (x≤b)
theorem wi_iff {x a b:Int}:wi x a b=true↔a≤x∧x≤b:=by simp [wi]
theorem wi_false {x a b:Int}:wi x a b=false↔¬ (a≤x∧x≤b):=by rw [← wi_iff]; simp
theorem p_within (x a b:Int):M_e x a b=some (wi x a b):=by
 unfold M_e wi; by_cases h:a≤x <;> simp [h]
theorem p_l1In (x a b:Int):M_c x a b=some (wi x a b):=by
 unfold M_c wi; by_cases h:a≤x <;> simp [h]
def letB (c:UInt8):Bool:=decide (97≤c.toNat)&&decide (c.toNat≤122)
def digB (c:UInt8):Bool:=decide (48≤c.toNat)&&decide (c.toNat≤57)
def nameBad (i:Nat) (c:UInt8):Bool:=!letB c&&(!digB c||i==0)
def nameB (s:ByteArray):Bool:=!anyI nameBad s.data.toList&&wi s.size 1 8
theorem getz_nat (s:ByteArray) (i:Nat):getz s (i:Int)=s.data.toList[i]?:=by
 unfold getz
 rw [if_pos (by omega),Int.toNat_natCast]
 by_cases h:i < s.size
 · have h2:i < s.data.toList.length:=by simpa using h
   rw [getElem?_pos s i h,List.getElem?_eq_getElem h2]
   rfl
 · have h2:¬ i < s.data.toList.length:=by simpa using h
   rw [getElem?_neg s i h,List.getElem?_eq_none (Nat.le_of_not_lt h2)]
theorem size_list (s:ByteArray):s.size=s.data.toList.length:=by show s.data.size=s.data.toList.length; rw [Array.length_toList]
theorem letB_c (c:UInt8):letB c=(decide (97≤(c.toNat:Int))&&decide ((c.toNat:Int)≤122)):=by
 unfold letB
 congr 1 <;> exact decide_eq_decide.2 (by omega)
theorem digB_c (c:UInt8):digB c=(decide (48≤(c.toNat:Int))&&decide ((c.toNat:Int)≤57)):=by
 unfold digB
 congr 1 <;> exact decide_eq_decide.2 (by omega)
theorem p_isName (s:ByteArray) (hl:s.size≤1048576):M_dh s=some (nameB s):=by
 unfold M_dh nameB
 rw [size_list] at *
 rw [iter_anyI (f:=M_v s) s.data.toList nameBad (.inr false) (.inl ()) (fun i c hc _=>by
  have hlt:=(List.getElem?_eq_some_iff.1 hc).1
  have h1:decide ((i:Int) < s.size)=true:=decide_eq_true (by rw [size_list]; omega)
  simp only [M_v,h1,cond_true,getz_nat,hc,Option.bind_some,nameBad,letB_c,digB_c]
  rw [w64_eq (by omega) (by omega)]
  have hi:((i:Int)==0)=(i==0):=by rw [Bool.eq_iff_iff]; simp
  rw [hi]
  cases decide (97≤(c.toNat:Int)) <;> cases decide ((c.toNat:Int)≤122) <;> cases decide (48≤(c.toNat:Int)) <;> cases decide ((c.toNat:Int)≤57) <;> cases (i==0) <;> rfl) (by simp [M_v]) (by omega)]
 rw [← size_list]
 cases anyI nameBad s.data.toList <;> simp [p_within]
theorem p_l2Sign (c:UInt8):M_da (c.toNat:Int)=some (letB c||digB c):=by
 unfold M_da
 simp only [letB_c,digB_c]
 cases decide (97≤(c.toNat:Int)) <;> cases decide ((c.toNat:Int)≤122) <;> cases decide (48≤(c.toNat:Int)) <;> rfl
theorem fstc (c:UInt8):(cond (decide ((c.toNat:Int) < 97)) (some true) (some (decide (122 < (c.toNat:Int)))):Option Bool)=some (!letB c):=by
 rw [letB_c]
 by_cases h1:(c.toNat:Int) < 97
 · have h2:¬ 97≤(c.toNat:Int):=by omega
   simp [h1,h2]
 · have h2:97≤(c.toNat:Int):=by omega
   simp only [h1,decide_false,cond_false,h2,decide_true,Bool.true_and]
   by_cases h3:122 < (c.toNat:Int)
   · have h4:¬ (c.toNat:Int)≤122:=by omega
     simp [h3,h4]
   · have h4:(c.toNat:Int)≤122:=by omega
     simp [h3,h4]
theorem p_l2Name (s:ByteArray) (hl:s.size≤1048576):M_db s=some (nameB s):=by
 unfold M_db nameB
 simp only [p_l1In,Option.bind_some]
 rcases bt (wi s.size 1 8) with hw | hw
 · simp only [hw,Bool.not_true,cond_false,Bool.and_true]
   have hs:0 < s.data.toList.length:=by rw [← size_list]; have:=(wi_iff.1 hw).1; omega
   have h0:s.data.toList[0]?=some s.data.toList[0]:=List.getElem?_eq_getElem hs
   have g0:getz s 0=some s.data.toList[0]:=by rw [← h0]; exact getz_nat s 0
   simp only [g0,Option.bind_some]
   have key:=iter_anyI (f:=M_am s) s.data.toList (fun _ c=>!(letB c||digB c)) (.inr false) (.inl ()) (fun i c hc _=>by
    have hlt:=(List.getElem?_eq_some_iff.1 hc).1
    have h1:decide ((i:Int) < s.size)=true:=decide_eq_true (by rw [size_list]; omega)
    rw [size_list] at hl
    simp only [M_am,h1,cond_true,getz_nat,hc,Option.bind_some,p_l2Sign]
    rw [w64_eq (by omega) (by omega)]
    cases letB c <;> cases digB c <;> rfl) (by simp [M_am]) (by rw [size_list] at hl; omega)
   rw [fstc]
   simp only [Option.bind_some,key]
   rcases bt (letB s.data.toList[0]) with hL | hL
   · simp only [hL,Bool.not_true,cond_false]
     have e:anyI (fun _ c=>!(letB c||digB c)) s.data.toList=anyI nameBad s.data.toList:=by
      refine anyI_congr fun i c hc _=>?_
      unfold nameBad
      by_cases hi:i=0
      · subst hi; rw [h0] at hc; cases hc; rw [hL]; rfl
      · have:(i==0)=false:=by simpa using hi
        rw [this]
        cases letB c <;> cases digB c <;> rfl
     rw [e]
     cases anyI nameBad s.data.toList <;> rfl
   · have:anyI nameBad s.data.toList=true:=anyI_iff.2 ⟨0,_,h0,by unfold nameBad; rw [hL]; simp⟩
     simp only [hL,this,Bool.not_false,cond_true,Bool.not_true]
 · simp [hw]
def idxZ (v:ByteArray) (xs:List ByteArray):Option (Nat×ByteArray):=findI (fun _ x=>x.toList==v.toList) xs
def fidx (v:ByteArray) (xs:List ByteArray):Int:=match idxZ v xs with | some q=>(q.1:Int) | none=>-1
theorem p_l2Find (xs:List ByteArray) (v:ByteArray) (hl:xs.length≤1048576):M_dc xs v=some (fidx v xs):=by
 unfold M_dc fidx
 rw [iter_findI (f:=M_an xs v) xs (fun _ x=>x.toList==v.toList) (fun i _=>(i:Int)) () (fun i x hx _=>by
  have hlt:=(List.getElem?_eq_some_iff.1 hx).1
  have h1:decide ((i:Int) < xs.length)=true:=by simp [hlt]
  simp only [M_an,h1,cond_true,geti_nat,hx,Option.bind_some]
  rw [w64_eq (by omega) (by omega)]
  cases x.toList==v.toList <;> rfl) (by simp [M_an]) (by omega)]
 unfold idxZ
 cases findI (fun _ x=>x.toList==v.toList) xs <;> rfl
theorem p_Contains_z (xs:List ByteArray) (v:ByteArray) (hl:xs.length≤1048576):M_di xs v=some (xs.any fun x=>x.toList==v.toList):=by
 unfold M_di M_dy
 rw [iter_findI (f:=M_ar xs v) xs (fun _ x=>x.toList==v.toList) (fun i _=>(i:Int)) () (fun i x hx _=>by
  have hlt:=(List.getElem?_eq_some_iff.1 hx).1
  have h1:decide ((i:Int) < xs.length)=true:=by simp [hlt]
  simp only [M_ar,h1,cond_true,geti_nat,hx,Option.bind_some]
  rw [w64_eq (by omega) (by omega),show (v.toList==x.toList)=(x.toList==v.toList) from Bool.beq_comm ..]
  cases x.toList==v.toList <;> rfl) (by simp [M_ar]) (by omega)]
 cases e:findI (fun _ x=>x.toList==v.toList) xs with
 | none =>
   have:=findI_none.1 e
   have h:(xs.any fun x=>x.toList==v.toList)=false:=by
    rw [← anyI_any (fun x:ByteArray=>x.toList==v.toList),anyI_false]; exact this
   rw [h]; rfl
 | some q =>
   obtain ⟨i,x⟩:=q
   obtain ⟨h1,h2,_⟩:=findI_some.1 e
   have h:(xs.any fun x=>x.toList==v.toList)=true:=List.any_eq_true.2 ⟨x,List.mem_of_getElem? h1,h2⟩
   rw [h]; simp
def cmpI (x y:Int):Int:=if x < y then -1 else if y < x then 1 else 0
theorem p_cmp (x y:Int):M_bg x y=some (cmpI x y):=by
 unfold M_bg M_bf cmpI
 by_cases h:x < y
 · simp [h]
 · by_cases h2:y < x <;> simp [h,h2]
def cmpF (f g:TFiber):Int:=if f.A ≠ g.A then cmpI f.A g.A else if f.B ≠ g.B then cmpI f.B g.B else if f.Length ≠ g.Length then cmpI f.Length g.Length else cmpI f.Risk g.Risk
theorem cmpI_zero {x y:Int}:cmpI x y=0↔x=y:=by
 unfold cmpI
 split
 · simp; omega
 · split
   · simp; omega
   · simp; omega
theorem p_compareFibers (f g:TFiber):M_dj f g=some (cmpF f g):=by
 unfold M_dj
 simp only [p_cmp,Option.bind_some,bnd]
 unfold M_dz
 have key:=iter_findI (f:=M_as [cmpI f.A g.A,cmpI f.B g.B,cmpI f.Length g.Length,cmpI f.Risk g.Risk]) [cmpI f.A g.A,cmpI f.B g.B,cmpI f.Length g.Length,cmpI f.Risk g.Risk] (fun _ x=>x != 0) (fun _ x=>x) () (fun i x hx _=>by
  have hlt:=(List.getElem?_eq_some_iff.1 hx).1
  have h1:decide ((i:Int) < ([cmpI f.A g.A,cmpI f.B g.B,cmpI f.Length g.Length,cmpI f.Risk g.Risk].length:Nat))=true:=decide_eq_true (by omega)
  simp only [List.length_cons,List.length_nil] at hlt
  simp only [M_as,h1,cond_true,geti_nat,hx,Option.bind_some]
  rw [w64_eq (by omega) (by omega)]
  cases x != 0 <;> rfl) (by simp [M_as]) (by simp)
 rw [key]
 unfold cmpF findI
 simp only [List.zipIdx_cons,List.zipIdx_nil,List.find?_cons,List.find?_nil]
 by_cases h1:f.A=g.A
 · rw [cmpI_zero.2 h1]
   by_cases h2:f.B=g.B
   · rw [cmpI_zero.2 h2]
     by_cases h3:f.Length=g.Length
     · rw [cmpI_zero.2 h3]
       by_cases h4:f.Risk=g.Risk
       · simp [h1,h2,h3,h4,cmpI_zero.2]
       · have:(cmpI f.Risk g.Risk != 0)=true:=bne_iff_ne.2 fun e=>h4 (cmpI_zero.1 e)
         simp [h1,h2,h3,this]
     · have:(cmpI f.Length g.Length != 0)=true:=bne_iff_ne.2 fun e=>h3 (cmpI_zero.1 e)
       simp [h1,h2,h3,this]
   · have:(cmpI f.B g.B != 0)=true:=bne_iff_ne.2 fun e=>h2 (cmpI_zero.1 e)
     simp [h1,h2,this]
 · have:(cmpI f.A g.A != 0)=true:=bne_iff_ne.2 fun e=>h1 (cmpI_zero.1 e)
   simp [h1,this]
end Vs

namespace Vs
open Go
theorem slT_nat {α:Type} (xs:List α) (i:Nat) (h:i≤xs.length):slT xs (i:Int)=some (xs.take i):=by
 unfold slT
 rw [if_pos ⟨by omega,by simpa using h⟩]; simp
theorem z_net {n:TNetwork} (h:z_Network n≤1048576):n.Nodes.length≤1048576∧n.Fibers.length≤1048576∧∀ x∈n.Nodes,x.size≤1048576:=by
 unfold z_Network z_StringS z_FiberS at h
 refine ⟨by omega,by omega,fun x hx=>?_⟩
 obtain ⟨i,hi,rfl⟩:=List.getElem_of_mem hx
 have:n.Nodes[i].size≤(n.Nodes.map fun x:ByteArray=>x.size).sum:=sum_ge (fun x:ByteArray=>x.size) (xs:=n.Nodes) (i:=i) (x:=n.Nodes[i]) (by simp [hi])
 omega
def nodeBad (n:TNetwork) (i:Nat) (x:ByteArray):Bool:=!nameB x||(n.Nodes.take i).any fun y=>y.toList==x.toList
def fib1 (m:Nat) (f:TFiber):Bool:=decide (f.A < 0)||decide (f.B≤f.A)||decide ((m:Int)≤f.B)||!wi f.Length 1 5000||!wi f.Risk 0 9
def fibBad (n:TNetwork) (i:Nat) (f:TFiber):Bool:=fib1 n.Nodes.length f||(decide (0 < i)&&match n.Fibers[i - 1]? with | some g=>decide (0 < cmpF g f) | none=>false)
def netOk (n:TNetwork):Bool:=!anyI (nodeBad n) n.Nodes&&!anyI (fibBad n) n.Fibers&&wi n.Nodes.length 2 8&&decide (n.Fibers.length≤14)
theorem p_IsValidNetwork (n:TNetwork) (hz:z_Network n≤1048576):M_bn n=some (netOk n):=by
 obtain ⟨h1,h2,h3⟩:=z_net hz
 unfold M_bn netOk
 rw [iter_anyI (f:=M_at n) n.Nodes (nodeBad n) (.inr false) (.inl ()) (fun i x hx _=>by
  have hlt:=(List.getElem?_eq_some_iff.1 hx).1
  have e1:decide ((i:Int) < n.Nodes.length)=true:=by simp [hlt]
  simp only [M_at,e1,cond_true,geti_nat,hx,Option.bind_some,p_isName x (h3 x (List.mem_of_getElem? hx)),slT_nat n.Nodes i (Nat.le_of_lt hlt),p_Contains_z (n.Nodes.take i) x (by simp; omega),nodeBad]
  rw [w64_eq (by omega) (by omega)]
  rcases bt (nameB x) with e | e <;> rcases bt ((n.Nodes.take i).any (fun y=>y.toList==x.toList)) with e' | e' <;> simp only [e,e'] <;> rfl) (by simp [M_at]) (by omega)]
 rcases bt (anyI (nodeBad n) n.Nodes) with hN | hN
 · simp [hN]
 · simp only [hN,Bool.false_eq_true,if_false,Option.bind_some,Bool.not_false,Bool.true_and]
   rw [iter_anyI (f:=M_w n) n.Fibers (fibBad n) (.inr false) (.inl ()) (fun i x hx _=>by
    have hlt:=(List.getElem?_eq_some_iff.1 hx).1
    have e1:decide ((i:Int) < n.Fibers.length)=true:=by simp [hlt]
    simp only [M_w,e1,cond_true,geti_nat,hx,Option.bind_some,p_within]
    rw [w64_eq (n:=(i:Int)+1) (by omega) (by omega)]
    unfold fibBad fib1
    cases decide (x.A < 0)
    · cases decide (x.B≤x.A)
      · cases decide ((n.Nodes.length:Int)≤x.B)
        · cases wi x.Length 1 5000
          · rfl
          · cases wi x.Risk 0 9
            · rfl
            · by_cases hi:0 < i
              · have hi':decide ((0:Int) < (i:Int))=true:=by simp [hi]
                have hp:n.Fibers[i - 1]?=some n.Fibers[i - 1]:=List.getElem?_eq_getElem (by omega)
                have hw:IntKind.wrap .i64 ((i:Int) - 1)=((i - 1:Nat):Int):=by rw [w64_eq (by omega) (by omega)]; omega
                simp only [hi',cond_true,cond_false,Bool.not_true,hw,geti_nat,hp,Option.bind_some,p_compareFibers,hi,decide_true,Bool.true_and,Bool.false_or]
                cases decide (0 < cmpF n.Fibers[i - 1] x) <;> rfl
              · have hi':decide ((0:Int) < (i:Int))=false:=by simp; omega
                simp [hi',hi]
        · rfl
      · rfl
    · rfl) (by simp [M_w]) (by omega)]
   rcases bt (anyI (fibBad n) n.Fibers) with hF | hF
   · simp [hF]
   · simp only [hF,Bool.false_eq_true,if_false,Option.bind_some,Bool.not_false,Bool.true_and,p_within]
     have e:decide ((n.Fibers.length:Int)≤14)=decide (n.Fibers.length≤14):=decide_eq_decide.2 (by omega)
     rw [e]
     cases wi n.Nodes.length 2 8 <;> rfl
theorem find_dup (n:TNetwork) (i:Nat) (x:ByteArray) (hx:n.Nodes[i]?=some x) :
 (fidx x n.Nodes != (i:Int))=(n.Nodes.take i).any fun y=>y.toList==x.toList:=by
 unfold fidx
 cases e:idxZ x n.Nodes with
 | none =>
   have:=findI_none.1 e i x hx
   simp at this
 | some q =>
   obtain ⟨j,y⟩:=q
   obtain ⟨h1,h2,h3⟩:=findI_some.1 e
   simp only
   by_cases hj:j=i
   · subst hj
     have:((n.Nodes.take j).any fun y=>y.toList==x.toList)=false:=by
      rw [List.any_eq_false]
      intro z hz
      obtain ⟨k,hk,rfl⟩:=List.getElem_of_mem hz
      simp only [List.length_take] at hk
      have:=h3 k (n.Nodes.take j)[k] (by omega) (by rw [List.getElem_take]; exact List.getElem?_eq_getElem (by omega))
      rw [this]; simp
     rw [this]; simp
   · have hji:j < i:=by
      rcases Nat.lt_trichotomy j i with h | h | h
      · exact h
      · exact (hj h).elim
      · have:=h3 i x h hx
        simp at this
     have:((n.Nodes.take i).any fun y=>y.toList==x.toList)=true:=List.any_eq_true.2 ⟨y,by
      have:(n.Nodes.take i)[j]?=some y:=by rw [List.getElem?_take,if_pos hji]; exact h1
      exact List.mem_of_getElem? this,h2⟩
     rw [this]
     simp; omega
theorem p_l2Fiber (f:TFiber) (m:Nat) (hm:m≤8) (hm2:2≤m):M_dd f (m:Int)=some (!fib1 m f):=by
 unfold M_dd fib1
 simp only [p_l1In,Option.bind_some]
 rw [w64_eq (n:=(m:Int) - 1) (by omega) (by omega)]
 rcases bt (wi f.A 0 ((m:Int) - 1)) with h1 | h1
 · have h2:=wi_iff.1 h1
   rw [w64_eq (n:=f.A+1) (by omega) (by omega)]
   rcases bt (wi f.B (f.A+1) ((m:Int) - 1)) with h3 | h3
   · have h4:=wi_iff.1 h3
     have a1:decide (f.A < 0)=false:=by simp; omega
     have a2:decide (f.B≤f.A)=false:=by simp; omega
     have a3:decide ((m:Int)≤f.B)=false:=by simp; omega
     simp only [h1,h3,a1,a2,a3,cond_true,Bool.false_or]
     cases wi f.Length 1 5000 <;> cases wi f.Risk 0 9 <;> rfl
   · have h4:=wi_false.1 h3
     simp only [h1,h3,cond_true,cond_false]
     by_cases a2:f.B≤f.A
     · simp [a2]
     · have a3:(m:Int)≤f.B:=by omega
       simp [a3]
 · have h2:=wi_false.1 h1
   simp only [h1,cond_false]
   by_cases a1:f.A < 0
   · simp [a1]
   · by_cases a2:f.B≤f.A
     · simp [a2]
     · have a3:(m:Int)≤f.B:=by omega
       simp [a3]
structure FibOk (m:Int) (f:TFiber):Prop where
 a0:0≤f.A
 ab:f.A < f.B
 bm:f.B < m
 l1:1≤f.Length
 l2:f.Length≤5000
 r0:0≤f.Risk
 r9:f.Risk≤9
theorem fib1_ok {m:Nat} {f:TFiber} (h:fib1 m f=false):FibOk m f:=by
 unfold fib1 at h
 simp only [Bool.or_eq_false_iff,decide_eq_false_iff_not,Bool.not_eq_false',wi_iff] at h
 obtain ⟨⟨⟨⟨h1,h2⟩,h3⟩,h4,h5⟩,h6,h7⟩:=h
 exact ⟨by omega,by omega,by omega,h4,h5,h6,h7⟩
theorem p_before (f g:TFiber) (m:Nat) (hm:m≤8) (hf:FibOk m f) (hg:FibOk m g):∃ r,M_bk f g=some r∧decide (0 < r)=decide (0 < cmpF f g):=by
 obtain ⟨a1,a2,a3,a4,a5,a6,a7⟩:=hf
 obtain ⟨b1,b2,b3,b4,b5,b6,b7⟩:=hg
 have sgn:∀ x y:Int,decide (0 < x - y)=decide (0 < cmpI x y):=by
  intro x y
  unfold cmpI
  by_cases h:x < y
  · rw [if_pos h]; exact decide_eq_decide.2 (by omega)
  · rw [if_neg h]
    by_cases h2:y < x
    · rw [if_pos h2]; exact decide_eq_decide.2 (by omega)
    · rw [if_neg h2]; exact decide_eq_decide.2 (by omega)
 unfold M_bk cmpF
 rw [w64_eq (n:=f.A - g.A) (by omega) (by omega),w64_eq (n:=f.B - g.B) (by omega) (by omega),w64_eq (n:=f.Length - g.Length) (by omega) (by omega),w64_eq (n:=f.Risk - g.Risk) (by omega) (by omega)]
 by_cases h1:f.A=g.A
 · have e1:(f.A != g.A)=false:=by rw [h1]; simp
   by_cases h2:f.B=g.B
   · have e2:(f.B != g.B)=false:=by rw [h2]; simp
     by_cases h3:f.Length=g.Length
     · have e3:(f.Length != g.Length)=false:=by rw [h3]; simp
       exact ⟨f.Risk - g.Risk,by simp only [e1,e2,e3,cond_false],by simp only [h1,h2,h3,ne_eq,not_true,if_false]; exact sgn _ _⟩
     · have e3:(f.Length != g.Length)=true:=bne_iff_ne.2 h3
       exact ⟨f.Length - g.Length,by simp only [e1,e2,e3,cond_false,cond_true],by simp only [h1,h2,h3,ne_eq,not_true,not_false_eq_true,if_false,if_true]; exact sgn _ _⟩
   · have e2:(f.B != g.B)=true:=bne_iff_ne.2 h2
     exact ⟨f.B - g.B,by simp only [e1,e2,cond_false,cond_true],by simp only [h1,h2,ne_eq,not_true,not_false_eq_true,if_false,if_true]; exact sgn _ _⟩
 · have e1:(f.A != g.A)=true:=bne_iff_ne.2 h1
   exact ⟨f.A - g.A,by simp only [e1,cond_true],by simp only [h1,ne_eq,not_false_eq_true,if_true]; exact sgn _ _⟩
theorem p_l2Good (n:TNetwork) (hz:z_Network n≤1048576):M_bl n=some (netOk n):=by
 obtain ⟨z1,z2,z3⟩:=z_net hz
 unfold M_bl netOk
 simp only [p_l1In,Option.bind_some]
 rcases bt (wi n.Nodes.length 2 8) with hw | hw
 · have hw2:=wi_iff.1 hw
   have e:decide (14 < (n.Fibers.length:Int))=!decide (n.Fibers.length≤14):=by
    rw [← decide_not]; exact decide_eq_decide.2 (by omega)
   simp only [hw,e,Bool.not_true,cond_false,Option.bind_some,Bool.and_true]
   rcases bt (decide (n.Fibers.length≤14)) with h14 | h14
   · simp only [h14,Bool.not_true,cond_false,Bool.and_true]
     rw [iter_anyI (f:=M_ao n) n.Nodes (nodeBad n) (.inr false) (.inl ()) (fun i x hx _=>by
      have hlt:=(List.getElem?_eq_some_iff.1 hx).1
      have e1:decide ((i:Int) < n.Nodes.length)=true:=by simp [hlt]
      simp only [M_ao,e1,cond_true,geti_nat,hx,Option.bind_some,p_l2Name x (z3 x (List.mem_of_getElem? hx)),p_l2Find n.Nodes x z1,find_dup n i x hx,nodeBad]
      rw [w64_eq (by omega) (by omega)]
      rcases bt (nameB x) with e | e <;> rcases bt ((n.Nodes.take i).any (fun y=>y.toList==x.toList)) with e' | e' <;> simp only [e,e'] <;> rfl) (by simp [M_ao]) (by omega)]
     rcases bt (anyI (nodeBad n) n.Nodes) with hN | hN
     · simp [hN]
     · simp only [hN,Bool.false_eq_true,if_false,Option.bind_some,Bool.not_false,Bool.true_and]
       rw [iter_anyI (f:=M_ap n) n.Fibers (fibBad n) (.inr false) (.inl ()) (fun i x hx hprev=>by
        have hlt:=(List.getElem?_eq_some_iff.1 hx).1
        have e1:decide ((i:Int) < n.Fibers.length)=true:=by simp [hlt]
        simp only [M_ap,e1,cond_true,geti_nat,hx,Option.bind_some,p_l2Fiber x n.Nodes.length (by omega) (by omega),Bool.not_not]
        rw [w64_eq (n:=(i:Int)+1) (by omega) (by omega)]
        unfold fibBad
        rcases bt (fib1 n.Nodes.length x) with h1 | h1
        · simp [h1]
        · simp only [h1,cond_false,Bool.false_or]
          by_cases hi:0 < i
          · have hi':decide ((0:Int) < (i:Int))=true:=by simp [hi]
            have hp:n.Fibers[i - 1]?=some n.Fibers[i - 1]:=List.getElem?_eq_getElem (by omega)
            have hw:IntKind.wrap .i64 ((i:Int) - 1)=((i - 1:Nat):Int):=by rw [w64_eq (by omega) (by omega)]; omega
            have hb:=hprev (i - 1) n.Fibers[i - 1] (by omega) hp
            unfold fibBad at hb
            simp only [Bool.or_eq_false_iff] at hb
            obtain ⟨r,r1,r2⟩:=p_before n.Fibers[i - 1] x n.Nodes.length (by omega) (fib1_ok hb.1) (fib1_ok h1)
            simp only [hi',cond_true,hw,geti_nat,hp,Option.bind_some,r1,r2,hi,decide_true,Bool.true_and]
            cases decide (0 < cmpF n.Fibers[i - 1] x) <;> rfl
          · have hi':decide ((0:Int) < (i:Int))=false:=by simp; omega
            simp [hi',hi]) (by simp [M_ap]) (by omega)]
       cases anyI (fibBad n) n.Fibers <;> rfl
   · simp [h14]
 · simp [hw]
end Vs

namespace Vs
open Go
theorem netOk_b {n:TNetwork} (h:netOk n=true):2≤n.Nodes.length∧n.Nodes.length≤8∧n.Fibers.length≤14:=by
 unfold netOk at h
 simp only [Bool.and_eq_true,decide_eq_true_eq,wi_iff] at h
 omega
theorem netOk_fib {n:TNetwork} (h:netOk n=true) {i:Nat} {f:TFiber} (hf:n.Fibers[i]?=some f):FibOk n.Nodes.length f:=by
 unfold netOk at h
 simp only [Bool.and_eq_true,Bool.not_eq_true'] at h
 have:=anyI_false.1 h.1.1.2 i f hf
 unfold fibBad at this
 simp only [Bool.or_eq_false_iff] at this
 exact fib1_ok this.1
def idxs (r:Int):Nat→List TFiber→List Int
 | _,[]=>[]
 | i,f::fs=>if f.Risk=r then (i:Int)::idxs r (i+1) fs else idxs r (i+1) fs
theorem idxs_cons (r:Int) (i:Nat) (f:TFiber) (fs:List TFiber):idxs r i (f::fs)=if f.Risk=r then (i:Int)::idxs r (i+1) fs else idxs r (i+1) fs:=rfl
theorem idxs_len (r:Int):∀ (fs:List TFiber) (i:Nat),(idxs r i fs).length≤fs.length
 | [],i=>by simp [idxs]
 | f :: fs, i => by
   have:=idxs_len r fs (i+1)
   rw [idxs_cons]; split <;> simp <;> omega
theorem idxs_mem (r:Int):∀ (fs:List TFiber) (i:Nat) (x:Int),x∈idxs r i fs↔∃ j f,fs[j]?=some f∧f.Risk=r∧x=((i+j:Nat):Int)
 | [],i,x=>by simp [idxs]
 | f :: fs, i, x => by
   have ih:=idxs_mem r fs (i+1) x
   have step:(∃ j g,(f::fs)[j]?=some g∧g.Risk=r∧x=((i+j:Nat):Int))↔(f.Risk=r∧x=(i:Int))∨∃ j g,fs[j]?=some g∧g.Risk=r∧x=((i+1+j:Nat):Int):=by
    constructor
    · rintro ⟨j,g,h1,h2,h3⟩
      cases j with
      | zero=>simp at h1; subst h1; exact .inl ⟨h2,h3⟩
      | succ j=>exact .inr ⟨j,g,by simpa using h1,h2,by rw [h3]; congr 1; omega⟩
    · rintro (⟨h1,h2⟩ | ⟨j,g,h1,h2,h3⟩)
      · exact ⟨0,f,rfl,h1,h2⟩
      · exact ⟨j+1,g,by simpa using h1,h2,by rw [h3]; congr 1; omega⟩
   rw [step,← ih]
   rw [idxs_cons]
   split
   · rename_i h; simp [h]
   · rename_i h; simp [h]
theorem idxs_fold (r:Int):∀ (fs:List TFiber) (i:Nat) (acc:List Int),walkL (fun i (f:TFiber) (a:List Int)=>(.inl (if f.Risk=r then a++[(i:Int)] else a):List Int ⊕ List Int)) (fun a=>a) i fs acc=acc++idxs r i fs
 | [],i,acc=>by simp [walkL,idxs]
 | f :: fs, i, acc => by
   simp only [walkL]
   rw [idxs_fold r fs (i+1)]
   rw [idxs_cons]
   split <;> simp
def risks:List Int:=[1,2,3,4,5,6,7,8,9]
def groupsP (n:TNetwork):List (List Int):=((risks.map fun r=>idxs r 0 n.Fibers).filter fun l=>decide (0 < l.length))++(idxs 0 0 n.Fibers).map fun i=>[i]
theorem groupsP_len (n:TNetwork) (h:n.Fibers.length≤14):(groupsP n).length≤23:=by
 have:=idxs_len 0 n.Fibers 0
 have h2:=List.length_filter_le (fun l:List Int=>decide (0 < l.length)) (risks.map fun r=>idxs r 0 n.Fibers)
 have h3:(risks.map fun r=>idxs r 0 n.Fibers).length=9:=rfl
 unfold groupsP
 simp only [List.length_append,List.length_map]
 omega
theorem idx_loop {f:Int×List Int→Option ((Int×List Int) ⊕ List Int)} (fs:List TFiber) (r:Int) (hl:fs.length≤1048576)
 (h1:∀ (i:Nat) x (a:List Int),fs[i]?=some x→a.length≤i→f ((i:Int),a)=some (.inl (((i+1:Nat):Int),if x.Risk=r then a++[(i:Int)] else a)))
 (h2:∀ a,f ((fs.length:Int),a)=some (.inr a)):iter f N0 (0,[])=some (idxs r 0 fs):=by
 have:=iter_list (f:=f) fs (fun i (a:List Int)=>((i:Int),a)) (fun i x a=>.inl (if x.Risk=r then a++[(i:Int)] else a)) (fun a=>a) (fun i a=>a.length≤i) (fun i a x hx hI=>by
  refine .inl ⟨_,rfl,?_,h1 i x a hx hI⟩
  split <;> first | omega | (simp only [List.length_append,List.length_cons,List.length_nil]; omega)) (fun a _=>h2 a) [] (by simp) (by omega)
 rw [show iter f N0 (0,[])=_ from this,idxs_fold]; rfl
theorem app_loop {f:Int×List (List Int)→Option ((Int×List (List Int)) ⊕ List (List Int))} (fs:List TFiber) (G:List (List Int)) (hl:fs.length≤1048576) (hG:G.length≤100)
 (h1:∀ (i:Nat) x (a:List (List Int)),fs[i]?=some x→a.length≤100+i→f ((i:Int),a)=some (.inl (((i+1:Nat):Int),if x.Risk=0 then a++[[(i:Int)]] else a)))
 (h2:∀ a,f ((fs.length:Int),a)=some (.inr a)):iter f N0 (0,G)=some (G++(idxs 0 0 fs).map fun i=>[i]):=by
 have:=iter_list (f:=f) fs (fun i (a:List (List Int))=>((i:Int),a)) (fun i x a=>.inl (if x.Risk=0 then a++[[(i:Int)]] else a)) (fun a=>a) (fun i a=>a.length≤100+i) (fun i a x hx hI=>by
  refine .inl ⟨_,rfl,?_,h1 i x a hx hI⟩
  split <;> first | omega | (simp only [List.length_append,List.length_cons,List.length_nil]; omega)) (fun a _=>h2 a) G (by omega) (by omega)
 rw [show iter f N0 (0,G)=_ from this]
 have gen:∀ (fs:List TFiber) (i:Nat) (acc:List (List Int)),walkL (fun i (f:TFiber) (a:List (List Int))=>(.inl (if f.Risk=0 then a++[[(i:Int)]] else a):List (List Int) ⊕ List (List Int))) (fun a=>a) i fs acc=acc++(idxs 0 i fs).map fun i=>[i]:=by
  intro fs
  induction fs with
  | nil=>intro i acc; simp [walkL,idxs]
  | cons f fs ih =>
    intro i acc
    simp only [walkL]
    rw [ih (i+1)]
    rw [idxs_cons]
    split <;> simp
 rw [gen]
theorem risk_loop {f:Int×List (List Int)→Option ((Int×List (List Int)) ⊕ List (List Int))} (fs:List TFiber)
 (h1:∀ (r:Int) (a:List (List Int)),1≤r→r≤9→a.length≤10→f (r,a)=some (.inl (r+1,if 0 < (idxs r 0 fs).length then a++[idxs r 0 fs] else a)))
 (h2:∀ a,f (10,a)=some (.inr a)):iter f N0 (1,[])=some ((risks.map fun r=>idxs r 0 fs).filter fun l=>decide (0 < l.length)):=by
 have:=iter_list (f:=f) risks (fun i (a:List (List Int))=>((i:Int)+1,a)) (fun i r a=>.inl (if 0 < (idxs r 0 fs).length then a++[idxs r 0 fs] else a)) (fun a=>a) (fun i a=>a.length≤i) (fun i a r hr hI=>by
  have hi:i < 9:=by have:=(List.getElem?_eq_some_iff.1 hr).1; simpa [risks] using this
  have e:(i:Int)+1=r:=by
   rcases i with _ | _ | _ | _ | _ | _ | _ | _ | _ | i <;> first | (simp [risks] at hr; omega) | omega
  refine .inl ⟨_,rfl,?_,?_⟩
  · split <;> first | omega | (simp only [List.length_append,List.length_cons,List.length_nil]; omega)
  · rw [e,h1 r a (by omega) (by omega) (by omega)]
    have:((i+1:Nat):Int)+1=r+1:=by omega
    rw [this]) (fun a _=>by have:=h2 a; simpa [risks] using this) [] (by simp) (by simp [risks])
 rw [show iter f N0 (1,[])=_ from this]
 have gen:∀ (rs:List Int) (i:Nat) (acc:List (List Int)),walkL (fun (_:Nat) (r:Int) (a:List (List Int))=>(.inl (if 0 < (idxs r 0 fs).length then a++[idxs r 0 fs] else a):List (List Int) ⊕ List (List Int))) (fun a=>a) i rs acc =
  acc++(rs.map fun r=>idxs r 0 fs).filter fun l=>decide (0 < l.length):=by
  intro rs
  induction rs with
  | nil=>intro i acc; simp [walkL]
  | cons r rs ih =>
    intro i acc
    simp only [walkL]
    rw [ih (i+1),List.map_cons,List.filter_cons]
    by_cases h:0 < (idxs r 0 fs).length
    · simp [h]
    · simp [h]
 rw [gen]; rfl
theorem p_groups (n:TNetwork) (h:n.Fibers.length≤14):M_bz n=some (groupsP n):=by
 unfold M_bz
 rw [risk_loop (f:=M_y n) n.Fibers (fun r a hr1 hr9 ha=>by
  have e1:decide (r≤9)=true:=by simp [hr9]
  simp only [M_y,e1,cond_true]
  rw [idx_loop (f:=M_x n (r,a)) n.Fibers r (by omega) (fun i x b hx hb=>by
   have hlt:=(List.getElem?_eq_some_iff.1 hx).1
   have e1:decide ((i:Int) < n.Fibers.length)=true:=by simp [hlt]
   simp only [M_x,e1,cond_true,geti_nat,hx,Option.bind_some,bnd]
   rw [grd_t (by omega),w64_eq (by omega) (by omega)]
   by_cases e:x.Risk=r
   · simp [e]
   · simp [e,cond_ite]) (fun a=>by simp [M_x])]
  simp only [Option.bind_some,bnd]
  rw [grd_t (by omega),w64_eq (by omega) (by omega)]
  by_cases e:0 < (idxs r 0 n.Fibers).length
  · have e':decide ((0:Int) < ((idxs r 0 n.Fibers).length:Int))=true:=by simpa using e
    simp only [e',cond_true,if_pos e,Option.bind_some]
  · have e':decide ((0:Int) < ((idxs r 0 n.Fibers).length:Int))=false:=by simpa using e
    simp only [e',cond_false,if_neg e]) (fun a=>by simp [M_y])]
 simp only [Option.bind_some]
 have hl:=List.length_filter_le (fun l:List Int=>decide (0 < l.length)) (risks.map fun r=>idxs r 0 n.Fibers)
 have hl9:(risks.map fun r=>idxs r 0 n.Fibers).length=9:=rfl
 rw [app_loop (f:=M_z n) n.Fibers _ (by omega) (by omega) (fun i x a hx ha=>by
  have hlt:=(List.getElem?_eq_some_iff.1 hx).1
  have e1:decide ((i:Int) < n.Fibers.length)=true:=by simp [hlt]
  simp only [M_z,e1,cond_true,geti_nat,hx,Option.bind_some,bnd]
  rw [grd_t (by omega),w64_eq (by omega) (by omega)]
  by_cases e:x.Risk=0
  · simp [e]
  · simp [e,cond_ite]) (fun a=>by simp [M_z])]
 rfl
theorem p_l2Group (n:TNetwork) (h:n.Fibers.length≤14) (i:Nat) (f:TFiber) (hf:n.Fibers[i]?=some f) (hr:f.Risk ≠ 0):M_de n (i:Int)=some (idxs f.Risk 0 n.Fibers):=by
 unfold M_de
 have e:(f.Risk==0)=false:=by simpa using hr
 simp only [geti_nat,hf,Option.bind_some,e,cond_false]
 rw [idx_loop (f:=M_s n (i:Int)) n.Fibers f.Risk (by omega) (fun j x b hx hb=>by
  have hlt:=(List.getElem?_eq_some_iff.1 hx).1
  have e1:decide ((j:Int) < n.Fibers.length)=true:=by simp [hlt]
  simp only [M_s,e1,cond_true,geti_nat,hx,hf,Option.bind_some,bnd]
  rw [grd_t (by omega),w64_eq (by omega) (by omega)]
  by_cases e:x.Risk=f.Risk
  · simp [e]
  · simp [e,cond_ite]) (fun a=>by simp [M_s])]
 rfl
theorem idxs_pos {r:Int} {fs:List TFiber}:0 < (idxs r 0 fs).length↔∃ (j:Nat) (f:TFiber),fs[j]?=some f∧f.Risk=r:=by
 constructor
 · intro h
   obtain ⟨x,hx⟩:=List.exists_mem_of_length_pos h
   obtain ⟨j,f,h1,h2,_⟩:=(idxs_mem r fs 0 x).1 hx
   exact ⟨j,f,h1,h2⟩
 · rintro ⟨j,f,h1,h2⟩
   exact List.length_pos_of_mem ((idxs_mem r fs 0 _).2 ⟨j,f,h1,h2,rfl⟩)
theorem p_l2Groups (n:TNetwork) (h:n.Fibers.length≤14):M_bm n=some (groupsP n):=by
 unfold M_bm
 rw [risk_loop (f:=M_aq n) n.Fibers (fun r a hr1 hr9 ha=>by
  have e1:decide (r≤9)=true:=by simp [hr9]
  simp only [M_aq,e1,cond_true]
  have key:iter (M_d n (r,a)) N0 0=some (if 0 < (idxs r 0 n.Fibers).length then a++[idxs r 0 n.Fibers] else a):=by
   rw [iter_anyI (f:=M_d n (r,a)) n.Fibers (fun _ f=>decide (f.Risk=r)) (a++[idxs r 0 n.Fibers]) a (fun i x hx _=>by
    have hlt:=(List.getElem?_eq_some_iff.1 hx).1
    have e1:decide ((i:Int) < n.Fibers.length)=true:=by simp [hlt]
    simp only [M_d,e1,cond_true,geti_nat,hx,Option.bind_some,bnd]
    by_cases e:x.Risk=r
    · have e0:x.Risk ≠ 0:=by omega
      have e2:(x.Risk==r)=true:=by simp [e]
      rw [p_l2Group n h i x hx e0]
      simp only [e2,cond_true,Option.bind_some]
      rw [grd_t (by omega)]
      simp [e]
    · have e2:(x.Risk==r)=false:=by simp [e]
      simp only [e2,cond_false]
      rw [w64_eq (by omega) (by omega)]
      simp [e]) (by simp [M_d]) (by omega)]
   by_cases hp:0 < (idxs r 0 n.Fibers).length
   · rw [if_pos hp]
     obtain ⟨j,f,h1,h2⟩:=idxs_pos.1 hp
     have:anyI (fun _ (f:TFiber)=>decide (f.Risk=r)) n.Fibers=true:=anyI_iff.2 ⟨j,f,h1,by simp [h2]⟩
     rw [this]; rfl
   · rw [if_neg hp]
     have:anyI (fun _ (f:TFiber)=>decide (f.Risk=r)) n.Fibers=false:=anyI_false.2 fun i x hx=>by
      simp only [decide_eq_false_iff_not]
      intro e; exact hp (idxs_pos.2 ⟨i,x,hx,e⟩)
     rw [this]; rfl
  rw [key]
  simp only [Option.bind_some]
  rw [w64_eq (by omega) (by omega)]) (fun a=>by simp [M_aq])]
 simp only [Option.bind_some]
 have hl:=List.length_filter_le (fun l:List Int=>decide (0 < l.length)) (risks.map fun r=>idxs r 0 n.Fibers)
 have hl9:(risks.map fun r=>idxs r 0 n.Fibers).length=9:=rfl
 rw [app_loop (f:=M_t n) n.Fibers _ (by omega) (by omega) (fun i x a hx ha=>by
  have hlt:=(List.getElem?_eq_some_iff.1 hx).1
  have e1:decide ((i:Int) < n.Fibers.length)=true:=by simp [hlt]
  simp only [M_t,e1,cond_true,geti_nat,hx,Option.bind_some,bnd]
  rw [grd_t (by omega),w64_eq (by omega) (by omega)]
  by_cases e:x.Risk=0
  · simp [e]
  · simp [e,cond_ite]) (fun a=>by simp [M_t])]
 rfl
end Vs

namespace Vs
open Go
theorem p_ContainsFunc_i (xs:List Int) (f:Int→Option Bool) (p:Int→Bool) (hf:∀ x,f x=some (p x)) (hl:xs.length≤1048576):M_ca xs f=some (xs.any p):=by
 unfold M_ca M_ea
 rw [iter_findI (f:=M_au xs f) xs (fun _ x=>p x) (fun i _=>(i:Int)) () (fun i x hx _=>by
  have hlt:=(List.getElem?_eq_some_iff.1 hx).1
  have h1:decide ((i:Int) < xs.length)=true:=by simp [hlt]
  simp only [M_au,h1,cond_true,geti_nat,hx,hf,Option.bind_some]
  rw [w64_eq (by omega) (by omega)]
  rcases bt (p x) with e | e <;> simp only [e] <;> rfl) (by simp [M_au]) (by omega)]
 rw [← anyI_any]
 cases e:findI (fun _ x=>p x) xs with
 | none =>
   have:=findI_none.1 e
   have h:anyI (fun _ x=>p x) xs=false:=anyI_false.2 this
   rw [h]; rfl
 | some q =>
   obtain ⟨i,x⟩:=q
   obtain ⟨h1,h2,_⟩:=findI_some.1 e
   have h:anyI (fun _ x=>p x) xs=true:=anyI_iff.2 ⟨i,x,h1,h2⟩
   rw [h]; simp
def outOk (n:TNetwork) (o:TOutage):Bool:=netOk n&&wi o.Unit 2 20&&decide (o.Down.length=(groupsP n).length)&&!o.Down.any fun d=>!wi d 0 o.Unit
theorem beq_len {α β:Type} (a:List α) (b:List β):((a.length:Int)==(b.length:Int))=decide (a.length=b.length):=by
 rw [Bool.eq_iff_iff]; simp; omega
theorem p_impl_Outage (n:TNetwork) (o:TOutage) (hz:z_Network n≤1048576) (ho:o.Down.length≤1048576):M_bc n o=some (outOk n o):=by
 unfold M_bc outOk
 simp only [p_IsValidNetwork n hz,Option.bind_some,p_within]
 rcases bt (netOk n) with hn | hn
 · have hb:=netOk_b hn
   simp only [hn,cond_true,p_groups n hb.2.2,Option.bind_some,beq_len,p_ContainsFunc_i o.Down (fun x0=>M_dk x0 o) (fun d=>!wi d 0 o.Unit) (fun d=>by unfold M_dk; simp only [p_within,Option.bind_some]) ho]
   cases wi o.Unit 2 20 <;> cases decide (o.Down.length=(groupsP n).length) <;> simp
 · simp [hn]
theorem p_spec_Outage (n:TNetwork) (o:TOutage) (hz:z_Network n≤1048576) (ho:o.Down.length≤1048576):M_dq n o=some (outOk n o):=by
 unfold M_dq outOk
 simp only [p_l2Good n hz,Option.bind_some,p_l1In]
 rcases bt (netOk n) with hn | hn
 · have hb:=netOk_b hn
   simp only [hn,Bool.not_true,cond_false,p_l2Groups n hb.2.2,Option.bind_some,Bool.true_and]
   have e:((o.Down.length:Int) != ((groupsP n).length:Int))=!decide (o.Down.length=(groupsP n).length):=by rw [bne,beq_len]
   rw [e,iter_anyI (f:=M_ax o) o.Down (fun _ d=>!wi d 0 o.Unit) (.inr false) (.inl ()) (fun i x hx _=>by
    have hlt:=(List.getElem?_eq_some_iff.1 hx).1
    have h1:decide ((i:Int) < o.Down.length)=true:=by simp [hlt]
    simp only [M_ax,h1,cond_true,geti_nat,hx,p_l1In,Option.bind_some]
    rw [w64_eq (by omega) (by omega)]
    rcases bt (wi x 0 o.Unit) with e | e <;> simp only [e] <;> rfl) (by simp [M_ax]) (by omega),anyI_any]
   cases wi o.Unit 2 20 <;> cases decide (o.Down.length=(groupsP n).length) <;> cases (o.Down.any fun d=>!wi d 0 o.Unit) <;> rfl
 · simp [hn]
end Vs

namespace Vs
open Go
def bitG (_:Nat) (x:Int) (m:Int):Int:=bits .or .i64 m (IntKind.wrap .i64 (1 * 2 ^ (min (Int.toNat x) (IntKind.bits .i64))))
def maskP (l:List Int):Int:=foldI bitG 0 l 0
theorem p_l6Mask (l:List Int) (h0:∀ x∈l,0≤x∧x < 1048576) (hl:l.length≤1048576):M_bj l=some (maskP l):=by
 unfold M_bj
 have:iter (M_ab l) N0 (0,0)=some (maskP l):=by
  refine iter_foldI (f:=M_ab l) l (fun i (a:Int)=>(a,(i:Int))) bitG id (fun _ _=>True) (fun i a x hx _=>?_) (fun a _=>by simp [M_ab]) 0 trivial (by omega)
  have hlt:=(List.getElem?_eq_some_iff.1 hx).1
  have h1:decide ((i:Int) < l.length)=true:=by simp [hlt]
  have h2:=h0 x (List.mem_of_getElem? hx)
  have h3:IntKind.wrap .u64 x=x:=w64u_eq h2.1 (by omega)
  simp only [M_ab,h1,cond_true,geti_nat,hx,Option.bind_some,h3,grd_t h2.1]
  rw [w64_eq (n:=(i:Int)+1) (by omega) (by omega)]
  exact ⟨trivial,rfl⟩
 rw [this]; rfl
def wtG (u s:Int) (i:Nat) (d a:Int):Int:=if bits .and .i64 (Int.fdiv s (2 ^ (min i (IntKind.bits .i64)))) 1==1 then IntKind.wrap .i64 (a * d) else IntKind.wrap .i64 (a * IntKind.wrap .i64 (u - d))
def weightP (o:TOutage) (s:Int):Int:=foldI (wtG o.Unit s) 0 o.Down 1
theorem p_impl_weight (o:TOutage) (s:Int) (hl:o.Down.length≤1048576):M_bu o s=some (weightP o s):=by
 unfold M_bu
 have:iter (M_k o s) N0 (1,0)=some (weightP o s):=by
  refine iter_foldI (f:=M_k o s) o.Down (fun i (a:Int)=>(a,(i:Int))) (wtG o.Unit s) id (fun _ _=>True) (fun i a x hx _=>?_) (fun a _=>by simp [M_k]) 1 trivial (by omega)
  have hlt:=(List.getElem?_eq_some_iff.1 hx).1
  have h1:decide ((i:Int) < o.Down.length)=true:=by simp [hlt]
  have h2:(0:Int)≤(i:Int):=by omega
  simp only [M_k,h1,cond_true,geti_nat,hx,Option.bind_some,grd_t h2,Int.toNat_natCast]
  rw [w64_eq (n:=(i:Int)+1) (by omega) (by omega)]
  refine ⟨trivial,?_⟩
  unfold wtG
  rcases bt (bits .and .i64 (Int.fdiv s (2 ^ (min i (IntKind.bits .i64)))) 1==1) with e | e <;> simp only [e] <;> rfl
 rw [this]; rfl
theorem p_spec_weight (o:TOutage) (s:Int) (hl:o.Down.length≤1048576):M_cx o s=some (weightP o s):=by
 unfold M_cx
 have:iter (M_l o s) N0 (1,0)=some (weightP o s):=by
  refine iter_foldI (f:=M_l o s) o.Down (fun i (a:Int)=>(a,(i:Int))) (wtG o.Unit s) id (fun _ _=>True) (fun i a x hx _=>?_) (fun a _=>by simp [M_l]) 1 trivial (by omega)
  have hlt:=(List.getElem?_eq_some_iff.1 hx).1
  have h1:decide ((i:Int) < o.Down.length)=true:=by simp [hlt]
  have h2:(0:Int)≤(i:Int):=by omega
  have h3:IntKind.wrap .u64 (i:Int)=(i:Int):=w64u_eq h2 (by omega)
  simp only [M_l,h1,cond_true,geti_nat,hx,Option.bind_some,h3,grd_t h2,Int.toNat_natCast]
  rw [w64_eq (n:=(i:Int)+1) (by omega) (by omega)]
  refine ⟨trivial,?_⟩
  unfold wtG
  rcases bt (bits .and .i64 (Int.fdiv s (2 ^ (min i (IntKind.bits .i64)))) 1==1) with e | e <;> simp only [e] <;> rfl
 rw [this]; rfl
end Vs

namespace Vs
open Go
def gt (o:List Int) (v:Nat):Int:=o.getD v 0
def mn (a b:Int):Int:=if b < a then b else a
theorem mn_le (a b:Int):mn a b≤a∧mn a b≤b∧(mn a b=a∨mn a b=b):=by unfold mn; split <;> omega
theorem gt_set (o:List Int) (a v:Nat) (x:Int) (ha:a < o.length):gt (o.set a x) v=if v=a then x else gt o v:=by
 unfold gt
 rw [List.getD_eq_getElem?_getD,List.getD_eq_getElem?_getD,List.getElem?_set]
 by_cases h:a=v
 · subst h; simp [ha]
 · rw [if_neg h,if_neg (Ne.symm h)]
def relax (o:List Int) (a b:Nat):List Int:=(o.set a (mn (gt o a) (gt o b))).set b (mn (gt o a) (gt o b))
theorem relax_len (o:List Int) (a b:Nat):(relax o a b).length=o.length:=by simp [relax]
theorem gt_relax (o:List Int) (a b v:Nat) (ha:a < o.length) (hb:b < o.length):gt (relax o a b) v=if v=a∨v=b then mn (gt o a) (gt o b) else gt o v:=by
 unfold relax
 rw [gt_set _ _ _ _ (by simpa using hb),gt_set _ _ _ _ ha]
 by_cases h:v=b <;> by_cases h2:v=a <;> simp [h,h2]
def passP (al:Nat→Bool):Nat→List TFiber→List Int→List Int
 | _,[],o=>o
 | i,f::fs,o=>passP al (i+1) fs (if al i then relax o f.A.toNat f.B.toNat else o)
def Ed (fs:List TFiber) (N:Nat):Prop:=∀ f∈fs,f.A.toNat < N∧f.B.toNat < N
theorem Ed.tl {f:TFiber} {fs:List TFiber} {N:Nat} (h:Ed (f::fs) N):Ed fs N:=fun g hg=>h g (List.mem_cons_of_mem _ hg)
theorem Ed.hd {f:TFiber} {fs:List TFiber} {N:Nat} (h:Ed (f::fs) N):f.A.toNat < N∧f.B.toNat < N:=h f List.mem_cons_self
def one (al:Nat→Bool) (i:Nat) (f:TFiber) (o:List Int):List Int:=if al i then relax o f.A.toNat f.B.toNat else o
theorem one_len (al:Nat→Bool) (i:Nat) (f:TFiber) (o:List Int):(one al i f o).length=o.length:=by unfold one; split <;> simp [relax_len]
theorem pass_cons (al:Nat→Bool) (i:Nat) (f:TFiber) (fs:List TFiber) (o:List Int):passP al i (f::fs) o=passP al (i+1) fs (one al i f o):=rfl
theorem pass_len (al:Nat→Bool):∀ (fs:List TFiber) (i:Nat) (o:List Int),(passP al i fs o).length=o.length
 | [],_,_=>rfl
 | f::fs,i,o=>by rw [pass_cons,pass_len al fs,one_len]
theorem one_le (al:Nat→Bool) (i:Nat) (f:TFiber) (o:List Int) (h:f.A.toNat < o.length∧f.B.toNat < o.length) (v:Nat):gt (one al i f o) v≤gt o v:=by
 unfold one
 split
 · rw [gt_relax _ _ _ _ h.1 h.2]
   have:=mn_le (gt o f.A.toNat) (gt o f.B.toNat)
   split
   · rename_i e; rcases e with e | e <;> subst e <;> omega
   · omega
 · omega
theorem pass_le (al:Nat→Bool):∀ (fs:List TFiber) (i:Nat) (o:List Int),Ed fs o.length→∀ v,gt (passP al i fs o) v≤gt o v
 | [],_,_,_,v=>Int.le_refl _
 | f :: fs, i, o, h, v => by
   rw [pass_cons]
   have h1:=pass_le al fs (i+1) (one al i f o) (by rw [one_len]; exact h.tl) v
   have h2:=one_le al i f o h.hd v
   omega
def Flat (al:Nat→Bool) (i:Nat) (fs:List TFiber) (F:Nat→Int):Prop:=∀ j f,fs[j]?=some f→al (i+j)=true→F f.A.toNat=F f.B.toNat
theorem Flat.tl {al:Nat→Bool} {i:Nat} {f:TFiber} {fs:List TFiber} {F:Nat→Int} (h:Flat al i (f::fs) F):Flat al (i+1) fs F:=fun j g hg ha=>h (j+1) g (by simpa using hg) (by rw [show i+(j+1)=i+1+j by omega]; exact ha)
theorem Flat.hd {al:Nat→Bool} {i:Nat} {f:TFiber} {fs:List TFiber} {F:Nat→Int} (h:Flat al i (f::fs) F) (ha:al i=true):F f.A.toNat=F f.B.toNat:=h 0 f rfl ha
theorem one_ge {al:Nat→Bool} {i:Nat} {f:TFiber} {o:List Int} {F:Nat→Int} (h:f.A.toNat < o.length∧f.B.toNat < o.length) (hF:al i=true→F f.A.toNat=F f.B.toNat) (ho:∀ v,F v≤gt o v) (v:Nat):F v≤gt (one al i f o) v:=by
 unfold one
 split
 · rename_i ha
   rw [gt_relax _ _ _ _ h.1 h.2]
   have:=mn_le (gt o f.A.toNat) (gt o f.B.toNat)
   have e:=hF ha
   have h1:=ho f.A.toNat
   have h2:=ho f.B.toNat
   split
   · rename_i e'; rcases e' with e' | e' <;> subst e' <;> omega
   · exact ho v
 · exact ho v
theorem pass_ge {al:Nat→Bool} {F:Nat→Int}:∀ (fs:List TFiber) (i:Nat) (o:List Int),Ed fs o.length→Flat al i fs F→(∀ v,F v≤gt o v)→∀ v,F v≤gt (passP al i fs o) v
 | [],_,_,_,_,ho,v=>ho v
 | f :: fs, i, o, h, hF, ho, v => by
   rw [pass_cons]
   exact pass_ge fs (i+1) _ (by rw [one_len]; exact h.tl) hF.tl (fun v=>one_ge h.hd hF.hd ho v) v
theorem pass_hit {al:Nat→Bool} {F:Nat→Int}:∀ (fs:List TFiber) (i:Nat) (o:List Int),Ed fs o.length→Flat al i fs F→(∀ v,F v≤gt o v) →
 ∀ j f,fs[j]?=some f→al (i+j)=true→(gt o f.A.toNat=F f.A.toNat∨gt o f.B.toNat=F f.B.toNat)→gt (passP al i fs o) f.A.toNat=F f.A.toNat∧gt (passP al i fs o) f.B.toNat=F f.B.toNat
 | [],_,_,_,_,_,j,f,hf,_,_=>by simp at hf
 | g :: fs, i, o, h, hF, ho, j, f, hf, ha, hx => by
   have ho':=fun v=>one_ge (al:=al) (i:=i) h.hd hF.hd ho v
   have hl:=one_le al i g o h.hd
   have hEd:Ed fs (one al i g o).length:=by rw [one_len]; exact h.tl
   rw [pass_cons]
   cases j with
   | zero =>
     simp at hf; subst hf
     have e:=hF.hd ha
     have hm:=mn_le (gt o g.A.toNat) (gt o g.B.toNat)
     have h1:=ho g.A.toNat
     have h2:=ho g.B.toNat
     have ga:gt (one al i g o) g.A.toNat=mn (gt o g.A.toNat) (gt o g.B.toNat):=by
      have ha0:al i=true:=ha; unfold one; rw [if_pos ha0,gt_relax _ _ _ _ h.hd.1 h.hd.2,if_pos (.inl rfl)]
     have gb:gt (one al i g o) g.B.toNat=mn (gt o g.A.toNat) (gt o g.B.toNat):=by
      have ha0:al i=true:=ha; unfold one; rw [if_pos ha0,gt_relax _ _ _ _ h.hd.1 h.hd.2,if_pos (.inr rfl)]
     have p1:=pass_ge fs (i+1) _ hEd hF.tl ho' g.A.toNat
     have p2:=pass_ge fs (i+1) _ hEd hF.tl ho' g.B.toNat
     have q1:=pass_le al fs (i+1) _ hEd g.A.toNat
     have q2:=pass_le al fs (i+1) _ hEd g.B.toNat
     rcases hx with hx | hx <;> omega
   | succ j =>
     refine pass_hit fs (i+1) _ hEd hF.tl ho' j f (by simpa using hf) (by rw [show i+1+j=i+(j+1) by omega]; exact ha) ?_
     have l1:=hl f.A.toNat
     have l2:=hl f.B.toNat
     have g1:=ho' f.A.toNat
     have g2:=ho' f.B.toNat
     rcases hx with hx | hx
     · left; omega
     · right; omega
def Clo (al:Nat→Bool) (i:Nat) (fs:List TFiber) (X:Nat→Prop):Prop:=∀ j f,fs[j]?=some f→al (i+j)=true→(X f.A.toNat↔X f.B.toNat)
theorem pass_clo {al:Nat→Bool} {X:Nat→Prop}:∀ (fs:List TFiber) (i:Nat) (o:List Int),Ed fs o.length→Clo al i fs X→(∀ v,v < o.length→(X v↔X (gt o v).toNat))→∀ v,v < o.length→(X v↔X (gt (passP al i fs o) v).toNat)
 | [],_,_,_,_,ho,v,hv=>ho v hv
 | f :: fs, i, o, h, hX, ho, v, hv => by
   rw [pass_cons]
   refine pass_clo fs (i+1) _ (by rw [one_len]; exact h.tl) (fun j g hg ha=>hX (j+1) g (by simpa using hg) (by rw [show i+(j+1)=i+1+j by omega]; exact ha)) (fun v hv=>?_) v (by rw [one_len]; exact hv)
   rw [one_len] at hv
   unfold one
   split
   · rename_i ha
     rw [gt_relax _ _ _ _ h.hd.1 h.hd.2]
     have e:=hX 0 f rfl ha
     have e1:=ho f.A.toNat h.hd.1
     have e2:=ho f.B.toNat h.hd.2
     split
     · rename_i e'
       rcases (mn_le (gt o f.A.toNat) (gt o f.B.toNat)).2.2 with m | m <;> rw [m] <;> rcases e' with e' | e' <;> subst e'
       · exact e1
       · rw [← e]; exact e1
       · rw [e]; exact e2
       · exact e2
     · exact ho v hv
   · exact ho v hv
theorem pass_rng {al:Nat→Bool} {N:Int}:∀ (fs:List TFiber) (i:Nat) (o:List Int),Ed fs o.length→(∀ v,v < o.length→0≤gt o v∧gt o v < N)→∀ v,v < o.length→0≤gt (passP al i fs o) v∧gt (passP al i fs o) v < N
 | [],_,_,_,ho,v,hv=>ho v hv
 | f :: fs, i, o, h, ho, v, hv => by
   rw [pass_cons]
   refine pass_rng fs (i+1) _ (by rw [one_len]; exact h.tl) (fun v hv=>?_) v (by rw [one_len]; exact hv)
   rw [one_len] at hv
   unfold one
   split
   · rw [gt_relax _ _ _ _ h.hd.1 h.hd.2]
     have e1:=ho f.A.toNat h.hd.1
     have e2:=ho f.B.toNat h.hd.2
     split
     · rcases (mn_le (gt o f.A.toNat) (gt o f.B.toNat)).2.2 with m | m <;> rw [m] <;> assumption
     · exact ho v hv
   · exact ho v hv
theorem gt_ext {o o':List Int} (hl:o.length=o'.length) (h:∀ v,gt o v=gt o' v):o=o':=by
 apply List.ext_getElem hl
 intro i h1 h2
 have:=h i
 unfold gt at this
 rw [List.getD_eq_getElem?_getD,List.getD_eq_getElem?_getD,List.getElem?_eq_getElem h1,List.getElem?_eq_getElem h2] at this
 exact this
theorem pass_fix {al:Nat→Bool}:∀ (fs:List TFiber) (i:Nat) (o:List Int),Ed fs o.length→(∀ v,gt (passP al i fs o) v=gt o v)→Flat al i fs (gt o)
 | [],_,_,_,_,j,f,hf,_=>by simp at hf
 | g :: fs, i, o, h, hfix, j, f, hf, ha => by
   rw [pass_cons] at hfix
   have hl:=one_le al i g o h.hd
   have hEd:Ed fs (one al i g o).length:=by rw [one_len]; exact h.tl
   have hp:=pass_le al fs (i+1) (one al i g o) hEd
   have e:one al i g o=o:=gt_ext (one_len ..) fun v=>by have:=hl v; have:=hp v; have:=hfix v; omega
   cases j with
   | zero =>
     simp at hf; subst hf
     have ga:gt (one al i g o) g.A.toNat=mn (gt o g.A.toNat) (gt o g.B.toNat):=by
      have ha0:al i=true:=ha; unfold one; rw [if_pos ha0,gt_relax _ _ _ _ h.hd.1 h.hd.2,if_pos (.inl rfl)]
     have gb:gt (one al i g o) g.B.toNat=mn (gt o g.A.toNat) (gt o g.B.toNat):=by
      have ha0:al i=true:=ha; unfold one; rw [if_pos ha0,gt_relax _ _ _ _ h.hd.1 h.hd.2,if_pos (.inr rfl)]
     rw [e] at ga gb
     omega
   | succ j =>
     rw [e] at hfix
     exact pass_fix fs (i+1) o h.tl hfix j f (by simpa using hf) (by rw [show i+1+j=i+(j+1) by omega]; exact ha)
def rep (P:List Int→List Int):Nat→List Int→List Int
 | 0,o=>o
 | n+1,o=>P (rep P n o)
def initP (N:Nat):List Int:=(List.range N).map fun i:Nat=>(i:Int)
theorem gt_init (N v:Nat) (h:v < N):gt (initP N) v=v:=by unfold gt initP; simp [h]
def labels (al:Nat→Bool) (fs:List TFiber) (N:Nat):List Int:=rep (passP al 0 fs) N (initP N)
theorem rep_len (al:Nat→Bool) (fs:List TFiber) (o:List Int):∀ n,(rep (passP al 0 fs) n o).length=o.length
 | 0=>rfl
 | n+1=>by rw [rep,pass_len,rep_len al fs o n]
theorem conv {al:Nat→Bool} {fs:List TFiber} {N:Nat} (hE:Ed fs N) (hN:0 < N) {k:Nat} {F:List Int} (hF:F=rep (passP al 0 fs) k (initP N)) (hfix:passP al 0 fs F=F):labels al fs N=F:=by
 have hlen:(initP N).length=N:=by simp [initP]
 have hrl:∀ t,(rep (passP al 0 fs) t (initP N)).length=N:=fun t=>by rw [rep_len,hlen]
 have hFl:F.length=N:=by rw [hF]; exact hrl k
 have hflat:Flat al 0 fs (gt F):=pass_fix fs 0 F (by rw [hFl]; exact hE) fun v=>by rw [hfix]
 -- going down
 have hdec:∀ t v,gt (rep (passP al 0 fs) (t+1) (initP N)) v≤gt (rep (passP al 0 fs) t (initP N)) v:=fun t v=>pass_le al fs 0 _ (by rw [hrl]; exact hE) v
 have hle0:∀ t v,gt (rep (passP al 0 fs) t (initP N)) v≤gt (initP N) v:=by
  intro t
  induction t with
  | zero=>intro v; exact Int.le_refl _
  | succ t ih=>intro v; have:=hdec t v; have:=ih v; omega
 have hinvF:∀ X:Nat→Prop,Clo al 0 fs X→∀ t v,v < N→(X v↔X (gt (rep (passP al 0 fs) t (initP N)) v).toNat):=by
  intro X hX t
  induction t with
  | zero=>intro v hv; rw [rep,gt_init N v hv]; simp
  | succ t ih =>
    intro v hv
    exact pass_clo fs 0 _ (by rw [hrl]; exact hE) hX (fun v hv=>ih v (by rw [hrl] at hv; exact hv)) v (by rw [hrl]; exact hv)
 have hrng:∀ t v,v < N→0≤gt (rep (passP al 0 fs) t (initP N)) v∧gt (rep (passP al 0 fs) t (initP N)) v < N:=by
  intro t
  induction t with
  | zero=>intro v hv; rw [rep,gt_init N v hv]; omega
  | succ t ih =>
    intro v hv
    exact pass_rng fs 0 _ (by rw [hrl]; exact hE) (fun v hv=>ih v (by rw [hrl] at hv; exact hv)) v (by rw [hrl]; exact hv)
 -- F is below all
 have hge:∀ t v,gt F v≤gt (rep (passP al 0 fs) t (initP N)) v:=by
  have base:∀ v,gt F v≤gt (initP N) v:=fun v=>by rw [hF]; exact hle0 k v
  intro t
  induction t with
  | zero=>exact base
  | succ t ih=>intro v; exact pass_ge fs 0 _ (by rw [hrl]; exact hE) hflat ih v
 have hFF:∀ v,v < N→gt F (gt F v).toNat=gt F v:=by
  intro v hv
  have h1:=hinvF (fun w=>gt F w=gt F v) (fun j f hf ha=>by show gt F f.A.toNat=gt F v↔gt F f.B.toNat=gt F v; rw [hflat j f hf ha]) k v hv
  rw [← hF] at h1
  exact h1.1 rfl
 have hfin:∀ t,(∀ v,v < N→gt (rep (passP al 0 fs) t (initP N)) v=gt F v)→rep (passP al 0 fs) t (initP N)=F:=by
  intro t h
  refine gt_ext (by rw [hrl,hFl]) fun v=>?_
  by_cases hv:v < N
  · exact h v hv
  · unfold gt
    rw [List.getD_eq_getElem?_getD,List.getD_eq_getElem?_getD,List.getElem?_eq_none (by rw [hrl]; omega),List.getElem?_eq_none (by rw [hFl]; omega)]
 -- counting
 let S:Nat→Nat→Bool:=fun t v=>decide (gt (rep (passP al 0 fs) t (initP N)) v=gt F v)
 have hmono:∀ t v,v < N→S t v=true→S (t+1) v=true:=by
  intro t v hv h
  simp only [S,decide_eq_true_eq] at h ⊢
  have:=hdec t v
  have:=hge (t+1) v
  omega
 have hcount:∀ t,t+1≤(List.range N).countP (S t)∨(List.range N).countP (S t)=N:=by
  intro t
  induction t with
  | zero =>
    left
    refine List.countP_pos_iff.2 ⟨0,List.mem_range.2 hN,?_⟩
    refine decide_eq_true (?_:gt (initP N) 0=gt F 0)
    have h1:=hge 0 0
    have h2:=hrng k 0 hN
    rw [← hF] at h2
    rw [rep,gt_init N 0 hN] at h1
    have e0:=gt_init N 0 hN
    have:((0:Nat):Int)=0:=rfl
    omega
  | succ t ih =>
    have hle:(List.range N).countP (S t)≤(List.range N).countP (S (t+1)):=List.countP_mono_left fun v hv h=>hmono t v (List.mem_range.1 hv) h
    have hmax:(List.range N).countP (S (t+1))≤N:=by have:=List.countP_le_length (p:=S (t+1)) (l:=List.range N); simpa using this
    rcases ih with ih | ih
    · by_cases hall:∀ v,v < N→S t v=true
      · right
        have:(List.range N).countP (S (t+1))=(List.range N).length:=List.countP_eq_length.2 fun v hv=>hmono t v (List.mem_range.1 hv) (hall v (List.mem_range.1 hv))
        simpa using this
      · left
        obtain ⟨v,hv⟩:=Classical.not_forall.1 hall
        obtain ⟨hv1,hv2⟩:=Classical.not_imp.1 hv
        -- a fiber between the settled and the others
        have hcr:¬ Clo al 0 fs (fun w=>S t w=true):=by
         intro hclo
         have h1:=hinvF _ hclo k v hv1
         rw [← hF] at h1
         apply hv2
         rw [h1]
         have hr:=hrng k v hv1
         rw [← hF] at hr
         have hm:(gt F v).toNat < N:=by omega
         have h2:=hge t (gt F v).toNat
         have h3:=hle0 t (gt F v).toNat
         rw [gt_init N _ hm] at h3
         have h4:=hFF v hv1
         simp only [S,decide_eq_true_eq]
         omega
        have:∃ j f,fs[j]?=some f∧al (0+j)=true∧¬ (S t f.A.toNat=true↔S t f.B.toNat=true):=by
         apply Classical.byContradiction
         intro hno
         apply hcr
         intro j f hf ha
         apply Classical.byContradiction
         intro hne
         exact hno ⟨j,f,hf,ha,hne⟩
        obtain ⟨j,f,hf,ha,hne⟩:=this
        have hEf:=hE f (List.mem_of_getElem? hf)
        have hx:gt (rep (passP al 0 fs) t (initP N)) f.A.toNat=gt F f.A.toNat∨gt (rep (passP al 0 fs) t (initP N)) f.B.toNat=gt F f.B.toNat:=by
         apply Classical.byContradiction
         intro hno
         apply hne
         simp only [S,decide_eq_true_eq]
         constructor
         · intro h; exact (hno (.inl h)).elim
         · intro h; exact (hno (.inr h)).elim
        have hhit:=pass_hit fs 0 _ (by rw [hrl]; exact hE) hflat (hge t) j f hf ha hx
        obtain ⟨w,hwN,hw1,hw2⟩:∃ w,w < N∧S t w=false∧S (t+1) w=true:=by
         cases eA:S t f.A.toNat with
         | false=>exact ⟨f.A.toNat,hEf.1,eA,by simp only [S,decide_eq_true_eq]; exact hhit.1⟩
         | true =>
           cases eB:S t f.B.toNat with
           | false=>exact ⟨f.B.toNat,hEf.2,eB,by simp only [S,decide_eq_true_eq]; exact hhit.2⟩
           | true=>rw [eA,eB] at hne; exact (hne Iff.rfl).elim
        have hlt:(List.range N).countP (S t) < (List.range N).countP (S (t+1)):=by
         have e1:List.range N=List.range w++(w::(List.range (N - w - 1)).map (w+1+·)):=by
          have:N=w+(1+(N - w - 1)):=by omega
          conv=>lhs; rw [this,List.range_add,List.range_add]
          simp [Function.comp_def,Nat.add_assoc]
         rw [e1]
         simp only [List.countP_append,List.countP_cons,hw1,hw2]
         have a1:(List.range w).countP (S t)≤(List.range w).countP (S (t+1)):=List.countP_mono_left fun v hv h=>hmono t v (by have:=List.mem_range.1 hv; omega) h
         have a2:((List.range (N - w - 1)).map (w+1+·)).countP (S t)≤((List.range (N - w - 1)).map (w+1+·)).countP (S (t+1)):=List.countP_mono_left fun v hv h=>by
          obtain ⟨u,hu,rfl⟩:=List.mem_map.1 hv
          have:=List.mem_range.1 hu
          exact hmono t _ (by omega) h
         simp only [↓reduceIte,Bool.false_eq_true]
         omega
        omega
    · right; omega
 have hall:(List.range N).countP (S N)=N:=by
  rcases hcount N with h | h
  · have:=List.countP_le_length (p:=S N) (l:=List.range N)
    simp at this; omega
  · exact h
 refine hfin N fun v hv=>?_
 have:∀ v∈List.range N,S N v=true:=List.countP_eq_length.1 (by simpa using hall)
 simpa [S] using this v (List.mem_range.2 hv)
end Vs

namespace Vs
open Go
def sm (g:Nat→Nat):Nat→Nat
 | 0=>0
 | n+1=>sm g n+g n
theorem sm_le {f g:Nat→Nat}:∀ (n:Nat),(∀ v,v < n→f v≤g v)→sm f n≤sm g n
 | 0,_=>Nat.le_refl _
 | n + 1, h => by
   have h1:=sm_le n fun v hv=>h v (by omega)
   have h2:=h n (by omega)
   simp only [sm]; omega
theorem sm_lt {f g:Nat→Nat}:∀ (n:Nat),(∀ v,v < n→f v≤g v)→(∃ w,w < n∧f w < g w)→sm f n < sm g n
 | 0,_,h=>by obtain ⟨w,hw,_⟩:=h; omega
 | n + 1, h, ⟨w, hw, hlt⟩ => by
   have h2:=h n (by omega)
   simp only [sm]
   by_cases e:w=n
   · subst e
     have h1:=sm_le (f:=f) (g:=g) w fun v hv=>h v (by omega)
     omega
   · have:=sm_lt n (fun v hv=>h v (by omega)) ⟨w,by omega,hlt⟩
     omega
theorem rep_comm (P:List Int→List Int):∀ (n:Nat) (o:List Int),rep P n (P o)=P (rep P n o)
 | 0,_=>rfl
 | n+1,o=>by rw [rep,rep_comm P n o]; rfl
theorem foldI_rep {α:Type} (P:List Int→List Int):∀ (xs:List α) (k:Nat) (o:List Int),foldI (fun _ (_:α) o=>P o) k xs o=rep P xs.length o
 | [],_,_=>rfl
 | x :: xs, k, o => by
   rw [foldI,foldI_rep P xs]
   exact rep_comm P xs.length o
theorem foldI_init {α:Type}:∀ (xs:List α) (k:Nat) (l:List Int),foldI (fun i (_:α) (l:List Int)=>l++[(i:Int)]) k xs l=l++(List.range' k xs.length).map fun i:Nat=>(i:Int)
 | [],_,l=>by simp [foldI]
 | x :: xs, k, l => by
   rw [foldI,foldI_init xs]
   simp [List.range'_succ,List.append_assoc]
theorem initP_eq {α:Type} (xs:List α):foldI (fun i (_:α) (l:List Int)=>l++[(i:Int)]) 0 xs []=initP xs.length:=by
 rw [foldI_init,List.nil_append,initP,List.range_eq_range']
theorem initP_len (N:Nat):(initP N).length=N:=by simp [initP]
theorem foldI_pass (al:Nat→Bool):∀ (fs:List TFiber) (k:Nat) (o:List Int),foldI (fun i f o=>one al i f o) k fs o=passP al k fs o
 | [],_,_=>rfl
 | f::fs,k,o=>by rw [foldI,pass_cons]; exact foldI_pass al fs (k+1) _
theorem gt_at {o:List Int} {i:Nat} (h:i < o.length):o[i]?=some (gt o i):=by
 unfold gt
 rw [List.getD_eq_getElem?_getD,List.getElem?_eq_getElem h]; rfl
end Vs

namespace Vs
open Go
theorem p_ContI (xs:List Int) (v:Int) (hl:xs.length≤1048576):M_bo xs v=some (decide (v∈xs)):=by
 unfold M_bo M_eb
 rw [iter_findI (f:=M_av xs v) xs (fun _ x=>v==x) (fun i _=>(i:Int)) () (fun i x hx _=>by
  have hlt:=(List.getElem?_eq_some_iff.1 hx).1
  have h1:decide ((i:Int) < xs.length)=true:=by simp [hlt]
  simp only [M_av,h1,cond_true,geti_nat,hx,Option.bind_some]
  rw [w64_eq (by omega) (by omega)]
  cases v==x <;> rfl) (by simp [M_av]) (by omega)]
 cases e:findI (fun _ x=>v==x) xs with
 | none =>
   have:=findI_none.1 e
   have h:¬ v∈xs:=fun hm=>by
    obtain ⟨i,hi⟩:=List.getElem?_of_mem hm
    have:=this i v hi
    simp at this
   rw [decide_eq_false h]; rfl
 | some q =>
   obtain ⟨i,x⟩:=q
   obtain ⟨h1,h2,_⟩:=findI_some.1 e
   have h:v∈xs:=by
    have:=eq_of_beq h2
    rw [this]; exact List.mem_of_getElem? h1
   rw [decide_eq_true h]; simp
theorem p_init1 (n:TNetwork) (hN:n.Nodes.length≤1048576):iter (M_ad n) N0 (0,[])=some (initP n.Nodes.length):=by
 rw [← initP_eq n.Nodes]
 exact iter_foldI (f:=M_ad n) n.Nodes (fun i (l:List Int)=>((i:Int),l)) (fun i _ l=>l++[(i:Int)]) id (fun i l=>l.length=i) (fun i l x hx hI=>by
  have hlt:=(List.getElem?_eq_some_iff.1 hx).1
  have h1:decide ((i:Int) < n.Nodes.length)=true:=by simp [hlt]
  refine ⟨by simp [hI],?_⟩
  simp only [M_ad,h1,cond_true,bnd,hI]
  rw [grd_t (by omega),w64_eq (by omega) (by omega)]
  rfl) (fun l hI=>by simp [M_ad]) [] rfl (by omega)
def EdI (fs:List TFiber) (N:Nat):Prop:=∀ f∈fs,0≤f.A∧f.A < N∧0≤f.B∧f.B < N
theorem EdI.ed {fs:List TFiber} {N:Nat} (h:EdI fs N):Ed fs N:=fun f hf=>by have:=h f hf; omega
def alL (gone:List Int) (i:Nat):Bool:=!decide ((i:Int)∈gone)
theorem p_pass (n:TNetwork) (gone:List Int) (o:List Int) (hE:EdI n.Fibers o.length) (hF:n.Fibers.length≤1048576) (hg:gone.length≤1048576) :
 iter (M_f n gone) N0 (0,o)=some (passP (alL gone) 0 n.Fibers o):=by
 rw [← foldI_pass]
 refine iter_foldI (f:=M_f n gone) n.Fibers (fun i (l:List Int)=>((i:Int),l)) (fun i f o=>one (alL gone) i f o) id (fun _ l=>l.length=o.length) (fun i l f hf hI=>?_) (fun l hI=>by simp [M_f]) o rfl (by omega)
 have hlt:=(List.getElem?_eq_some_iff.1 hf).1
 have h1:decide ((i:Int) < n.Fibers.length)=true:=by simp [hlt]
 refine ⟨by rw [one_len]; exact hI,?_⟩
 have hEf:=hE f (List.mem_of_getElem? hf)
 rw [← hI] at hEf
 simp only [M_f,h1,cond_true,geti_nat,hf,Option.bind_some,p_ContI gone i hg,w64_eq (n:=(i:Int)+1) (by omega) (by omega)]
 unfold one
 rcases bt (alL gone i) with e | e
 · have e':(!decide ((i:Int)∈gone))=true:=e
   rw [e',cond_true,grd_t ⟨hEf.1,hEf.2.1⟩,grd_t ⟨hEf.2.2.1,hEf.2.2.2⟩]
   simp only [Option.bind_some,gt_at (show f.A.toNat < l.length by omega),gt_at (show f.B.toNat < l.length by omega),bnd,e,if_true]
   rw [List.getElem?_eq_getElem (by simp; omega)]
   rfl
 · have e':(!decide ((i:Int)∈gone))=false:=e
   rw [e',cond_false,e]; rfl
theorem p_components (n:TNetwork) (gone:List Int) (hE:EdI n.Fibers n.Nodes.length) (hN:n.Nodes.length≤1048576) (hF:n.Fibers.length≤1048576) (hg:gone.length≤1048576) :
 M_cc n gone=some (labels (alL gone) n.Fibers n.Nodes.length):=by
 unfold M_cc
 rw [p_init1 n hN]
 simp only [Option.bind_some]
 have:iter (M_ae n gone) N0 (0,initP n.Nodes.length)=some (labels (alL gone) n.Fibers n.Nodes.length):=by
  unfold labels
  rw [← foldI_rep (passP (alL gone) 0 n.Fibers) n.Nodes 0 (initP n.Nodes.length)]
  refine iter_foldI (f:=M_ae n gone) n.Nodes (fun i (l:List Int)=>((i:Int),l)) (fun _ _ o=>passP (alL gone) 0 n.Fibers o) id (fun _ l=>l.length=n.Nodes.length) (fun i l x hx hI=>?_) (fun l hI=>by simp [M_ae]) _ (initP_len _) (by omega)
  have hlt:=(List.getElem?_eq_some_iff.1 hx).1
  have h1:decide ((i:Int) < n.Nodes.length)=true:=by simp [hlt]
  refine ⟨by rw [pass_len]; exact hI,?_⟩
  simp only [M_ae,h1,cond_true]
  rw [p_pass n gone l (by rw [hI]; exact hE) hF hg,w64_eq (by omega) (by omega)]
  rfl
 rw [this]; rfl
end Vs

namespace Vs
open Go
theorem bits64:IntKind.bits .i64=64:=rfl
theorem ofNat64 (a:Nat):BitVec.ofInt 64 (a:Int)=BitVec.ofNat 64 a:=by
 apply BitVec.eq_of_toNat_eq
 simp [BitVec.toNat_ofInt]
theorem bor (a b:Nat) (ha:a < 2 ^ 62) (hb:b < 2 ^ 62):bits .or .i64 (a:Int) (b:Int)=((a ||| b:Nat):Int):=by
 have hab:a ||| b < 2 ^ 62:=Nat.or_lt_two_pow ha hb
 show IntKind.wrap .i64 ((BitVec.ofInt 64 (a:Int) ||| BitVec.ofInt 64 (b:Int)).toNat:Int)=_
 rw [ofNat64,ofNat64,BitVec.toNat_or,BitVec.toNat_ofNat,BitVec.toNat_ofNat,Nat.mod_eq_of_lt (by omega),Nat.mod_eq_of_lt (by omega),w64_eq (by omega) (by omega)]
theorem tbit (m i:Nat) (hi:i < 64) (hm:m < 2 ^ 62):(bits .and .i64 (Int.fdiv (m:Int) (2 ^ (min i (IntKind.bits .i64)))) 1==1)=m.testBit i:=by
 have e1:min i (IntKind.bits .i64)=i:=by rw [bits64]; omega
 have e2:Int.fdiv (m:Int) (2 ^ i)=((m / 2 ^ i:Nat):Int):=by
  rw [Int.fdiv_eq_ediv_of_nonneg _ (by exact_mod_cast Nat.zero_le (2 ^ i))]
  simp
 have hlt:m / 2 ^ i < 2 ^ 62:=Nat.lt_of_le_of_lt (Nat.div_le_self ..) hm
 rw [e1,e2]
 have e3:bits .and .i64 ((m / 2 ^ i:Nat):Int) 1=((m / 2 ^ i % 2:Nat):Int):=by
  show IntKind.wrap .i64 ((BitVec.ofInt 64 ((m / 2 ^ i:Nat):Int) &&& BitVec.ofInt 64 ((1:Nat):Int)).toNat:Int)=_
  rw [ofNat64,ofNat64,BitVec.toNat_and,BitVec.toNat_ofNat,BitVec.toNat_ofNat,Nat.mod_eq_of_lt (by omega),Nat.mod_eq_of_lt (by omega),Nat.and_one_is_mod,w64_eq (by omega) (by omega)]
 rw [e3,Nat.testBit_eq_decide_div_mod_eq]
 have:=Nat.mod_two_eq_zero_or_one (m / 2 ^ i)
 rcases this with h | h <;> rw [h] <;> rfl
theorem shl1 (x:Nat) (hx:x < 62):IntKind.wrap .i64 (1 * 2 ^ (min x (IntKind.bits .i64)))=((2 ^ x:Nat):Int):=by
 have e1:min x (IntKind.bits .i64)=x:=by rw [bits64]; omega
 have h:2 ^ x < 2 ^ 62:=Nat.pow_lt_pow_right (by omega) hx
 have e2:((1:Int) * 2 ^ x)=((2 ^ x:Nat):Int):=by simp
 have key:∀ q:Nat,q < 2 ^ 62→IntKind.wrap .i64 (q:Int)=(q:Int):=fun q hq=>w64_eq (by omega) (by omega)
 rw [e1,e2,key _ h]
theorem mask_spec:∀ (g:List Int) (k:Nat) (m:Nat),(∀ x∈g,0≤x∧x < 62)→m < 2 ^ 62→∃ m':Nat,foldI bitG k g (m:Int)=(m':Int)∧m' < 2 ^ 62∧∀ i,m'.testBit i=(m.testBit i||decide ((i:Int)∈g))
 | [],_,m,_,hm=>⟨m,rfl,hm,fun i=>by simp⟩
 | x :: g, k, m, hg, hm => by
   have hx:=hg x List.mem_cons_self
   have hp:2 ^ x.toNat < 2 ^ 62:=Nat.pow_lt_pow_right (by omega) (by omega)
   have e:bitG k x (m:Int)=((m ||| 2 ^ x.toNat:Nat):Int):=by
    unfold bitG
    rw [shl1 x.toNat (by omega),bor m _ hm hp]
   obtain ⟨m',h1,h2,h3⟩:=mask_spec g (k+1) (m ||| 2 ^ x.toNat) (fun y hy=>hg y (List.mem_cons_of_mem _ hy)) (Nat.or_lt_two_pow hm hp)
   refine ⟨m',by rw [foldI,e]; exact h1,h2,fun i=>?_⟩
   rw [h3,Nat.testBit_or,Nat.testBit_two_pow,Bool.or_assoc]
   congr 1
   by_cases h:x.toNat=i
   · have:x=(i:Int):=by omega
     simp [this]
   · have:¬ ((i:Int)=x):=by omega
     simp [h,this]
theorem maskP_spec (g:List Int) (hg:∀ x∈g,0≤x∧x < 62):∃ m:Nat,maskP g=(m:Int)∧m < 2 ^ 62∧∀ i,m.testBit i=decide ((i:Int)∈g):=by
 obtain ⟨m,h1,h2,h3⟩:=mask_spec g 0 0 hg (by decide)
 exact ⟨m,h1,h2,fun i=>by rw [h3]; simp⟩
def bitB (s:Int) (i:Nat):Bool:=bits .and .i64 (Int.fdiv s (2 ^ (min i (IntKind.bits .i64)))) 1==1
def goneL (s:Int) (gr:List (List Int)):List Int:=foldI (fun i g (a:List Int)=>if bitB s i then a++g else a) 0 gr []
def goneM (s:Int) (gr:List (List Int)):Int:=foldI (fun i g (a:Int)=>if bitB s i then bits .or .i64 a (maskP g) else a) 0 gr 0
theorem gone_spec (s:Int):∀ (gr:List (List Int)) (k:Nat) (l:List Int) (m:Nat),(∀ g∈gr,∀ x∈g,0≤x∧x < 62)→m < 2 ^ 62→(∀ i,m.testBit i=decide ((i:Int)∈l)) →
 ∃ m' : Nat, foldI (fun i g (a : Int) => if bitB s i then bits .or .i64 a (maskP g) else a) k gr (m : Int) = (m' : Int) ∧ m' < 2 ^ 62 ∧
   ∀ i,m'.testBit i=decide ((i:Int)∈foldI (fun i g (a:List Int)=>if bitB s i then a++g else a) k gr l)
 | [],_,l,m,_,hm,h=>⟨m,rfl,hm,h⟩
 | g :: gr, k, l, m, hg, hm, h => by
   simp only [foldI]
   rcases bt (bitB s k) with e | e
   · obtain ⟨q,q1,q2,q3⟩:=maskP_spec g (hg g List.mem_cons_self)
     simp only [e,if_true,q1,bor m q hm q2]
     exact gone_spec s gr (k+1) (l++g) (m ||| q) (fun g' h'=>hg g' (List.mem_cons_of_mem _ h')) (Nat.or_lt_two_pow hm q2) fun i=>by
      rw [Nat.testBit_or,h,q3]; simp
   · simp only [e,Bool.false_eq_true,if_false]
     exact gone_spec s gr (k+1) l m (fun g' h'=>hg g' (List.mem_cons_of_mem _ h')) hm h
end Vs

namespace Vs
open Go
theorem wrap_rng (x:Int):-9223372036854775808≤IntKind.wrap .i64 x∧IntKind.wrap .i64 x≤9223372036854775807:=by
 rw [IntKind.wrap_i64]; omega
theorem idxs_rng {r:Int} {fs:List TFiber} (h:fs.length≤14):∀ x∈idxs r 0 fs,0≤x∧x < 14:=by
 intro x hx
 obtain ⟨j,f,hj,_,rfl⟩:=(idxs_mem r fs 0 x).1 hx
 have:=(List.getElem?_eq_some_iff.1 hj).1
 omega
theorem groups_rng {n:TNetwork} (h:n.Fibers.length≤14):∀ g∈groupsP n,g.length≤14∧∀ x∈g,0≤x∧x < 14:=by
 intro g hg
 unfold groupsP at hg
 rw [List.mem_append] at hg
 rcases hg with hg | hg
 · obtain ⟨r,_,rfl⟩:=List.mem_map.1 (List.mem_filter.1 hg).1
   exact ⟨Nat.le_trans (idxs_len ..) h,idxs_rng h⟩
 · obtain ⟨x,hx,rfl⟩:=List.mem_map.1 hg
   exact ⟨by simp,fun y hy=>by rw [List.mem_singleton.1 hy]; exact idxs_rng h x hx⟩
theorem goneL_len (s:Int):∀ (gr:List (List Int)) (k:Nat) (l:List Int),(∀ g∈gr,g.length≤14)→(foldI (fun i g (a:List Int)=>if bitB s i then a++g else a) k gr l).length≤l.length+14 * gr.length
 | [],_,l,_=>by simp [foldI]
 | g :: gr, k, l, h => by
   have h1:=h g List.mem_cons_self
   simp only [foldI]
   split
   · have:=goneL_len s gr (k+1) (l++g) fun g' h'=>h g' (List.mem_cons_of_mem _ h')
     simp only [List.length_append,List.length_cons] at this ⊢; omega
   · have:=goneL_len s gr (k+1) l fun g' h'=>h g' (List.mem_cons_of_mem _ h')
     simp only [List.length_cons]; omega
def conP (n:TNetwork) (o:TOutage) (hp:List Int→Bool):Int :=
 foldI (fun i (_:Nat) (a:Int)=>if hp (goneL (i:Int) (groupsP n)) then IntKind.wrap .i64 (a+weightP o (i:Int)) else a) 0 (List.range (2 ^ (groupsP n).length)) 0
theorem p_goneL (s:Int) (w:Int) (gr:List (List Int)) (hg:∀ g∈gr,g.length≤14) (hK:gr.length≤23):iter (M_g gr (w,s)) N0 (0,[])=some (goneL s gr):=by
 refine iter_foldI (f:=M_g gr (w,s)) gr (fun i (l:List Int)=>((i:Int),l)) (fun i g (a:List Int)=>if bitB s i then a++g else a) id (fun i l=>l.length≤14 * i) (fun i l g hx hI=>?_) (fun l hI=>by simp [M_g]) [] (by simp) (by omega)
 have hlt:=(List.getElem?_eq_some_iff.1 hx).1
 have h1:decide ((i:Int) < gr.length)=true:=by simp [hlt]
 have hgl:=hg g (List.mem_of_getElem? hx)
 refine ⟨by
  split
  · rw [List.length_append]; omega
  · omega,?_⟩
 simp only [M_g,h1,cond_true,Int.toNat_natCast,hx,bnd]
 rw [grd_t ⟨by omega,by omega⟩,grd_t (by omega),w64_eq (n:=(i:Int)+1) (by omega) (by omega)]
 simp only [Option.bind_some]
 have eb:(bits .and .i64 (Int.fdiv s (2 ^ (min i (IntKind.bits .i64)))) 1==1)=bitB s i:=rfl
 rw [eb]
 rcases bt (bitB s i) with e | e
 · rw [e,cond_true,grd_t (by omega)]; rfl
 · rw [e,cond_false]; rfl
theorem p_goneM (s:Int) (gr:List (List Int)) (hg:∀ g∈gr,g.length≤14∧∀ x∈g,0≤x∧x < 14) (hK:gr.length≤23):M_cs gr s=some (goneM s gr):=by
 unfold M_cs
 have:iter (M_h gr s) N0 (0,0)=some (goneM s gr):=by
  refine iter_foldI (f:=M_h gr s) gr (fun i (a:Int)=>(a,(i:Int))) (fun i g (a:Int)=>if bitB s i then bits .or .i64 a (maskP g) else a) id (fun i l=>True) (fun i a g hx hI=>?_) (fun l hI=>by simp [M_h]) 0 trivial (by omega)
  have hlt:=(List.getElem?_eq_some_iff.1 hx).1
  have h1:decide ((i:Int) < gr.length)=true:=by simp [hlt]
  have hgl:=hg g (List.mem_of_getElem? hx)
  refine ⟨trivial,?_⟩
  simp only [M_h,h1,cond_true,geti_nat,hx,w64u_eq (n:=(i:Int)) (by omega) (by omega),Int.toNat_natCast]
  rw [grd_t (by omega),w64_eq (n:=(i:Int)+1) (by omega) (by omega)]
  simp only [Option.bind_some,p_l6Mask g (fun x hx=>by have:=hgl.2 x hx; omega) (by omega)]
  have eb:(bits .and .i64 (Int.fdiv s (2 ^ (min i (IntKind.bits .i64)))) 1==1)=bitB s i:=rfl
  rw [eb]
  rcases bt (bitB s i) with e | e
  · rw [e,cond_true]; rfl
  · rw [e,cond_false]; rfl
 rw [this]; rfl
theorem range_at {L i x:Nat} (h:(List.range L)[i]?=some x):x=i∧i < L:=by
 obtain ⟨h1,h2⟩:=List.getElem?_eq_some_iff.1 h
 simp at h1 h2
 exact ⟨h2.symm,h1⟩
theorem pow_lim {K:Nat} (h:K≤23):2 ^ K≤8388608:=by
 have:2 ^ K≤2 ^ 23:=Nat.pow_le_pow_right (by omega) h
 omega
theorem p_chance (n:TNetwork) (o:TOutage) (hz:n.Fibers.length≤14) (ho:o.Down.length≤1048576) (h:List Int→Option Bool) (hp:List Int→Bool) (hh:∀ l,l.length≤1048576→h l=some (hp l)) :
 M_be o n h=some (conP n o hp):=by
 unfold M_be conP
 rw [p_groups n hz]
 simp only [Option.bind_some]
 have hK:=groupsP_len n hz
 have hgr:=groups_rng hz
 generalize groupsP n=gr at hK hgr
 have hL:=pow_lim hK
 rw [grd_t (by omega)]
 simp only [Option.bind_some]
 have:iter (M_b o h gr) N0 (0,0)=some (foldI (fun i (_:Nat) (a:Int)=>if hp (goneL (i:Int) gr) then IntKind.wrap .i64 (a+weightP o (i:Int)) else a) 0 (List.range (2 ^ gr.length)) 0):=by
  refine iter_foldI (f:=M_b o h gr) (List.range (2 ^ gr.length)) (fun i (a:Int)=>(a,(i:Int))) _ id (fun i a=>-9223372036854775808≤a∧a≤9223372036854775807) (fun i a x hx hI=>?_) (fun a hI=>?_) 0 (by omega) (by simp; omega)
  · obtain ⟨rfl,hi⟩:=range_at hx
    refine ⟨by split; exact wrap_rng _; exact hI,?_⟩
    have h1:decide ((x:Int) < IntKind.wrap .i64 (1 * 2 ^ (min gr.length (IntKind.bits .i64))))=true:=by
     rw [shl1 _ (by omega)]; exact decide_eq_true (by exact_mod_cast hi)
    simp only [M_b,h1,cond_true,p_impl_weight o _ ho,Option.bind_some,p_goneL (x:Int) a gr (fun g hg=>(hgr g hg).1) hK,w64_eq (n:=(x:Int)+1) (by omega) (by omega)]
    have hgl:(goneL (x:Int) gr).length≤1048576:=by
     have:=goneL_len (x:Int) gr 0 [] fun g hg=>(hgr g hg).1
     unfold goneL
     simp only [List.length_nil] at this; omega
    rw [hh _ hgl]
    simp only [Option.bind_some]
    rcases bt (weightP o (x:Int)==0) with e | e
    · rw [e,cond_true]
      have e0:weightP o (x:Int)=0:=eq_of_beq e
      rw [e0,Int.add_zero,w64_eq (n:=a) (by omega) (by omega)]
      split <;> rfl
    · rw [e,cond_false]
      rcases bt (hp (goneL (x:Int) gr)) with e2 | e2
      · rw [e2,cond_true]; rfl
      · rw [e2,cond_false]; rfl
  · have h1:decide (((List.range (2 ^ gr.length)).length:Int) < IntKind.wrap .i64 (1 * 2 ^ (min gr.length (IntKind.bits .i64))))=false:=by
     rw [shl1 _ (by omega)]; simp
    simp only [M_b,h1,cond_false]; rfl
 rw [this]; rfl
end Vs

namespace Vs
open Go
theorem labels_rng {al:Nat→Bool} {fs:List TFiber} {N:Nat} (hE:Ed fs N):∀ v,v < N→0≤gt (labels al fs N) v∧gt (labels al fs N) v < N:=by
 have hrl:∀ t,(rep (passP al 0 fs) t (initP N)).length=N:=fun t=>by rw [rep_len,initP_len]
 have:∀ t v,v < N→0≤gt (rep (passP al 0 fs) t (initP N)) v∧gt (rep (passP al 0 fs) t (initP N)) v < N:=by
  intro t
  induction t with
  | zero=>intro v hv; rw [rep,gt_init N v hv]; omega
  | succ t ih =>
    intro v hv
    exact pass_rng fs 0 _ (by rw [hrl]; exact hE) (fun v hv=>ih v (by rw [hrl] at hv; exact hv)) v (by rw [hrl]; exact hv)
 exact this N
theorem labels_len (al:Nat→Bool) (fs:List TFiber) (N:Nat):(labels al fs N).length=N:=by unfold labels; rw [rep_len,initP_len]
def allZ (l:List Int):Bool:=l.all fun x=>x==0
def qB (fr to:Int) (lab:List Int):Bool:=if fr < 0 then allZ lab else gt lab fr.toNat==gt lab to.toNat
def labG (n:TNetwork) (l:List Int):List Int:=labels (alL l) n.Fibers n.Nodes.length
theorem net_ed {n:TNetwork} (h:netOk n=true):EdI n.Fibers n.Nodes.length:=by
 intro f hf
 obtain ⟨i,hi⟩:=List.getElem?_of_mem hf
 have:=netOk_fib h hi
 obtain ⟨h1,h2,h3⟩:=this
 omega
end Vs

namespace Vs
open Go
theorem idxs_cons_len (r:Int) (i:Nat) (f:TFiber) (fs:List TFiber):(idxs r i (f::fs)).length=(if f.Risk=r then 1 else 0)+(idxs r (i+1) fs).length:=by
 rw [idxs_cons]; split <;> simp <;> omega
theorem one_risk (x:Int):(if x=1 then 1 else 0)+(if x=2 then 1 else 0)+(if x=3 then 1 else 0)+(if x=4 then 1 else 0)+(if x=5 then 1 else 0)+(if x=6 then 1 else 0)+(if x=7 then 1 else 0)+(if x=8 then 1 else 0)+(if x=9 then 1 else 0)+(if x=0 then 1 else 0)≤(1:Nat):=by
 by_cases h1:x=1; · subst h1; decide
 by_cases h2:x=2; · subst h2; decide
 by_cases h3:x=3; · subst h3; decide
 by_cases h4:x=4; · subst h4; decide
 by_cases h5:x=5; · subst h5; decide
 by_cases h6:x=6; · subst h6; decide
 by_cases h7:x=7; · subst h7; decide
 by_cases h8:x=8; · subst h8; decide
 by_cases h9:x=9; · subst h9; decide
 simp only [h1,h2,h3,h4,h5,h6,h7,h8,h9,if_false]
 split <;> omega
theorem idxs_total:∀ (fs:List TFiber) (i:Nat),(idxs 1 i fs).length+(idxs 2 i fs).length+(idxs 3 i fs).length+(idxs 4 i fs).length+(idxs 5 i fs).length+(idxs 6 i fs).length+(idxs 7 i fs).length+(idxs 8 i fs).length+(idxs 9 i fs).length+(idxs 0 i fs).length≤fs.length
 | [],i=>by simp [idxs]
 | f :: fs, i => by
   have h1:=idxs_total fs (i+1)
   have h2:=one_risk f.Risk
   simp only [idxs_cons_len,List.length_cons]
   omega
theorem filter_pos_len:∀ (ls:List (List Int)),(ls.filter fun l=>decide (0 < l.length)).length≤(ls.map List.length).sum
 | []=>by simp
 | l :: ls => by
   have:=filter_pos_len ls
   rw [List.filter_cons]
   simp only [List.map_cons,List.sum_cons]
   split
   · rename_i h; simp at h; simp; omega
   · omega
theorem groupsP_le (n:TNetwork):(groupsP n).length≤n.Fibers.length:=by
 have h1:=idxs_total n.Fibers 0
 have h2:=filter_pos_len (risks.map fun r=>idxs r 0 n.Fibers)
 unfold groupsP
 simp only [List.length_append,List.length_map]
 simp only [risks,List.map_cons,List.map_nil,List.sum_cons,List.sum_nil] at h2
 simp only [risks,List.map_cons,List.map_nil]
 omega
theorem outOk_b {n:TNetwork} {o:TOutage} (h:outOk n o=true):2≤o.Unit∧o.Unit≤20∧o.Down.length≤14∧∀ d∈o.Down,0≤d∧d≤o.Unit:=by
 unfold outOk at h
 simp only [Bool.and_eq_true,decide_eq_true_eq,wi_iff,Bool.not_eq_true',List.any_eq_false,Bool.not_eq_false] at h
 obtain ⟨⟨⟨h1,h2⟩,h3⟩,h4⟩:=h
 have:=groupsP_le n
 have:=(netOk_b h1).2.2
 refine ⟨h2.1,h2.2,by omega,fun d hd=>?_⟩
 have:=h4 d hd
 simpa using this
theorem pow_bound (u:Int) (h2:2≤u) (h20:u≤20):∀ k:Nat,1≤u ^ k∧u ^ k≤20 ^ k
 | 0=>by simp
 | k + 1 => by
   obtain ⟨a,b⟩:=pow_bound u h2 h20 k
   rw [Int.pow_succ,Int.pow_succ]
   have c1:(1:Int) * 1≤u ^ k * u:=Int.mul_le_mul a (by omega) (by omega) (by omega)
   have c2:u ^ k * u≤20 ^ k * 20:=Int.mul_le_mul b h20 (by omega) (Int.le_of_lt (Int.pow_pos (by omega)))
   exact ⟨by omega,c2⟩
theorem pow_14 (u:Int) (h2:2≤u) (h20:u≤20) (k:Nat) (hk:k≤14):1≤u ^ k∧u ^ k≤1638400000000000000:=by
 obtain ⟨a,b⟩:=pow_bound u h2 h20 k
 refine ⟨a,Int.le_trans b ?_⟩
 have:(20:Int) ^ k≤20 ^ 14:=by
  have:(20:Nat) ^ k≤20 ^ 14:=Nat.pow_le_pow_right (by omega) hk
  exact_mod_cast this
 have e:(20:Int) ^ 14=1638400000000000000:=by decide
 omega
def allP (o:TOutage):Int:=o.Unit ^ o.Down.length
end Vs

namespace Vs
open Go
def endsB (n:TNetwork) (fr to:Int):Bool:=wi fr 0 ((n.Nodes.length:Int) - 1)&&wi to 0 ((n.Nodes.length:Int) - 1)&&(fr != to)
theorem p_isNode (n:TNetwork) (l:List Int) (hz:z_Network n≤1048576) (hl:l.length≤1048576):M_ci n l=some (netOk n&&!l.any fun x=>!wi x 0 ((n.Nodes.length:Int) - 1)):=by
 obtain ⟨h1,_,_⟩:=z_net hz
 unfold M_ci
 rw [p_IsValidNetwork n hz,p_ContainsFunc_i l (fun x0=>M_cj x0 n) (fun x=>!wi x 0 ((n.Nodes.length:Int) - 1)) (fun x=>by
  unfold M_cj
  rw [w64_eq (by omega) (by omega)]
  simp only [p_within,Option.bind_some]) hl]
 cases netOk n <;> rfl
theorem p_isConnection (n:TNetwork) (o:TOutage) (fr to:Int) (hz:z_Network n≤1048576) (ho:o.Down.length≤1048576):M_ck n o fr to=some (outOk n o&&endsB n fr to):=by
 unfold M_ck endsB
 simp only [p_impl_Outage n o hz ho,Option.bind_some,bnd,p_isNode n [fr,to] hz (by simp)]
 rcases bt (outOk n o) with e | e
 · have hn:netOk n=true:=by
    unfold outOk at e
    simp only [Bool.and_eq_true] at e
    exact e.1.1.1
   have ea:([fr,to].any fun x=>!wi x 0 ((n.Nodes.length:Int) - 1))=(!wi fr 0 ((n.Nodes.length:Int) - 1)||!wi to 0 ((n.Nodes.length:Int) - 1)):=by simp [List.any]
   rw [e,hn,ea]
   cases wi fr 0 ((n.Nodes.length:Int) - 1) <;> cases wi to 0 ((n.Nodes.length:Int) - 1) <;> simp
 · rw [e]; rfl
def caP (n:TNetwork) (o:TOutage) (fr to:Int):Int×Bool:=if outOk n o&&endsB n fr to then (conP n o fun l=>qB fr to (labG n l),true) else (0,false)
theorem ends_rng {n:TNetwork} {fr to:Int} (h:endsB n fr to=true):0≤fr∧fr < n.Nodes.length∧0≤to∧to < n.Nodes.length:=by
 unfold endsB at h
 simp only [Bool.and_eq_true,wi_iff] at h
 omega
theorem p_conn_c1 (n:TNetwork) (h:netOk n=true) (fr to:Int) (he:endsB n fr to=true) (l:List Int) (hl:l.length≤1048576):M_cl l n fr to=some (qB fr to (labG n l)):=by
 have hb:=netOk_b h
 have hE:=net_ed h
 obtain ⟨f1,f2,f3,f4⟩:=ends_rng he
 unfold M_cl qB
 rw [p_components n l hE (by omega) (by omega) hl,if_neg (by omega)]
 have hlen:(labG n l).length=n.Nodes.length:=labels_len ..
 have e:labels (alL l) n.Fibers n.Nodes.length=labG n l:=rfl
 rw [e]
 generalize labG n l=lab at hlen
 simp only [Option.bind_some]
 rw [grd_t ⟨f1,by omega⟩,grd_t ⟨f3,by omega⟩]
 simp only [Option.bind_some,gt_at (show fr.toNat < lab.length by omega),gt_at (show to.toNat < lab.length by omega)]
theorem p_connection (n:TNetwork) (o:TOutage) (fr to:Int) (h:netOk n=true) (ho:o.Down.length≤1048576) (he:endsB n fr to=true):M_cm o n fr to=some (conP n o fun l=>qB fr to (labG n l)):=by
 unfold M_cm
 rw [p_chance n o (by have:=netOk_b h; omega) ho _ (fun l=>qB fr to (labG n l)) fun l hl=>p_conn_c1 n h fr to he l hl]
 rfl
theorem p_impl_ConnectionAvailability (n:TNetwork) (o:TOutage) (fr to:Int) (hz:z_Network n≤1048576) (ho:z_Outage o≤1048576):M_cn n o fr to=some (caP n o fr to):=by
 have ho':o.Down.length≤1048576:=ho
 unfold M_cn caP
 simp only [p_isConnection n o fr to hz ho',Option.bind_some]
 rcases bt (outOk n o&&endsB n fr to) with e | e
 · have e':=e
   simp only [Bool.and_eq_true] at e'
   have hn:netOk n=true:=by
    have:=e'.1
    unfold outOk at this
    simp only [Bool.and_eq_true] at this
    exact this.1.1.1
   rw [e,p_connection n o fr to hn ho' e'.2]
   rfl
 · rw [e]; rfl
end Vs

namespace Vs
open Go
theorem foldI_max:∀ (xs:List Int) (k:Nat) (m:Int),0≤m→(∀ x∈xs,0≤x)→((foldI (fun _ (y:Int) (m:Int)=>if m < y then y else m) k xs m)==0)=(m==0&&allZ xs)
 | [],_,m,_,_=>by simp [foldI,allZ]
 | y :: xs, k, m, hm, h => by
   have hy:=h y List.mem_cons_self
   have hx:∀ x∈xs,0≤x:=fun x hx=>h x (List.mem_cons_of_mem _ hx)
   rw [foldI]
   have e:allZ (y::xs)=(y==0&&allZ xs):=rfl
   by_cases hlt:m < y
   · rw [if_pos hlt,foldI_max xs (k+1) y hy hx,e]
     have h1:(y==0)=false:=by rw [beq_eq_false_iff_ne]; omega
     rw [h1]; simp
   · rw [if_neg hlt,foldI_max xs (k+1) m hm hx,e]
     by_cases h0:m=0
     · have:y=0:=by omega
       simp [h0,this]
     · have h1:(m==0)=false:=by rw [beq_eq_false_iff_ne]; exact h0
       rw [h1]; simp
theorem p_Max (xs:List Int) (h0:0 < xs.length) (hl:xs.length≤1048576) (h:∀ x∈xs,0≤x):∃ m,M_cg xs=some m∧(m==0)=allZ xs:=by
 cases xs with
 | nil=>simp at h0
 | cons x t =>
   have:=iter_foldI (f:=M_az (x::t)) t (fun i (m:Int)=>(m,((i+1:Nat):Int))) (fun _ (y:Int) (m:Int)=>if m < y then y else m) id (fun _ _=>True) (fun i m y hy _=>by
    have hlt:=(List.getElem?_eq_some_iff.1 hy).1
    have h1:decide (((i+1:Nat):Int) < ((x::t).length:Int))=true:=by simp; omega
    refine ⟨trivial,?_⟩
    have hy':(x::t)[i+1]?=some y:=by simpa using hy
    simp only [M_az,h1,cond_true,geti_nat,hy',Option.bind_some]
    simp only [List.length_cons] at hl
    rw [w64_eq (by omega) (by omega)]
    rfl) (fun m _=>by simp [M_az]) x trivial (by simp only [List.length_cons] at hl; omega)
   refine ⟨_,?_,foldI_max t 0 x (h x List.mem_cons_self) fun y hy=>h y (List.mem_cons_of_mem _ hy)⟩
   unfold M_cg
   have h2:decide (((x::t).length:Int) < 1)=false:=by simp; omega
   rw [h2,cond_false]
   have h3:geti (x::t) 0=some x:=geti_nat (x::t) 0
   rw [h3]
   simp only [Option.bind_some]
   have e:((0+1:Nat):Int)=1:=rfl
   simp only [e] at this
   rw [this]; rfl
end Vs

namespace Vs
open Go
theorem p_c1 (n:TNetwork) (h:netOk n=true) (l:List Int) (hl:l.length≤1048576):M_ds l n=some (qB (-1) (-1) (labG n l)):=by
 have hb:=netOk_b h
 have hE:=net_ed h
 unfold M_ds
 rw [p_components n l hE (by omega) (by omega) hl]
 have hlen:(labG n l).length=n.Nodes.length:=labels_len ..
 obtain ⟨m,h1,h2⟩:=p_Max (labG n l) (by omega) (by omega) fun x hx=>by
  obtain ⟨i,hi⟩:=List.getElem?_of_mem hx
  have hlt:=(List.getElem?_eq_some_iff.1 hi).1
  rw [gt_at hlt] at hi
  have:=(labels_rng (al:=alL l) hE.ed i (by omega)).1
  have e:gt (labels (alL l) n.Fibers n.Nodes.length) i=x:=Option.some.inj hi
  omega
 simp only [Option.bind_some]
 have h1':M_cg (labels (alL l) n.Fibers n.Nodes.length)=some m:=h1
 rw [h1']
 simp only [Option.bind_some,h2]
 rfl
def naP (n:TNetwork) (o:TOutage):Int×Bool:=if outOk n o then (conP n o fun l=>qB (-1) (-1) (labG n l),true) else (0,false)
theorem outOk_net {n:TNetwork} {o:TOutage} (h:outOk n o=true):netOk n=true:=by
 unfold outOk at h
 simp only [Bool.and_eq_true] at h
 exact h.1.1.1
theorem p_impl_NetworkAvailability (n:TNetwork) (o:TOutage) (hz:z_Network n≤1048576) (ho:z_Outage o≤1048576):M_dt n o=some (naP n o):=by
 have ho':o.Down.length≤1048576:=ho
 unfold M_dt naP
 simp only [p_impl_Outage n o hz ho',Option.bind_some]
 rcases bt (outOk n o) with e | e
 · have hn:=outOk_net e
   rw [e,p_chance n o (by have:=netOk_b hn; omega) ho' _ (fun l=>qB (-1) (-1) (labG n l)) fun l hl=>p_c1 n hn l hl]
   rfl
 · rw [e]; rfl
end Vs

namespace Vs
open Go
def setBad (l:List Int) (n:Int) (i:Nat) (x:Int):Bool:=!wi x 0 (n - 1)||(decide (0 < i)&&match l[i - 1]? with | some y=>decide (x≤y) | none=>false)
def setB (l:List Int) (n:Int):Bool:=!anyI (setBad l n) l
theorem setB_mem {l:List Int} {n:Int} (h:setB l n=true):∀ x∈l,0≤x∧x < n:=by
 intro x hx
 unfold setB at h
 simp only [Bool.not_eq_true'] at h
 obtain ⟨i,hi,rfl⟩:=List.getElem_of_mem hx
 have:=anyI_false.1 h i l[i] (by simp [hi])
 unfold setBad at this
 simp only [Bool.or_eq_false_iff,Bool.not_eq_false',wi_iff] at this
 omega
theorem p_isSet (l:List Int) (n:Int) (hn:0≤n) (hn2:n≤1048576) (hl:l.length≤1048576):M_du l n=some (setB l n):=by
 unfold M_du setB
 rw [iter_anyI (f:=M_aa l n) l (setBad l n) (.inr false) (.inl ()) (fun i x hx _=>by
  have hlt:=(List.getElem?_eq_some_iff.1 hx).1
  have h1:decide ((i:Int) < l.length)=true:=by simp [hlt]
  simp only [M_aa,h1,cond_true,geti_nat,hx,Option.bind_some,p_within]
  rw [w64_eq (n:=n - 1) (by omega) (by omega),w64_eq (n:=(i:Int)+1) (by omega) (by omega)]
  unfold setBad
  rcases bt (wi x 0 (n - 1)) with e | e
  · by_cases hi:0 < i
    · have hi':decide ((0:Int) < (i:Int))=true:=by simp [hi]
      have hp:l[i - 1]?=some l[i - 1]:=List.getElem?_eq_getElem (by omega)
      have hw:IntKind.wrap .i64 ((i:Int) - 1)=((i - 1:Nat):Int):=by rw [w64_eq (by omega) (by omega)]; omega
      simp only [e,hi',cond_true,cond_false,Bool.not_true,hw,geti_nat,hp,Option.bind_some,hi,decide_true,Bool.true_and,Bool.false_or]
      rcases bt (decide (x≤l[i - 1])) with e2 | e2 <;> simp only [e2] <;> rfl
    · have hi':decide ((0:Int) < (i:Int))=false:=by simp; omega
      simp [e,hi',hi]
  · simp [e]) (by simp [M_aa]) (by omega)]
 cases anyI (setBad l n) l <;> rfl
theorem p_set (l:List Int) (h0:∀ x∈l,0≤x) (hl:l.length≤1048576):iter (M_af l) N0 (0,0)=some (maskP l):=by
 refine iter_foldI (f:=M_af l) l (fun i (a:Int)=>(a,(i:Int))) bitG id (fun _ _=>True) (fun i a x hx _=>?_) (fun a _=>by simp [M_af]) 0 trivial (by omega)
 have hlt:=(List.getElem?_eq_some_iff.1 hx).1
 have h1:decide ((i:Int) < l.length)=true:=by simp [hlt]
 have h2:=h0 x (List.mem_of_getElem? hx)
 simp only [M_af,h1,cond_true,geti_nat,hx,Option.bind_some,grd_t h2]
 rw [w64_eq (n:=(i:Int)+1) (by omega) (by omega)]
 exact ⟨trivial,rfl⟩
end Vs

namespace Vs
open Go
def stW (n:TNetwork) (o:TOutage) (l:List Int):Int×Bool:=if outOk n o&&setB l o.Down.length then (weightP o (maskP l),true) else (0,false)
theorem p_impl_StateWeight (n:TNetwork) (o:TOutage) (l:List Int) (hz:z_Network n≤1048576) (ho:o.Down.length≤1048576) (hl:l.length≤1048576):M_dv n o l=some (stW n o l):=by
 unfold M_dv stW
 simp only [p_impl_Outage n o hz ho,Option.bind_some,p_isSet l o.Down.length (by omega) (by omega) hl]
 rcases bt (outOk n o) with e1 | e1
 · rcases bt (setB l o.Down.length) with e2 | e2
   · simp only [e1,e2,Bool.not_true,cond_false,Option.bind_some,p_set l (fun x hx=>(setB_mem e2 x hx).1) hl,p_impl_weight o _ ho]
     rfl
   · simp [e1,e2]
 · simp [e1]
end Vs

namespace Vs
open Go
def bitsL (s:Int) (k:Nat):List Int:=((List.range k).filter fun i=>bitB s i).map fun i:Nat=>(i:Int)
theorem bitsL_succ (s:Int) (k:Nat):bitsL s (k+1)=if bitB s k then bitsL s k++[(k:Int)] else bitsL s k:=by
 unfold bitsL
 rw [List.range_succ,List.filter_append,List.map_append]
 by_cases h:bitB s k=true
 · simp [h]
 · simp [h]
theorem bitsL_len (s:Int) (k:Nat):(bitsL s k).length≤k:=by
 unfold bitsL
 rw [List.length_map]
 exact Nat.le_trans (List.length_filter_le ..) (by simp)
theorem foldI_bits (s:Int) {α:Type}:∀ (xs:List α) (k:Nat),foldI (fun i (_:α) (a:List Int)=>if bitB s i then a++[(i:Int)] else a) k xs (bitsL s k)=bitsL s (k+xs.length)
 | [],k=>rfl
 | x :: xs, k => by
   simp only [foldI,List.length_cons]
   rw [← bitsL_succ,foldI_bits s xs (k+1)]
   congr 1; omega
end Vs

namespace Vs
open Go
theorem outOk_K {n:TNetwork} {o:TOutage} (h:outOk n o=true):netOk n=true∧o.Down.length=(groupsP n).length:=by
 unfold outOk at h
 simp only [Bool.and_eq_true,decide_eq_true_eq] at h
 exact ⟨h.1.1.1,h.1.2⟩
end Vs

namespace Vs
open Go
def otherP (f:TFiber) (v:Int):Int:=if v=f.A then f.B else if v=f.B then f.A else -1
def othI (n:TNetwork) (e v:Int):Int:=match n.Fibers[e.toNat]? with | some f=>otherP f v | none=>-1
end Vs

namespace Vs
open Go
theorem p_l1Has (l:List Int) (x:Int) (hl:l.length≤1048576):M_br l x=some (l.any fun y=>y==x):=by
 unfold M_br
 rw [iter_any (f:=M_ah l x) l (fun y=>y==x) (.inr true) (.inl ()) (fun i y hy=>by
  have hlt:=(List.getElem?_eq_some_iff.1 hy).1
  have h1:decide ((i:Int) < l.length)=true:=by simp [hlt]
  simp only [M_ah,h1,cond_true,geti_nat,hy,Option.bind_some]
  rw [w64_eq (by omega) (by omega)]
  cases y==x <;> rfl) (by simp [M_ah]) (by omega)]
 cases l.any fun y=>y==x <;> rfl
theorem geti_fib {n:TNetwork} {e:Int} (h:wi e 0 ((n.Fibers.length:Int) - 1)=true):∃ f,geti n.Fibers e=some f∧n.Fibers[e.toNat]?=some f:=by
 rw [wi_iff] at h
 have hlt:e.toNat < n.Fibers.length:=by omega
 refine ⟨n.Fibers[e.toNat],?_,List.getElem?_eq_getElem hlt⟩
 have h3:=geti_nat n.Fibers e.toNat
 rw [Int.toNat_of_nonneg h.1] at h3
 rw [h3]
 exact List.getElem?_eq_getElem hlt
theorem p_l2Other (n:TNetwork) (e v:Int) (h:wi e 0 ((n.Fibers.length:Int) - 1)=true):M_bh n e v=some (othI n e v):=by
 obtain ⟨f,h1,h2⟩:=geti_fib h
 unfold M_bh othI otherP
 rw [h1,h2]
 simp only [Option.bind_some]
 by_cases a:v=f.A
 · rw [show (v==f.A)=true from by simpa using a,cond_true,if_pos a]
 · rw [show (v==f.A)=false from by simpa using a,cond_false,if_neg a]
   by_cases b:v=f.B
   · rw [show (v==f.B)=true from by simpa using b,cond_true,if_pos b]
   · rw [show (v==f.B)=false from by simpa using b,cond_false,if_neg b]
end Vs

namespace Vs
open Go
theorem p_otherEnd (f:TFiber) (v:Int):M_co f v=some (otherP f v):=by
 unfold M_co otherP
 by_cases a:v=f.A
 · rw [show (v==f.A)=true from by simpa using a,cond_true,if_pos a]
 · rw [show (v==f.A)=false from by simpa using a,cond_false,if_neg a]
   by_cases b:v=f.B
   · rw [show (v==f.B)=true from by simpa using b,cond_true,if_pos b]
   · rw [show (v==f.B)=false from by simpa using b,cond_false,if_neg b]
end Vs

namespace Vs
open Go
def gz (l:List Int) (p:Nat):Int:=(l[p]?).getD 0
theorem gz_at {l:List Int} {p:Nat} (h:p < l.length):l[p]?=some (gz l p):=by
 unfold gz; rw [List.getElem?_eq_getElem h]; rfl
theorem gz_set {l:List Int} {p q:Nat} {x:Int} (h:p < l.length):gz (l.set p x) q=if q=p then x else gz l q:=by
 unfold gz
 rw [List.getElem?_set]
 by_cases e:p=q
 · rw [if_pos e,if_pos h,if_pos e.symm]; rfl
 · rw [if_neg e,if_neg (Ne.symm e)]
theorem p_Less (x y:Int):M_dn x y=some (decide (x < y)):=by
 unfold M_dn M_bf; simp
theorem perm_swap {l:List Int} {i j:Nat} (hi:i < l.length) (hj:j < l.length):((l.set i (gz l j)).set j (gz l i)).Perm l:=by
 by_cases e:i=j
 · subst e
   have:(l.set i (gz l i)).set i (gz l i)=l:=by
    apply List.ext_getElem?
    intro k
    rw [List.getElem?_set,List.getElem?_set]
    by_cases h:i=k
    · subst h; simp [hi]; unfold gz; rw [List.getElem?_eq_getElem hi]; rfl
    · simp [h]
   rw [this]
 · have g1:gz l j=l[j]:=by unfold gz; rw [List.getElem?_eq_getElem hj]; rfl
   have g2:gz l i=l[i]:=by unfold gz; rw [List.getElem?_eq_getElem hi]; rfl
   rw [g1,g2]
   exact List.set_set_perm hi hj
def SrtI (i j:Nat) (l:List Int):Prop:=(∀ p q,p < q→q≤i→p ≠ j→q ≠ j→gz l p≤gz l q)∧∀ q,j < q→q≤i→gz l j≤gz l q
def SrtB (n:Nat) (l:List Int):Prop:=∀ p q,p < q→q < n→gz l p≤gz l q
theorem p_sortL2 (n i:Nat) (l0:List Int) (hl:l0.length=n) (hn:n≤1048576) (hi:i < n) (hs:SrtB i l0) :
 ∃ l,iter (M_p 0) N0 ((i:Int),l0)=some l∧l.Perm l0∧SrtB (i+1) l:=by
 refine iter_inv (f:=M_p 0) (fun s=>∃ j:Nat,s.1=j∧j≤i∧s.2.length=n∧s.2.Perm l0∧SrtI i j s.2) (fun s=>s.1.toNat) (fun l=>l.Perm l0∧SrtB (i+1) l) (fun s hI=>?_) N0 ((i:Int),l0)
  ⟨i,rfl,Nat.le_refl _,hl,List.Perm.refl _,fun p q h1 h2 h3 h4=>hs p q h1 (by omega),fun q h1 h2=>by omega⟩ (N0_lt (by simp; omega))
 obtain ⟨j',l⟩:=s
 obtain ⟨j,rfl,hj,hll,hp,hA,hB⟩:=hI
 simp only at hll hp hA hB
 by_cases h0:0 < j
 · have e1:decide ((0:Int) < (j:Int))=true:=decide_eq_true (by omega)
   have ew:IntKind.wrap .i64 ((j:Int) - 1)=((j - 1:Nat):Int):=by rw [w64_eq (by omega) (by omega)]; omega
   have g1:l[j]?=some (gz l j):=gz_at (by omega)
   have g2:l[j - 1]?=some (gz l (j - 1)):=gz_at (by omega)
   have d1:grd (0≤(j:Int)∧(j:Int) < (l.length:Int))=some ():=grd_t (by omega)
   have d2:grd (0≤((j - 1:Nat):Int)∧((j - 1:Nat):Int) < (l.length:Int))=some ():=grd_t (by omega)
   by_cases hlt:gz l j < gz l (j - 1)
   · left
     have e2:decide (gz l j < gz l (j - 1))=true:=decide_eq_true hlt
     have g3:(l.set j (gz l (j - 1)))[j - 1]?=some (gz l (j - 1)):=by
      rw [List.getElem?_set,if_neg (by omega)]; exact g2
     refine ⟨(((j - 1:Nat):Int),(l.set j (gz l (j - 1))).set (j - 1) (gz l j)),?_,⟨j - 1,rfl,by omega,by simp [hll],?_,?_,?_⟩,?_⟩
     · simp only [M_p,e1,cond_true,Int.toNat_natCast,ew,d1,d2,g1,g2,p_Less,e2,Option.bind_some,bnd,g3]
     · exact (perm_swap (by omega) (by omega)).trans hp
     · intro p q h1 h2 h3 h4
       simp only at *
       rw [gz_set (by simp; omega),gz_set (by omega),gz_set (by simp; omega),gz_set (by omega),if_neg h3,if_neg h4]
       by_cases c1:p=j
       · rw [if_pos c1,if_neg (by omega)]; exact hA (j - 1) q (by omega) h2 (by omega) (by omega)
       · rw [if_neg c1]
         by_cases c2:q=j
         · rw [if_pos c2]; exact hA p (j - 1) (by omega) (by omega) c1 (by omega)
         · rw [if_neg c2]; exact hA p q h1 h2 c1 c2
     · intro q h1 h2
       simp only at *
       rw [gz_set (by simp; omega),if_pos rfl,gz_set (by simp; omega),if_neg (by omega),gz_set (by omega)]
       by_cases c2:q=j
       · rw [if_pos c2]; omega
       · rw [if_neg c2]; exact hB q (by omega) h2
     · simp only [Int.toNat_natCast]; omega
   · right
     have e2:decide (gz l j < gz l (j - 1))=false:=decide_eq_false hlt
     refine ⟨l,?_,hp,?_⟩
     · simp only [M_p,e1,cond_true,Int.toNat_natCast,ew,d1,d2,g1,g2,Option.bind_some,p_Less,e2,cond_false]
     · intro p q h1 h2
       by_cases c1:p=j
       · rw [c1]; exact hB q (by omega) (by omega)
       · by_cases c2:q=j
         · rw [c2]
           by_cases c3:p=j - 1
           · rw [c3]; omega
           · have:=hA p (j - 1) (by omega) (by omega) c1 (by omega); omega
         · exact hA p q h1 (by omega) c1 c2
 · right
   have e1:decide ((0:Int) < (j:Int))=false:=decide_eq_false (by omega)
   refine ⟨l,by simp only [M_p,e1,cond_false,Option.bind_some],hp,fun p q h1 h2=>?_⟩
   by_cases c1:p=j
   · rw [c1]; exact hB q (by omega) (by omega)
   · exact hA p q h1 (by omega) c1 (by omega)
theorem p_sortI (n:Nat) (xs:List Int) (hl:xs.length=n) (hn:n≤1048576):∃ l,M_do 0 (n:Int) xs=some l∧l.Perm xs∧SrtB n l:=by
 unfold M_do
 obtain ⟨l,h1,h2,h3⟩:=iter_inv (f:=M_ac 0 (n:Int)) (fun s=>∃ i:Nat,s.1=i∧1≤i∧i≤n+1∧s.2.length=n∧s.2.Perm xs∧SrtB i s.2) (fun s=>n+1 - s.1.toNat) (fun l=>l.Perm xs∧SrtB n l) (fun s hI=>by
  obtain ⟨i',l⟩:=s
  obtain ⟨i,rfl,h0,hi,hll,hp,hs⟩:=hI
  simp only at hll hp hs
  by_cases h:i < n
  · left
    have e1:decide ((i:Int) < (n:Int))=true:=decide_eq_true (by omega)
    obtain ⟨l',g1,g2,g3⟩:=p_sortL2 n i l hll hn h hs
    refine ⟨(((i+1:Nat):Int),l'),?_,⟨i+1,rfl,by omega,by omega,by rw [g2.length_eq]; exact hll,g2.trans hp,g3⟩,by simp only [Int.toNat_natCast]; omega⟩
    simp only [M_ac,e1,cond_true,g1,Option.bind_some]
    rw [w64_eq (by omega) (by omega)]; rfl
  · right
    have e1:decide ((i:Int) < (n:Int))=false:=decide_eq_false (by omega)
    exact ⟨l,by simp only [M_ac,e1,cond_false],hp,fun p q h1 h2=>hs p q h1 (by omega)⟩) N0 (((1:Nat):Int),xs) ⟨1,rfl,by omega,by omega,hl,List.Perm.refl _,fun p q h1 h2=>by omega⟩ (N0_lt (by simp; omega))
 refine ⟨l,?_,h2,h3⟩
 have e:IntKind.wrap .i64 ((0:Int)+1)=((1:Nat):Int):=by rw [w64_eq (by omega) (by omega)]; rfl
 rw [e,h1]; rfl
theorem bitsLen12:∀ n:Fin 13,(M_dm (IntKind.wrap .u64 (n.val:Int))).isSome=true:=by decide +kernel
theorem p_SortI (xs:List Int) (h:xs.length≤12):∃ l,M_dp xs=some l∧l.Perm xs∧l.Pairwise (·≤·):=by
 obtain ⟨l,h1,h2,h3⟩:=p_sortI xs.length xs rfl (by omega)
 refine ⟨l,?_,h2,?_⟩
 · have hb:=bitsLen12 ⟨xs.length,by omega⟩
   simp only at hb
   unfold M_dp
   cases hx:M_dm (IntKind.wrap .u64 (xs.length:Int)) with
   | none=>rw [hx] at hb; cases hb
   | some r =>
     simp only [Option.bind_some]
     unfold M_ed
     have hN:N0=(N0 - 1)+1:=by unfold N0; omega
     rw [hN,iter]
     have e1:decide (IntKind.wrap .i64 ((xs.length:Int) - 0)≤12)=true:=by rw [w64_eq (by omega) (by omega)]; exact decide_eq_true (by omega)
     simp only [M_bd,e1,cond_true,h1,Option.bind_some]
 · rw [List.pairwise_iff_getElem]
   intro i j hi hj hij
   have:=h3 i j hij (by rw [← h2.length_eq]; exact hj)
   unfold gz at this
   rw [List.getElem?_eq_getElem hi,List.getElem?_eq_getElem hj] at this
   exact this
end Vs

namespace Vs
open Go
theorem walkL_rel {α A B C:Type} (s1:Nat→α→A→A ⊕ B) (s2:Nat→α→A→A ⊕ C) (f1:A→B) (f2:A→C) (R:B→C→Prop) (h:∀ i x a,(∃ a',s1 i x a=.inl a'∧s2 i x a=.inl a')∨∃ b c,s1 i x a=.inr b∧s2 i x a=.inr c∧R b c) (hf:∀ a,R (f1 a) (f2 a)) :
 ∀ (xs:List α) (i:Nat) (a:A),R (walkL s1 f1 i xs a) (walkL s2 f2 i xs a)
 | [],_,a=>hf a
 | x :: xs, i, a => by
   simp only [walkL]
   rcases h i x a with ⟨a',h1,h2⟩ | ⟨b,c,h1,h2,h3⟩
   · rw [h1,h2]; exact walkL_rel s1 s2 f1 f2 R h hf xs (i+1) a'
   · rw [h1,h2]; exact h3
def visB (n:TNetwork) (e:Int) (a:Int×List Int):Bool:=!wi e 0 ((n.Fibers.length:Int) - 1)||decide (othI n e a.1 < 0)||decide (othI n e a.1∈a.2)
def visS (n:TNetwork) (_:Nat) (e:Int) (a:Int×List Int):(Int×List Int) ⊕ Option (List Int):=if visB n e a then .inr none else .inl (othI n e a.1,a.2++[othI n e a.1])
def visP (n:TNetwork) (r:TRoute):Option (List Int):=if !wi r.Start 0 ((n.Nodes.length:Int) - 1)||decide (r.Fibers.length=0) then none else walkL (visS n) (fun a=>some a.2) 0 r.Fibers (r.Start,[r.Start])
def visI (n:TNetwork) (_:Nat) (e:Int) (a:Int×List Int):(Int×List Int) ⊕ ((List Int) ⊕ (List Int×Bool)):=if visB n e a then .inr (.inr ([],false)) else .inl (othI n e a.1,a.2++[othI n e a.1])
def visK (n:TNetwork) (_:Nat) (e:Int) (a:Int×List Int):(Int×List Int) ⊕ ((List Int) ⊕ (List Int×Bool)):=if visB n e a then .inr (.inr (a.2,false)) else .inl (othI n e a.1,a.2++[othI n e a.1])
theorem len0 (l:List Int):((l.length:Int)==0)=decide (l.length=0):=by
 rw [Bool.eq_iff_iff]; simp
theorem p_visited (n:TNetwork) (r:TRoute) (hN:n.Nodes.length≤1048576) (hF:n.Fibers.length≤1048576) (hr:r.Fibers.length≤1048576):M_dl n r=some (match visP n r with | some l=>(l,true) | none=>([],false)):=by
 unfold M_dl visP
 simp only [p_within,Option.bind_some,len0]
 rw [w64_eq (n:=(n.Nodes.length:Int) - 1) (by omega) (by omega)]
 have hc:(cond (!wi r.Start 0 ((n.Nodes.length:Int) - 1)) (some true) (some (decide (r.Fibers.length=0))):Option Bool)=some (!wi r.Start 0 ((n.Nodes.length:Int) - 1)||decide (r.Fibers.length=0)):=by
  cases wi r.Start 0 ((n.Nodes.length:Int) - 1) <;> rfl
 rw [hc]
 simp only [Option.bind_some]
 rcases bt (!wi r.Start 0 ((n.Nodes.length:Int) - 1)||decide (r.Fibers.length=0)) with e | e
 · rw [e]; rfl
 rw [e]
 simp only [cond_false,bnd,Bool.false_eq_true,if_false]
 have key:=iter_list (f:=M_aw n r) r.Fibers (fun i (a:Int×List Int)=>(a.1,(i:Int),a.2)) (visI n) (fun a=>.inl a.2) (fun i a=>a.2.length=i+1) (fun i a x hx hI=>by
  have hlt:=(List.getElem?_eq_some_iff.1 hx).1
  have h1:decide ((i:Int) < r.Fibers.length)=true:=by simp [hlt]
  simp only [M_aw,h1,cond_true,geti_nat,hx,Option.bind_some,p_within]
  rw [w64_eq (n:=(n.Fibers.length:Int) - 1) (by omega) (by omega),w64_eq (n:=(i:Int)+1) (by omega) (by omega)]
  unfold visI visB
  rcases bt (wi x 0 ((n.Fibers.length:Int) - 1)) with e1 | e1
  · obtain ⟨f,f1,f2⟩:=geti_fib e1
    have ho:othI n x a.1=otherP f a.1:=by unfold othI; rw [f2]
    simp only [e1,Bool.not_true,cond_false,f1,Option.bind_some,p_otherEnd,← ho,p_ContI a.2 (othI n x a.1) (by omega),Bool.false_or]
    by_cases h3:othI n x a.1 < 0
    · exact .inr ⟨_,by simp [h3]; rfl,by simp [h3]⟩
    · by_cases h4:othI n x a.1∈a.2
      · exact .inr ⟨_,by simp [h4]; rfl,by simp [h3,h4]⟩
      · refine .inl ⟨(othI n x a.1,a.2++[othI n x a.1]),by simp [h3,h4],by simp [hI],?_⟩
        simp only [decide_eq_false h3,decide_eq_false h4,cond_false,Option.bind_some,bnd]
        rw [grd_t (by omega)]
        rfl
  · exact .inr ⟨_,by simp [e1]; rfl,by simp [e1]⟩) (fun a _=>by simp [M_aw]) (r.Start,[r.Start]) rfl (by omega)
 have e0:((0:Nat):Int)=0:=rfl
 simp only [e0] at key
 rw [key]
 have:=walkL_rel (visS n) (visI n) (fun a=>some a.2) (fun a=>(.inl a.2:(List Int) ⊕ (List Int×Bool))) (fun b c=>match b with | some l=>c=.inl l | none=>c=.inr ([],false)) (fun i x a=>by
  unfold visS visI
  cases visB n x a
  · exact .inl ⟨_,rfl,rfl⟩
  · exact .inr ⟨_,_,rfl,rfl,rfl⟩) (fun a=>rfl) r.Fibers 0 (r.Start,[r.Start])
 revert this
 generalize walkL (visI n) (fun a=>(.inl a.2:(List Int) ⊕ (List Int×Bool))) 0 r.Fibers (r.Start,[r.Start])=c
 cases walkL (visS n) (fun a=>some a.2) 0 r.Fibers (r.Start,[r.Start]) with
 | none=>intro h; rw [h]; rfl
 | some l=>intro h; rw [h]; rfl
theorem p_l4Walk (n:TNetwork) (r:TRoute) (hN:n.Nodes.length≤1048576) (hF:n.Fibers.length≤1048576) (hr:r.Fibers.length≤1048576):∃ o,M_cb n r=some (o,(visP n r).isSome)∧∀ l,visP n r=some l→o=l:=by
 unfold M_cb visP
 simp only [p_l1In,Option.bind_some,len0,bnd]
 rw [w64_eq (n:=(n.Nodes.length:Int) - 1) (by omega) (by omega)]
 have hc:(cond (!wi r.Start 0 ((n.Nodes.length:Int) - 1)) (some true) (some (decide (r.Fibers.length=0))):Option Bool)=some (!wi r.Start 0 ((n.Nodes.length:Int) - 1)||decide (r.Fibers.length=0)):=by
  cases wi r.Start 0 ((n.Nodes.length:Int) - 1) <;> rfl
 rw [hc]
 simp only [Option.bind_some]
 rcases bt (!wi r.Start 0 ((n.Nodes.length:Int) - 1)||decide (r.Fibers.length=0)) with e | e
 · rw [e]; exact ⟨[r.Start],rfl,fun l h=>by simp at h⟩
 rw [e]
 simp only [cond_false,Bool.false_eq_true,if_false]
 have key:=iter_list (f:=M_ay n r) r.Fibers (fun i (a:Int×List Int)=>((i:Int),a.2)) (visK n) (fun a=>.inl a.2) (fun i a=>a.2.length=i+1∧a.2[i]?=some a.1) (fun i a x hx hI=>by
  have hlt:=(List.getElem?_eq_some_iff.1 hx).1
  have h1:decide ((i:Int) < r.Fibers.length)=true:=by simp [hlt]
  simp only [M_ay,h1,cond_true,geti_nat,hx,Option.bind_some,p_l1In]
  have hl1:IntKind.wrap .i64 ((a.2.length:Int) - 1)=(i:Int):=by rw [w64_eq (by omega) (by omega)]; omega
  rw [w64_eq (n:=(n.Fibers.length:Int) - 1) (by omega) (by omega),w64_eq (n:=(i:Int)+1) (by omega) (by omega),hl1]
  unfold visK visB
  rcases bt (wi x 0 ((n.Fibers.length:Int) - 1)) with e1 | e1
  · simp only [e1,Bool.not_true,cond_false,Option.bind_some,Bool.false_or,Int.toNat_natCast,hI.2]
    rw [grd_t (by omega)]
    simp only [Option.bind_some,p_l2Other n x a.1 e1,p_l1Has a.2 (othI n x a.1) (by omega)]
    have hm:(a.2.any fun y=>y==othI n x a.1)=decide (othI n x a.1∈a.2):=by
     rw [Bool.eq_iff_iff]; simp
    rw [hm]
    by_cases h3:othI n x a.1 < 0
    · exact .inr ⟨_,by simp [h3]; rfl,by simp [h3]⟩
    · by_cases h4:othI n x a.1∈a.2
      · exact .inr ⟨_,by simp [h4]; rfl,by simp [h3,h4]⟩
      · refine .inl ⟨(othI n x a.1,a.2++[othI n x a.1]),by simp [h3,h4],⟨by simp [hI.1],by rw [← hI.1]; simp⟩,?_⟩
        simp only [decide_eq_false h3,decide_eq_false h4,cond_false,Option.bind_some]
        rw [grd_t (by omega)]
        rfl
  · exact .inr ⟨_,by simp [e1]; rfl,by simp [e1]⟩) (fun a _=>by simp [M_ay]) (r.Start,[r.Start]) ⟨rfl,rfl⟩ (by omega)
 have e0:((0:Nat):Int)=0:=rfl
 simp only [e0] at key
 rw [key]
 have:=walkL_rel (visS n) (visK n) (fun a=>some a.2) (fun a=>(.inl a.2:(List Int) ⊕ (List Int×Bool))) (fun b c=>match b with | some l=>c=.inl l | none=>∃ o,c=.inr (o,false)) (fun i x a=>by
  unfold visS visK
  cases visB n x a
  · exact .inl ⟨_,rfl,rfl⟩
  · exact .inr ⟨_,_,rfl,rfl,_,rfl⟩) (fun a=>rfl) r.Fibers 0 (r.Start,[r.Start])
 revert this
 generalize walkL (visK n) (fun a=>(.inl a.2:(List Int) ⊕ (List Int×Bool))) 0 r.Fibers (r.Start,[r.Start])=c
 cases walkL (visS n) (fun a=>some a.2) 0 r.Fibers (r.Start,[r.Start]) with
 | none=>rintro ⟨o,h⟩; rw [h]; exact ⟨o,rfl,fun l h=>by cases h⟩
 | some l=>intro h; rw [h]; exact ⟨l,rfl,fun l' h=>by cases h; rfl⟩
def rteOk (n:TNetwork) (r:TRoute):Bool:=netOk n&&(visP n r).isSome
theorem p_IsValidRoute (n:TNetwork) (r:TRoute) (hz:z_Network n≤1048576) (hr:r.Fibers.length≤1048576):M_bp n r=some (rteOk n r):=by
 obtain ⟨h1,h2,_⟩:=z_net hz
 unfold M_bp M_ec rteOk
 rw [p_IsValidNetwork n hz]
 simp only [Option.bind_some]
 rcases bt (netOk n) with e | e
 · rw [e]
   simp only [Bool.not_true,cond_false,p_visited n r (by omega) (by omega) hr,Option.bind_some]
   cases visP n r <;> rfl
 · rw [e]; rfl
theorem p_l4Good (n:TNetwork) (r:TRoute) (hz:z_Network n≤1048576) (hr:r.Fibers.length≤1048576):M_bq n r=some (rteOk n r):=by
 obtain ⟨h1,h2,_⟩:=z_net hz
 unfold M_bq rteOk
 rw [p_l2Good n hz]
 simp only [Option.bind_some]
 rcases bt (netOk n) with e | e
 · obtain ⟨o,o1,_⟩:=p_l4Walk n r (by omega) (by omega) hr
   rw [e]
   simp only [Bool.not_true,cond_false,o1,Option.bind_some,Bool.true_and]
 · rw [e]; rfl
theorem vis_facts {n:TNetwork} (hE:∀ f∈n.Fibers,f.A < n.Nodes.length∧f.B < n.Nodes.length):∀ (xs:List Int) (i:Nat) (a:Int×List Int) (l:List Int),walkL (visS n) (fun a=>some a.2) i xs a=some l→a.2.Nodup→(∀ v∈a.2,0≤v∧v < (n.Nodes.length:Int))→a.1∈a.2 →
 l.Nodup∧(∀ v∈l,0≤v∧v < (n.Nodes.length:Int))∧l.length=a.2.length+xs.length∧(∀ e∈xs,0≤e∧e < (n.Fibers.length:Int))∧xs.Nodup∧∀ e∈xs,∀ f,n.Fibers[e.toNat]?=some f→¬ (f.A∈a.2∧f.B∈a.2)
 | [],_,a,l,h,hd,hv,_=>by simp only [walkL,Option.some.injEq] at h; subst h; exact ⟨hd,hv,by simp,by simp,by simp,by simp⟩
 | x :: xs, i, a, l, h, hd, hv, ha => by
   simp only [walkL,visS] at h
   rcases bt (visB n x a) with e | e
   · rw [e] at h; cases h
   · rw [e] at h
     simp only [Bool.false_eq_true,if_false] at h
     simp only [visB,Bool.or_eq_false_iff,Bool.not_eq_false',decide_eq_false_iff_not,wi_iff] at e
     obtain ⟨⟨e1,e2⟩,e3⟩:=e
     have hi:x.toNat < n.Fibers.length:=by omega
     have hf:=hE _ (List.getElem_mem hi)
     have hg:=List.getElem?_eq_getElem hi
     generalize n.Fibers[x.toNat]=f at hf hg
     have ho:othI n x a.1=otherP f a.1:=by unfold othI; rw [hg]
     have hend:(f.A=a.1∧f.B=othI n x a.1)∨(f.B=a.1∧f.A=othI n x a.1):=by
      rw [ho] at e2 ⊢
      unfold otherP at e2 ⊢
      split
      · rename_i h1; exact .inl ⟨h1.symm,rfl⟩
      · split
        · rename_i h1; exact .inr ⟨h1.symm,rfl⟩
        · rename_i h1 h2; simp [h1,h2] at e2
     have hlt:othI n x a.1 < n.Nodes.length:=by omega
     obtain ⟨g1,g2,g3,g4,g5,g6⟩:=vis_facts hE xs (i+1) _ l h (by
      rw [List.nodup_append]
      exact ⟨hd,by simp,fun u hu v hv=>by simp at hv; subst hv; intro e; subst e; exact e3 hu⟩) (fun v hv2=>by
      simp only [List.mem_append,List.mem_singleton] at hv2
      rcases hv2 with h | h
      · exact hv v h
      · subst h; exact ⟨by omega,hlt⟩) (by simp)
     refine ⟨g1,g2,by rw [g3]; simp; omega,fun e he=>?_,List.nodup_cons.2 ⟨fun hm=>?_,g5⟩,fun e he f' hf'=>?_⟩
     · rcases List.mem_cons.1 he with rfl | he
       · omega
       · exact g4 e he
     · refine g6 x hm f hg ?_
       simp only [List.mem_append,List.mem_singleton]
       rcases hend with ⟨h1,h2⟩ | ⟨h1,h2⟩
       · exact ⟨.inl (h1 ▸ ha),.inr h2⟩
       · exact ⟨.inr h2,.inl (h1 ▸ ha)⟩
     · rcases List.mem_cons.1 he with rfl | he
       · rw [hg] at hf'; cases hf'
         rcases hend with ⟨h1,h2⟩ | ⟨h1,h2⟩
         · exact fun h=>e3 (h2 ▸ h.2)
         · exact fun h=>e3 (h2 ▸ h.1)
       · exact fun h=>g6 e he f' hf' ⟨List.mem_append_left _ h.1,List.mem_append_left _ h.2⟩
theorem rte_facts {n:TNetwork} {r:TRoute} (hE:∀ f∈n.Fibers,f.A < n.Nodes.length∧f.B < n.Nodes.length) {l:List Int} (h:visP n r=some l):l.Nodup∧(∀ v∈l,0≤v∧v < (n.Nodes.length:Int))∧l.length=r.Fibers.length+1∧(∀ e∈r.Fibers,0≤e∧e < (n.Fibers.length:Int))∧r.Fibers.Nodup:=by
 unfold visP at h
 split at h
 · cases h
 · rename_i hc
   simp only [Bool.or_eq_true,Bool.not_eq_true',decide_eq_true_eq,not_or,Bool.not_eq_false,wi_iff] at hc
   obtain ⟨g1,g2,g3,g4,g5,_⟩:=vis_facts hE _ _ _ _ h (by simp) (fun v hv=>by simp at hv; subst hv; omega) (by simp)
   exact ⟨g1,g2,by rw [g3]; simp; omega,g4,g5⟩
theorem nodup_le:∀ (m:Nat) (l:List Int),l.Nodup→(∀ x∈l,0≤x∧x < (m:Int))→l.length≤m
 | 0, l, _, h => by
   cases l with
   | nil=>simp
   | cons x l=>have:=h x (by simp); omega
 | m + 1, l, hn, h => by
   by_cases hm:(m:Int)∈l
   · have:=nodup_le m (l.erase (m:Int)) (hn.erase _) (fun x hx=>by
      have h1:=(hn.mem_erase_iff).1 hx
      have:=h x h1.2
      have h3:=h1.1
      omega)
     rw [List.length_erase_of_mem hm] at this
     omega
   · have:=nodup_le m l hn (fun x hx=>by
      have:=h x hx
      have:x ≠ (m:Int):=fun e=>hm (e ▸ hx)
      omega)
     omega
end Vs

namespace Vs
open Go
def comP (a gone:List Int):List Int:=a.filter fun x=>decide (x∈gone)
theorem walkL_fil1 (p:Int→Bool):∀ (xs:List Int) (i:Nat) (l:List Int),walkL (fun (_:Nat) (x:Int) (l:List Int)=>(.inl (if p x then l++[x] else l):List Int ⊕ List Int)) (fun l=>l) i xs l=l++xs.filter p
 | [],_,l=>by simp [walkL]
 | x :: xs, i, l => by
   simp only [walkL]
   rw [walkL_fil1 p xs (i+1)]
   by_cases h:p x=true
   · simp [h]
   · simp [h]
theorem p_comL (a gone:List Int) (ha:a.length≤1048576) (hg:gone.length≤1048576):iter (M_i a gone) N0 (0,[])=some (comP a gone):=by
 have key:=iter_list (f:=M_i a gone) a (fun i (l:List Int)=>((i:Int),l)) (fun _ x l=>.inl (if decide (x∈gone) then l++[x] else l)) (fun l=>l) (fun i l=>l.length≤i) (fun i l x hx hI=>by
  have hlt:=(List.getElem?_eq_some_iff.1 hx).1
  have h1:decide ((i:Int) < a.length)=true:=by simp [hlt]
  refine .inl ⟨_,rfl,by split <;> (try simp only [List.length_append,List.length_cons,List.length_nil]) <;> omega,?_⟩
  simp only [M_i,h1,cond_true,geti_nat,hx,Option.bind_some,p_ContI gone x hg,bnd]
  rw [w64_eq (n:=(i:Int)+1) (by omega) (by omega)]
  by_cases h:x∈gone
  · rw [decide_eq_true h,cond_true,grd_t (by omega),if_pos rfl]; rfl
  · rw [decide_eq_false h,cond_false,if_neg (by simp)]; rfl) (fun l _=>by simp [M_i]) [] (Nat.le_refl 0) (by omega)
 have e0:((0:Nat):Int)=0:=rfl
 simp only [e0] at key
 rw [key,walkL_fil1]
 rfl
theorem p_CompactN (l:List Int) (hl:l.length≤1048576) (hn:l.Nodup):M_ct 0 l.length l=some (0,l.length,l):=by
 unfold M_ct
 by_cases h:(l.length:Int) < 2
 · rw [decide_eq_true h]; rfl
 rw [decide_eq_false h,cond_false]
 obtain ⟨o,o1,o2⟩:=iter_inv (f:=M_aj 0 l.length l) (fun s=>∃ i:Nat,s=i∧1≤i∧i≤l.length) (fun s=>l.length - s.toNat) (fun o=>o=.inl ()) (fun s hI=>by
  obtain ⟨i,rfl,h1,h2⟩:=hI
  by_cases hi:i < l.length
  · left
    have e1:decide ((i:Int) < (l.length:Int))=true:=decide_eq_true (by omega)
    have ew:IntKind.wrap .i64 ((i:Int) - 1)=((i - 1:Nat):Int):=by rw [w64_eq (by omega) (by omega)]; omega
    have hne:l[i] ≠ l[i - 1]:=fun e=>(List.pairwise_iff_getElem.1 hn (i - 1) i (by omega) hi (by omega)) e.symm
    have g1:l[0+i]?=some l[i]:=by rw [Nat.zero_add]; exact List.getElem?_eq_getElem hi
    have g2:l[0+(i - 1)]?=some l[i - 1]:=by rw [Nat.zero_add]; exact List.getElem?_eq_getElem (by omega)
    refine ⟨((i+1:Nat):Int),?_,⟨i+1,rfl,by omega,by omega⟩,by simp only [Int.toNat_natCast]; omega⟩
    simp only [M_aj,e1,cond_true,Int.toNat_natCast,g1,ew,g2]
    rw [grd_t (by omega),grd_t (by omega)]
    simp only [Option.bind_some]
    rw [beq_eq_false_iff_ne.2 hne,cond_false,w64_eq (by omega) (by omega)]
    rfl
  · right
    have e1:decide ((i:Int) < (l.length:Int))=false:=decide_eq_false (by omega)
    exact ⟨_,by simp only [M_aj,e1,cond_false],rfl⟩) N0 ((1:Nat):Int) ⟨1,rfl,by omega,by omega⟩ (N0_lt (by simp; omega))
 have e1:((1:Nat):Int)=1:=rfl
 rw [e1] at o1
 rw [o1,o2]; rfl
theorem p_common (a gone:List Int) (ha:a.length≤12) (hg:gone.length≤1048576) (hn:a.Nodup):∃ l,M_bi a gone=some l∧l.Perm (comP a gone)∧l.Pairwise (·≤·):=by
 unfold M_bi
 have hc:(comP a gone).length≤a.length:=List.length_filter_le ..
 rw [p_comL a gone (by omega) hg]
 simp only [Option.bind_some]
 obtain ⟨l,l1,l2,l3⟩:=p_SortI (comP a gone) (by omega)
 have hln:=l2.length_eq
 rw [l1]
 simp only [Option.bind_some]
 rw [← hln,p_CompactN l (by omega) ((l2.nodup_iff).2 (hn.filter _))]
 simp only [Option.bind_some,bnd,subT_all]
 exact ⟨l,rfl,l2,l3⟩
def sepP (a gone:List Int):Bool:=!a.any fun x=>decide (x∈gone)
theorem sep_len {a gone l:List Int} (h:l.Perm (comP a gone)):((l.length:Int)==0)=sepP a gone:=by
 rw [h.length_eq,Bool.eq_iff_iff]
 simp [sepP,comP]
theorem band (a b:Nat) (ha:a < 2 ^ 62) (hb:b < 2 ^ 62):bits .and .i64 (a:Int) (b:Int)=((a &&& b:Nat):Int):=by
 have hab:a &&& b < 2 ^ 62:=Nat.lt_of_le_of_lt Nat.and_le_left ha
 show IntKind.wrap .i64 ((BitVec.ofInt 64 (a:Int) &&& BitVec.ofInt 64 (b:Int)).toNat:Int)=_
 rw [ofNat64,ofNat64,BitVec.toNat_and,BitVec.toNat_ofNat,BitVec.toNat_ofNat,Nat.mod_eq_of_lt (by omega),Nat.mod_eq_of_lt (by omega),w64_eq (by omega) (by omega)]
theorem sep_mask (s:Int) (gr:List (List Int)) (a:List Int) (hg:∀ g∈gr,∀ x∈g,0≤x∧x < 62) (ha:∀ x∈a,0≤x∧x < 62):(bits .and .i64 (goneM s gr) (maskP a)==0)=sepP a (goneL s gr):=by
 obtain ⟨m,h1,h2,h3⟩:=gone_spec s gr 0 [] 0 hg (by decide) (fun i=>by simp)
 obtain ⟨q,q1,q2,q3⟩:=maskP_spec a ha
 have e:goneM s gr=(m:Int):=h1
 have h3:∀ i,m.testBit i=decide ((i:Int)∈goneL s gr):=h3
 rw [e,q1,band m q h2 q2,Bool.eq_iff_iff]
 simp only [sepP,beq_iff_eq,Bool.not_eq_true',List.any_eq_false,decide_eq_true_eq]
 constructor
 · intro hz x hx hgx
   have hz:m &&& q=0:=by omega
   have hx0:=ha x hx
   have hb:(m &&& q).testBit x.toNat=true:=by
    rw [Nat.testBit_and,h3,q3,Int.toNat_of_nonneg hx0.1]; simp [hx,hgx]
   rw [hz,Nat.zero_testBit] at hb; cases hb
 · intro hno
   have:m &&& q=0:=Nat.eq_of_testBit_eq fun i=>by
    rw [Nat.zero_testBit,Nat.testBit_and,h3,q3]
    rw [Bool.eq_false_iff]
    intro hh
    simp only [Bool.and_eq_true,decide_eq_true_eq] at hh
    exact hno _ hh.2 hh.1
   rw [this]; rfl
theorem rte_ok {n:TNetwork} {r:TRoute} (h:rteOk n r=true):r.Fibers.length≤12∧r.Fibers.Nodup∧∀ x∈r.Fibers,0≤x∧x < 62:=by
 unfold rteOk at h
 obtain ⟨h1,h2⟩:=Bool.and_eq_true_iff.1 h
 have hb:=netOk_b h1
 have hE:=net_ed h1
 obtain ⟨l,hl⟩:=Option.isSome_iff_exists.1 h2
 obtain ⟨g1,g2,g3,g4,g5⟩:=rte_facts (fun f hf=>by have:=hE f hf; omega) hl
 have:=nodup_le n.Nodes.length l g1 g2
 exact ⟨by omega,g5,fun x hx=>by have:=g4 x hx; omega⟩
def sep2 (a b:TRoute) (gone:List Int):Bool:=sepP a.Fibers gone||sepP b.Fibers gone
def paP (n:TNetwork) (o:TOutage) (a b:TRoute):Int×Bool:=if outOk n o&&rteOk n a&&rteOk n b then (conP n o (sep2 a b),true) else (0,false)
theorem p_spec_PairAvailability (n:TNetwork) (o:TOutage) (a b:TRoute) (hz:z_Network n≤1048576) (ho:z_Outage o≤1048576) (ha:z_Route a≤1048576) (hb:z_Route b≤1048576):M_cu n o a b=some (paP n o a b):=by
 have ho':o.Down.length≤1048576:=by unfold z_Outage z_IntS at ho; omega
 have ha':a.Fibers.length≤1048576:=by unfold z_Route z_IntS at ha; omega
 have hb':b.Fibers.length≤1048576:=by unfold z_Route z_IntS at hb; omega
 unfold M_cu paP
 rw [p_spec_Outage n o hz ho',p_l4Good n a hz ha',p_l4Good n b hz hb']
 simp only [Option.bind_some]
 have hc:(cond (!outOk n o) (some true) (cond (!rteOk n a) (some true) (some (!rteOk n b))):Option Bool)=some (!(outOk n o&&rteOk n a&&rteOk n b)):=by
  cases outOk n o <;> cases rteOk n a <;> cases rteOk n b <;> rfl
 rw [hc]
 simp only [Option.bind_some]
 rcases bt (outOk n o&&rteOk n a&&rteOk n b) with e | e
 · have e':=e
   simp only [Bool.and_eq_true] at e'
   obtain ⟨⟨e1,e2⟩,e3⟩:=e'
   obtain ⟨a1,a2,a3⟩:=rte_ok e2
   obtain ⟨b1,b2,b3⟩:=rte_ok e3
   have hnet:netOk n=true:=by unfold rteOk at e2; exact (Bool.and_eq_true_iff.1 e2).1
   have hnb:=netOk_b hnet
   rw [e,if_pos rfl]
   simp only [Bool.not_true,cond_false,p_l2Groups n (show n.Fibers.length≤14 by omega),Option.bind_some]
   unfold conP
   have hK:=groupsP_len n (by omega)
   have hgr:=groups_rng (n:=n) (by omega)
   generalize groupsP n=gr at hK hgr
   have hL:=pow_lim hK
   have:iter (M_j o a b gr) N0 (0,0)=some (foldI (fun i (_:Nat) (s:Int)=>if sep2 a b (goneL (i:Int) gr) then IntKind.wrap .i64 (s+weightP o (i:Int)) else s) 0 (List.range (2 ^ gr.length)) 0):=by
    have hu:IntKind.wrap .u64 (gr.length:Int)=(gr.length:Int):=w64u_eq (by omega) (by omega)
    refine iter_foldI (f:=M_j o a b gr) (List.range (2 ^ gr.length)) (fun i (s:Int)=>(s,(i:Int))) _ id (fun i s=>True) (fun i s x hx hI=>?_) (fun s hI=>?_) 0 trivial (by simp; omega)
    · obtain ⟨rfl,hi⟩:=range_at hx
      refine ⟨trivial,?_⟩
      have h1:decide ((x:Int) < IntKind.wrap .i64 (1 * 2 ^ (min gr.length (IntKind.bits .i64))))=true:=by
       rw [shl1 _ (by omega)]; exact decide_eq_true (by exact_mod_cast hi)
      simp only [M_j,hu,Int.toNat_natCast]
      rw [grd_t (by omega)]
      simp only [h1,cond_true,Option.bind_some,p_goneM (x:Int) gr hgr hK,p_l6Mask a.Fibers (fun y hy=>by have:=a3 y hy; omega) (by omega),p_l6Mask b.Fibers (fun y hy=>by have:=b3 y hy; omega) (by omega),w64_eq (n:=(x:Int)+1) (by omega) (by omega),
       sep_mask (x:Int) gr a.Fibers (fun g hg y hy=>by have:=(hgr g hg).2 y hy; omega) a3,sep_mask (x:Int) gr b.Fibers (fun g hg y hy=>by have:=(hgr g hg).2 y hy; omega) b3]
      have hq:(cond (sepP a.Fibers (goneL (x:Int) gr)) (some true) (some (sepP b.Fibers (goneL (x:Int) gr))):Option Bool)=some (sep2 a b (goneL (x:Int) gr)):=by
       unfold sep2; cases sepP a.Fibers (goneL (x:Int) gr) <;> rfl
      rw [hq]
      simp only [Option.bind_some]
      rcases bt (sep2 a b (goneL (x:Int) gr)) with e | e
      · rw [e,cond_true,p_spec_weight o _ ho']; rfl
      · rw [e,cond_false]; rfl
    · have h1:decide (((List.range (2 ^ gr.length)).length:Int) < IntKind.wrap .i64 (1 * 2 ^ (min gr.length (IntKind.bits .i64))))=false:=by
       rw [shl1 _ (by omega)]; simp
      simp only [M_j,hu,Int.toNat_natCast]
      rw [grd_t (by omega)]
      simp only [h1,cond_false]; rfl
   rw [this]; rfl
 · rw [e,if_neg (by simp)]; rfl
theorem p_impl_PairAvailability (n:TNetwork) (o:TOutage) (a b:TRoute) (hz:z_Network n≤1048576) (ho:z_Outage o≤1048576) (ha:z_Route a≤1048576) (hb:z_Route b≤1048576):M_cv n o a b=some (paP n o a b):=by
 have ho':o.Down.length≤1048576:=by unfold z_Outage z_IntS at ho; omega
 have ha':a.Fibers.length≤1048576:=by unfold z_Route z_IntS at ha; omega
 have hb':b.Fibers.length≤1048576:=by unfold z_Route z_IntS at hb; omega
 unfold M_cv M_dw paP
 rw [p_impl_Outage n o hz ho',p_IsValidRoute n a hz ha',p_IsValidRoute n b hz hb']
 simp only [Option.bind_some]
 rcases bt (outOk n o) with e1 | e1
 · rcases bt (rteOk n a) with e2 | e2
   · rcases bt (rteOk n b) with e3 | e3
     · obtain ⟨a1,a2,a3⟩:=rte_ok e2
       obtain ⟨b1,b2,b3⟩:=rte_ok e3
       have hnet:netOk n=true:=by unfold rteOk at e2; exact (Bool.and_eq_true_iff.1 e2).1
       have hnb:=netOk_b hnet
       have hcl:∀ l:List Int,l.length≤1048576→M_cd l a b=some (sep2 a b l):=fun l hl=>by
        unfold M_cd sep2
        obtain ⟨l1,k1,k2,_⟩:=p_common a.Fibers l a1 hl a2
        obtain ⟨l2,q1,q2,_⟩:=p_common b.Fibers l b1 hl b2
        rw [k1,q1]
        simp only [Option.bind_some,sep_len k2,sep_len q2]
        cases sepP a.Fibers l <;> rfl
       simp only [e1,e2,e3,Bool.not_true,cond_false,cond_true,Option.bind_some,Bool.and_self,if_true,p_chance n o (show n.Fibers.length≤14 by omega) ho' (fun x0=>M_cd x0 a b) (sep2 a b) hcl]
     · simp [e1,e2,e3]
   · simp [e1,e2]
 · simp [e1]
theorem sep2_self (a:TRoute):sep2 a a=sepP a.Fibers:=by funext l; unfold sep2; rw [Bool.or_self]
theorem p_impl_RouteAvailability (n:TNetwork) (o:TOutage) (a:TRoute) (hz:z_Network n≤1048576) (ho:z_Outage o≤1048576) (ha:z_Route a≤1048576):M_bs n o a=some (paP n o a a):=by
 have ho':o.Down.length≤1048576:=by unfold z_Outage z_IntS at ho; omega
 have ha':a.Fibers.length≤1048576:=by unfold z_Route z_IntS at ha; omega
 unfold M_bs paP
 rw [p_impl_Outage n o hz ho',p_IsValidRoute n a hz ha']
 simp only [Option.bind_some]
 rcases bt (outOk n o) with e1 | e1
 · rcases bt (rteOk n a) with e2 | e2
   · obtain ⟨a1,a2,a3⟩:=rte_ok e2
     have hnet:netOk n=true:=by unfold rteOk at e2; exact (Bool.and_eq_true_iff.1 e2).1
     have hnb:=netOk_b hnet
     have hcl:∀ l:List Int,l.length≤1048576→M_ce l a=some (sep2 a a l):=fun l hl=>by
      unfold M_ce
      obtain ⟨l1,k1,k2,_⟩:=p_common a.Fibers l a1 hl a2
      rw [k1,sep2_self]
      simp only [Option.bind_some,sep_len k2]
     simp only [e1,e2,Bool.not_true,cond_false,cond_true,Option.bind_some,Bool.and_self,if_true,p_chance n o (show n.Fibers.length≤14 by omega) ho' (fun x0=>M_ce x0 a) (sep2 a a) hcl]
   · simp [e1,e2]
 · simp [e1]
end Vs

namespace Vs
open Go
end Vs

namespace Vs
open Go
structure CurOk (c:Tl1Cur) (m:Nat):Prop where
 by8:∀ x∈c.code,0≤x∧x≤255
 len:c.code.length≤65536
 at0:0≤c.atF
 atm:c.atF≤(m:Int)
theorem and255 (x:Int):0≤bits .and .u64 x 255∧bits .and .u64 x 255≤255:=by
 have h:(BitVec.ofInt (IntKind.bits .u64) x &&& BitVec.ofInt (IntKind.bits .u64) 255).toNat≤255:=by
  rw [BitVec.toNat_and]
  exact Nat.le_trans Nat.and_le_right (by decide)
 unfold bits
 simp only
 generalize (BitVec.ofInt (IntKind.bits .u64) x &&& BitVec.ofInt (IntKind.bits .u64) 255).toNat=k at h
 have:IntKind.wrap .u64 (k:Int)=(k:Int):=by
  unfold IntKind.wrap
  simp [IntKind.bits,IntKind.signed]
  omega
 rw [this]; omega
theorem p_next {c:Tl1Cur} {m:Nat} (h:CurOk c m) (hm:m≤1000000000000):∃ b c',M_bt c=some (b,c')∧0≤b∧b≤255∧CurOk c' (m+1):=by
 obtain ⟨h1,h2,h3,h4⟩:=h
 have hb:∃ b,(cond (decide (c.atF < (c.code.length:Int))) ((geti c.code c.atF).bind fun yZ2=>some (IntKind.wrap .i64 yZ2)) (some 0):Option Int)=some b∧0≤b∧b≤255:=by
  by_cases e:c.atF < (c.code.length:Int)
  · rw [decide_eq_true e,cond_true]
    have hlt:c.atF.toNat < c.code.length:=by omega
    have hg:geti c.code c.atF=some c.code[c.atF.toNat]:=by
     unfold geti; rw [if_pos h3]; exact List.getElem?_eq_getElem hlt
    have:=h1 _ (List.getElem_mem hlt)
    rw [hg]
    refine ⟨c.code[c.atF.toNat],?_,this.1,this.2⟩
    simp only [Option.bind_some]
    rw [w64_eq (by omega) (by omega)]
  · rw [decide_eq_false e,cond_false]; exact ⟨0,rfl,by omega,by omega⟩
 obtain ⟨b,b1,b2,b3⟩:=hb
 unfold M_bt
 rw [b1]
 simp only [Option.bind_some]
 rw [w64_eq (n:=c.atF+1) (by omega) (by omega)]
 by_cases e:c.atF+1≤(c.code.length:Int)
 · rw [decide_eq_true e,cond_true]
   exact ⟨_,_,rfl,b2,b3,⟨h1,h2,by simp only; omega,by simp only; omega⟩⟩
 · rw [decide_eq_false e,cond_false]
   have h5:=and255 (Int.fdiv (IntKind.wrap .u64 ((IntKind.wrap .u64 ((IntKind.wrap .u64 (c.seed * 6364136223846793005))+(IntKind.wrap .u64 b)))+897897)) (2 ^ (min (Int.toNat 40) (IntKind.bits .u64))))
   refine ⟨_,_,rfl,?_,?_,⟨h1,h2,by simp only; omega,by simp only; omega⟩⟩
   · rw [w64_eq (by omega) (by omega)]; exact h5.1
   · rw [w64_eq (by omega) (by omega)]; exact h5.2
theorem p_pick {c:Tl1Cur} {m:Nat} (n:Int) (h:CurOk c m) (hm:m≤100000000000):∃ x c',M_a n c=some (x,c')∧0≤x∧(x < n∨x=0)∧CurOk c' (m+2):=by
 unfold M_a
 by_cases e:n≤1
 · rw [decide_eq_true e,cond_true]
   exact ⟨0,c,rfl,by omega,.inr rfl,⟨h.by8,h.len,h.at0,by have:=h.atm; omega⟩⟩
 · rw [decide_eq_false e,cond_false]
   obtain ⟨b,c1,g1,g2,g3,g4⟩:=p_next h (by omega)
   rw [g1]
   simp only [Option.bind_some]
   by_cases e2:200 < n
   · rw [decide_eq_true e2,cond_true]
     obtain ⟨b',c2,k1,k2,k3,k4⟩:=p_next g4 (by omega)
     rw [k1]
     simp only [Option.bind_some]
     rw [grd_t (by omega)]
     simp only [Option.bind_some]
     refine ⟨_,_,rfl,?_,.inl ?_,k4⟩
     · rw [w64_eq (n:=b * 256) (by omega) (by omega),w64_eq (by omega) (by omega)]
       exact Int.tmod_nonneg _ (by omega)
     · exact Int.tmod_lt_of_pos _ (by omega)
   · rw [decide_eq_false e2,cond_false,grd_t (by omega)]
     simp only [Option.bind_some]
     exact ⟨_,_,rfl,Int.tmod_nonneg _ g2,.inl (Int.tmod_lt_of_pos _ (by omega)),⟨g4.by8,g4.len,g4.at0,by have:=g4.atm; omega⟩⟩
theorem CurOk.up {c:Tl1Cur} {m k:Nat} (h:CurOk c m) (hk:m≤k):CurOk c k:=⟨h.by8,h.len,h.at0,by have:=h.atm; omega⟩
theorem p_one {c:Tl1Cur} {m:Nat} (n:Int) (h:CurOk c m) (hm:m≤100000000000):∃ b c',M_cf n c=some (b,c')∧CurOk c' (m+2):=by
 obtain ⟨x,c1,g1,g2,g3,g4⟩:=p_pick n h hm
 unfold M_cf
 rw [g1]
 exact ⟨_,_,rfl,g4⟩
theorem p_amongL {c:Tl1Cur} {m:Nat} (l:List Int) (h:CurOk c m) (hm:m≤100000000000) (hl:0 < l.length):∃ x c',M_ak c l=some (x,c',l)∧x∈l∧CurOk c' (m+2):=by
 obtain ⟨i,c1,g1,g2,g3,g4⟩:=p_pick (l.length:Int) h hm
 unfold M_ak
 rw [g1]
 simp only [Option.bind_some]
 have hi:i.toNat < l.length:=by omega
 rw [grd_t (by omega)]
 simp only [Option.bind_some,List.getElem?_eq_getElem hi]
 exact ⟨_,_,rfl,List.getElem_mem hi,g4⟩
theorem p_ofL {c:Tl1Cur} {m:Nat} (l:List ByteArray) (h:CurOk c m) (hm:m≤100000000000) (hl:0 < l.length):∃ x c',M_cw c l=some (x,c',l)∧x∈l∧CurOk c' (m+2):=by
 obtain ⟨i,c1,g1,g2,g3,g4⟩:=p_pick (l.length:Int) h hm
 unfold M_cw
 rw [g1]
 simp only [Option.bind_some]
 have hi:i.toNat < l.length:=by omega
 rw [grd_t (by omega)]
 simp only [Option.bind_some,List.getElem?_eq_getElem hi]
 exact ⟨_,_,rfl,List.getElem_mem hi,g4⟩
end Vs

namespace Vs
open Go
theorem p_beforeT (f g:TFiber):∃ r,M_bk f g=some r:=by
 unfold M_bk
 cases (f.A != g.A)
 · cases (f.B != g.B)
   · cases (f.Length != g.Length) <;> exact ⟨_,rfl⟩
   · exact ⟨_,rfl⟩
 · exact ⟨_,rfl⟩
theorem p_least (a b:Int):∃ r,M_bv a b=some r:=by
 unfold M_bv
 cases decide (a < b) <;> exact ⟨_,rfl⟩
theorem p_most (a b:Int):∃ r,M_bw a b=some r∧a≤r∧b≤r∧(r=a∨r=b):=by
 unfold M_bw
 by_cases h:b < a
 · rw [decide_eq_true h,cond_true]; exact ⟨a,rfl,by omega,by omega,.inl rfl⟩
 · rw [decide_eq_false h,cond_false]; exact ⟨b,rfl,by omega,by omega,.inr rfl⟩
theorem p_l2Put (l:List TFiber) (f:TFiber) (hl:l.length≤1048576):∃ l',M_bx l f=some l'∧l'.length=l.length+1:=by
 obtain ⟨o,o1,i,rfl,o3⟩:=iter_inv (f:=M_r l f) (fun s=>∃ i:Nat,s=i∧i≤l.length) (fun s=>l.length - s.toNat) (fun o=>∃ i:Nat,o=(i:Int)∧i≤l.length) (fun s hI=>by
  obtain ⟨i,rfl,hi⟩:=hI
  by_cases h:i < l.length
  · obtain ⟨r,hr⟩:=p_beforeT l[i] f
    simp only [M_r,decide_eq_true (show (i:Int) < (l.length:Int) by omega),cond_true,geti_nat,List.getElem?_eq_getElem h,Option.bind_some,hr]
    by_cases h2:r≤0
    · left
      rw [decide_eq_true h2,cond_true,w64_eq (n:=(i:Int)+1) (by omega) (by omega)]
      exact ⟨_,rfl,⟨i+1,by simp,by omega⟩,by omega⟩
    · right
      rw [decide_eq_false h2,cond_false]
      exact ⟨_,rfl,i,rfl,hi⟩
  · right
    simp only [M_r,decide_eq_false (show ¬ (i:Int) < (l.length:Int) by omega),cond_false]
    exact ⟨_,rfl,i,rfl,hi⟩) N0 0 ⟨0,rfl,by omega⟩ (N0_lt (by omega))
 unfold M_bx
 rw [o1]
 simp only [Option.bind_some,slT,slF,Int.toNat_natCast,bnd]
 rw [if_pos ⟨by omega,o3⟩,if_pos ⟨by omega,o3⟩]
 simp only [Option.bind_some]
 rw [grd_t (by simp; omega),]
 simp only [Option.bind_some]
 rw [grd_t (by simp; omega)]
 simp only [Option.bind_some]
 rw [grd_t (by simp; omega)]
 exact ⟨_,rfl,by simp; omega⟩
theorem net_step1 {c:Tl1Cur} {m:Nat} (x:Int) (c0:Tl1Cur) (hx:0≤x∧x < 5) (i:Int) (hi:0≤i∧i < 2+x) (fs:List TFiber) (hf:fs.length≤1000) (h:CurOk c m) (hm:m≤10000000000) :
 ∃ fs' c',M_m (x,c0) (i,fs,c)=some (.inl (i+1,fs',c'))∧fs'.length≤fs.length+1∧CurOk c' (m+6):=by
 obtain ⟨b,c1,hb,hc⟩:∃ b c1,(cond (i==Int.tmod (i+1) (2+x)) (some (true,c)) ((M_cf 10 c).bind fun rZ10=>some (rZ10.1,rZ10.2)):Option (Bool×Tl1Cur))=some (b,c1)∧CurOk c1 (m+2):=by
  cases (i==Int.tmod (i+1) (2+x))
  · obtain ⟨b,c1,g1,g2⟩:=p_one 10 h (by omega)
    exact ⟨b,c1,by rw [cond_false,g1]; rfl,g2⟩
  · exact ⟨true,c,rfl,h.up (by omega)⟩
 simp only [M_m,w64_eq (n:=2+x) (by omega) (by omega),w64_eq (n:=i+1) (by omega) (by omega),decide_eq_true hi.2,cond_true,grd_t (show (2+x) ≠ 0 by omega),Option.bind_some,hb]
 cases b with
 | true=>exact ⟨fs,c1,rfl,by omega,hc.up (by omega)⟩
 | false =>
   obtain ⟨a1,ha1⟩:=p_least i (Int.tmod (i+1) (2+x))
   obtain ⟨a2,ha2,_⟩:=p_most i (Int.tmod (i+1) (2+x))
   obtain ⟨x8,c2,g1,g2,g3,g4⟩:=p_pick 8 hc (by omega)
   obtain ⟨rk,c3,k1,k2,k3⟩:=p_amongL [0,0,0,1,2] g4 (by omega) (by simp)
   obtain ⟨l',l1,l2⟩:=p_l2Put fs ⟨a1,a2,IntKind.wrap .i64 (100 * (IntKind.wrap .i64 (1+x8))),rk⟩ (by omega)
   simp only [cond_false,ha1,ha2,g1,bnd,k1,l1,Option.bind_some]
   exact ⟨l',c3,rfl,by omega,k3.up (by omega)⟩
theorem net_step2 {c:Tl1Cur} {m:Nat} (x:Int) (c0:Tl1Cur) (hx:0≤x∧x < 5) (i:Int) (hi:0 < i∧i≤10) (fs:List TFiber) (hf:fs.length≤1000) (h:CurOk c m) (hm:m≤10000000000) :
 ∃ fs' c',M_n (x,c0) (i,fs,c)=some (.inl (i - 1,fs',c'))∧fs'.length≤fs.length+1∧CurOk c' (m+8):=by
 obtain ⟨p,c1,p1,p2,p3,p4⟩:=p_pick (2+x) h (by omega)
 obtain ⟨q,c2,q1,q2,q3,q4⟩:=p_pick (2+x) p4 (by omega)
 simp only [M_n,w64_eq (n:=2+x) (by omega) (by omega),w64_eq (n:=i - 1) (by omega) (by omega),decide_eq_true hi.1,cond_true,Option.bind_some,p1,q1]
 cases (p != q) with
 | false=>exact ⟨fs,c2,rfl,by omega,q4.up (by omega)⟩
 | true =>
   obtain ⟨a1,ha1⟩:=p_least p q
   obtain ⟨a2,ha2,_⟩:=p_most p q
   obtain ⟨x8,c2',g1,g2,g3,g4⟩:=p_pick 8 q4 (by omega)
   obtain ⟨rk,c3,k1,k2,k3⟩:=p_amongL [0,0,0,1,2] g4 (by omega) (by simp)
   obtain ⟨l',l1,l2⟩:=p_l2Put fs ⟨a1,a2,IntKind.wrap .i64 (100 * (IntKind.wrap .i64 (1+x8))),rk⟩ (by omega)
   simp only [cond_true,ha1,ha2,g1,bnd,k1,l1,Option.bind_some]
   exact ⟨l',c3,rfl,by omega,k3.up (by omega)⟩
theorem p_network {c:Tl1Cur} {m:Nat} (h:CurOk c m) (hm:m≤1000000000):∃ (K:Nat) (nodes:List ByteArray) (fs:List TFiber) (c':Tl1Cur),M_cy c=some (0,K,nodes,fs,c')∧2≤K∧K≤6∧nodes.length=6∧(∀ s∈nodes,s.size≤9)∧fs.length≤9∧CurOk c' (m+100):=by
 obtain ⟨x,c1,x1,x2,x3,x4⟩:=p_pick 5 h (by omega)
 have hx:0≤x∧x < 5:=by omega
 obtain ⟨⟨f1,c2⟩,o1,o2,o3⟩:=iter_inv (f:=M_m (x,c1)) (fun s=>0≤s.1∧s.1≤2+x∧(s.2.1.length:Int)≤s.1∧CurOk s.2.2 (m+2+6 * s.1.toNat)) (fun s=>(2+x - s.1).toNat) (fun o=>o.1.length≤6∧CurOk o.2 (m+38)) (fun s hI=>by
  obtain ⟨j,l,cc⟩:=s
  obtain ⟨i1,i2,i3,i4⟩:=hI
  simp only at i1 i2 i3 i4
  by_cases hj:j < 2+x
  · left
    obtain ⟨fs',c',g1,g2,g3⟩:=net_step1 x c1 hx j ⟨i1,hj⟩ l (by omega) i4 (by omega)
    exact ⟨_,g1,⟨by simp only; omega,by simp only; omega,by simp only; omega,g3.up (by simp only; omega)⟩,by simp only; omega⟩
  · right
    refine ⟨(l,cc),?_,by simp only; omega,i4.up (by omega)⟩
    simp only [M_m,w64_eq (n:=2+x) (by omega) (by omega),decide_eq_false hj,cond_false]) N0 (0,[],c1) ⟨by simp,by simp only; omega,by simp,x4.up (by simp)⟩ (N0_lt (by simp only; omega))
 simp only at o2 o3
 obtain ⟨y,c3,y1,y2,y3,y4⟩:=p_pick 4 o3 (by omega)
 have hy:0≤y∧y < 4:=by omega
 obtain ⟨⟨f2,c4⟩,q1,q2,q3⟩:=iter_inv (f:=M_n (x,c1)) (fun s=>0≤s.1∧s.1≤3∧(s.2.1.length:Int)≤9 - s.1∧CurOk s.2.2 (m+40+8 * (3 - s.1.toNat))) (fun s=>s.1.toNat) (fun o=>o.1.length≤9∧CurOk o.2 (m+64)) (fun s hI=>by
  obtain ⟨j,l,cc⟩:=s
  obtain ⟨i1,i2,i3,i4⟩:=hI
  simp only at i1 i2 i3 i4
  by_cases hj:0 < j
  · left
    obtain ⟨fs',c',g1,g2,g3⟩:=net_step2 x c1 hx j ⟨hj,by omega⟩ l (by omega) i4 (by omega)
    exact ⟨_,g1,⟨by simp only; omega,by simp only; omega,by simp only; omega,g3.up (by simp only; omega)⟩,by simp only; omega⟩
  · right
    refine ⟨(l,cc),?_,by simp only; omega,i4.up (by omega)⟩
    simp only [M_n,decide_eq_false hj,cond_false]) N0 (y,f1,c3) ⟨by simp only; omega,by simp only; omega,by simp only; omega,y4.up (by simp only; omega)⟩ (N0_lt (by simp only; omega))
 simp only at q2 q3
 unfold M_cy
 simp only [x1,Option.bind_some,bnd,w64_eq (n:=2+x) (by omega) (by omega)]
 rw [grd_t ⟨trivial,by omega,trivial,by omega⟩]
 simp only [Option.bind_some,o1,y1,q1]
 exact ⟨_,_,_,_,rfl,by omega,by omega,rfl,by decide,q2,q3.up (by omega)⟩
structure NetD (K:Nat) (nodes:List ByteArray) (fs:List TFiber):Prop where
 k1:1≤K
 k:K≤nodes.length
 n:nodes.length≤10
 z:∀ s∈nodes,s.size≤9
 f:fs.length≤15
theorem any_loop {c:Tl1Cur} {m:Nat} (fs:List TFiber) (h0:0 < fs.length) (h9:fs.length≤9) (h:CurOk c m) (hm:m≤10000000000):∃ fs' c',iter M_al N0 (fs,c)=some (fs',c')∧fs'.length≤15∧CurOk c' (m+100):=by
 obtain ⟨⟨f2,c4⟩,q1,q2,q3⟩:=iter_inv (f:=M_al) (fun s=>0 < s.1.length∧s.1.length≤15∧CurOk s.2 (m+2 * s.1.length)) (fun s=>16 - s.1.length) (fun o=>o.1.length≤15∧CurOk o.2 (m+100)) (fun s hI=>by
  obtain ⟨l,cc⟩:=s
  obtain ⟨i1,i2,i3⟩:=hI
  simp only at i1 i2 i3
  obtain ⟨x,c1,x1,x2,x3,x4⟩:=p_pick 2 i3 (by omega)
  simp only [M_al,x1,Option.bind_some,w64_eq (n:=14+x) (by omega) (by omega),w64_eq (n:=(l.length:Int) - 1) (by omega) (by omega)]
  by_cases hj:(l.length:Int) < 14+x
  · left
    have e:((l.length:Int) - 1).toNat < l.length:=by omega
    rw [decide_eq_true hj,cond_true,grd_t (by omega)]
    simp only [Option.bind_some,List.getElem?_eq_getElem e,bnd]
    rw [grd_t (by omega)]
    exact ⟨_,rfl,⟨by simp,by simp only [List.length_append,List.length_cons,List.length_nil]; omega,x4.up (by simp only [List.length_append,List.length_cons,List.length_nil]; omega)⟩,by simp only [List.length_append,List.length_cons,List.length_nil]; omega⟩
  · right
    rw [decide_eq_false hj,cond_false]
    exact ⟨_,rfl,by simp only; omega,x4.up (by omega)⟩) N0 (fs,c) ⟨by simp only; omega,by simp only; omega,h.up (by omega)⟩ (N0_lt (by simp only; omega))
 exact ⟨f2,c4,q1,q2,q3⟩
theorem subT_pre {α:Type} (xs:List α) (k:Nat) (h:k≤xs.length):subT xs 0 k=xs.take k:=by
 rw [subT_drop]; simp
theorem p_anyNetwork {c:Tl1Cur} {m:Nat} (h:CurOk c m) (hm:m≤1000000000):∃ (K:Nat) (nodes:List ByteArray) (fs:List TFiber) (c':Tl1Cur),M_cz c=some (0,K,nodes,fs,c')∧NetD K nodes fs∧CurOk c' (m+300):=by
 obtain ⟨K,nodes,fs,c1,n1,n2,n3,n4,n5,n6,n7⟩:=p_network h (by omega)
 have hD:NetD K nodes fs:=⟨by omega,by omega,by omega,n5,by omega⟩
 unfold M_cz
 simp only [n1,Option.bind_some]
 by_cases h0:fs.length=0
 · rw [show ((fs.length:Int)==0)=true by simp [h0],cond_true]
   exact ⟨_,_,_,_,rfl,hD,n7.up (by omega)⟩
 rw [show ((fs.length:Int)==0)=false by simp; exact fun e=>h0 (by simp [e]),cond_false]
 obtain ⟨i,c2,i1,i2,i3,i4⟩:=p_pick (fs.length:Int) n7 (by omega)
 have hi:i.toNat < fs.length:=by omega
 obtain ⟨r,c3,r1,r2,r3,r4⟩:=p_pick 24 i4 (by omega)
 simp only [i1,Option.bind_some]
 rw [grd_t (by omega)]
 simp only [Option.bind_some,List.getElem?_eq_getElem hi,r1]
 have fin:∀ (K':Nat) (f:TFiber) (nodes':List ByteArray) (fs':List TFiber) (c':Tl1Cur),NetD K' nodes' fs'→i.toNat < fs'.length→CurOk c' (m+300) →
  ∃ (K'':Nat) (nodes'':List ByteArray) (fs'':List TFiber) (c'':Tl1Cur),((grd (0≤i∧i < (fs'.length:Int))).bind fun _=>(fs'[(Int.toNat i)]?).bind fun _=>bnd (fs'.set (Int.toNat i) f) fun l=>some ((0:Nat),K',nodes',l,c'))=some (0,K'',nodes'',fs'',c'')∧NetD K'' nodes'' fs''∧CurOk c'' (m+300):=by
  intro K' f nodes' fs' c' hD' hi' hc'
  rw [grd_t (by omega)]
  simp only [Option.bind_some,List.getElem?_eq_getElem hi',bnd]
  exact ⟨_,_,_,_,rfl,⟨hD'.k1,hD'.k,hD'.n,hD'.z,by rw [List.length_set]; exact hD'.f⟩,hc'⟩
 rcases bt (r==0) with e | e
 · obtain ⟨x,c4,k1,k2,k3⟩:=p_ofL [(⟨#[98]⟩:ByteArray),(⟨#[]⟩:ByteArray),(⟨#[65]⟩:ByteArray),(⟨#[97,98,99,100,101,102,103,104]⟩:ByteArray),(⟨#[97,98,99,100,101,102,103,104,105]⟩:ByteArray),(⟨#[120,49]⟩:ByteArray)] r4 (by omega) (by simp)
   have hx:x.size≤9:=(show ∀ s∈[(⟨#[98]⟩:ByteArray),(⟨#[]⟩:ByteArray),(⟨#[65]⟩:ByteArray),(⟨#[97,98,99,100,101,102,103,104]⟩:ByteArray),(⟨#[97,98,99,100,101,102,103,104,105]⟩:ByteArray),(⟨#[120,49]⟩:ByteArray)],s.size≤9 by decide) x k2
   have h00:0+Int.toNat 0 < nodes.length:=by simp; omega
   simp only [e,cond_true,bnd,k1,Option.bind_some]
   rw [grd_t (by omega)]
   simp only [Option.bind_some,List.getElem?_eq_getElem h00]
   refine fin _ _ _ _ _ ⟨by omega,by rw [List.length_set]; omega,by rw [List.length_set]; omega,fun s hs=>?_,by omega⟩ hi (k3.up (by omega))
   rcases List.mem_or_eq_of_mem_set hs with h1 | h1
   · exact n5 s h1
   · rw [h1]; exact hx
 rw [e,cond_false]
 rcases bt (r==1) with e | e
 · obtain ⟨x,c4,k1,k2,k3,k4⟩:=p_pick 8 r4 (by omega)
   simp only [e,cond_true,k1,Option.bind_some]
   exact fin _ _ _ _ _ hD hi (k4.up (by omega))
 rw [e,cond_false]
 rcases bt (r==2) with e | e
 · obtain ⟨x,c4,k1,k2,k3,k4⟩:=p_pick 10 r4 (by omega)
   simp only [e,cond_true,k1,Option.bind_some]
   exact fin _ _ _ _ _ hD hi (k4.up (by omega))
 rw [e,cond_false]
 rcases bt (r==3) with e | e
 · obtain ⟨x,c4,k1,k2,k3⟩:=p_amongL [0,1,5000,5001] r4 (by omega) (by simp)
   simp only [e,cond_true,bnd,k1,Option.bind_some]
   exact fin _ _ _ _ _ hD hi (k3.up (by omega))
 rw [e,cond_false]
 rcases bt (r==4) with e | e
 · obtain ⟨x,c4,k1,k2,k3⟩:=p_amongL [(-1),9,10] r4 (by omega) (by simp)
   simp only [e,cond_true,bnd,k1,Option.bind_some]
   exact fin _ _ _ _ _ hD hi (k3.up (by omega))
 rw [e,cond_false]
 rcases bt (r==5) with e | e
 · have h00:Int.toNat 0 < fs.length:=by simp; omega
   simp only [e,cond_true]
   rw [grd_t (by omega)]
   simp only [Option.bind_some,List.getElem?_eq_getElem h00,bnd]
   rw [grd_t (by omega)]
   exact fin K _ nodes (fs++[fs[Int.toNat 0]]) _ ⟨hD.k1,hD.k,hD.n,hD.z,by simp; omega⟩ (by simp; omega) (r4.up (by omega))
 rw [e,cond_false]
 rcases bt (r==6) with e | e
 · obtain ⟨fs',c4,k1,k2,k3⟩:=any_loop fs (by omega) n6 r4 (by omega)
   simp only [e,cond_true,k1,Option.bind_some]
   exact ⟨_,_,_,_,rfl,⟨by omega,by omega,by omega,n5,k2⟩,k3.up (by omega)⟩
 rw [e,cond_false]
 rcases bt (r==7) with e | e
 · simp only [e,cond_true,bnd,subT_pre nodes K hD.k]
   rw [grd_t (by omega)]
   simp only [Option.bind_some]
   refine fin _ _ _ _ _ ⟨by simp,(by simp only [List.length_append,List.length_take,List.length_cons,List.length_nil]; have:=hD.k; omega),by simp; omega,fun s hs=>?_,by omega⟩ hi (r4.up (by omega))
   rcases List.mem_append.1 hs with h1 | h1
   · exact n5 s (List.mem_of_mem_take h1)
   · exact (show ∀ s∈[(⟨#[112]⟩:ByteArray),(⟨#[113]⟩:ByteArray),(⟨#[114]⟩:ByteArray),(⟨#[115]⟩:ByteArray)],s.size≤9 by decide) s h1
 rw [e,cond_false]
 exact fin _ _ _ _ _ hD hi (r4.up (by omega))
end Vs

namespace Vs
open Go
theorem p_net16 {c:Tl1Cur} {m:Nat} (h:CurOk c m) (hm:m≤1000000000):∃ (K F:Nat) (nodes:List ByteArray) (fs:List TFiber) (c':Tl1Cur),M_cp c=some (0,K,0,F,nodes,fs,c')∧NetD K nodes fs∧F≤fs.length∧F≤8∧CurOk c' (m+300):=by
 obtain ⟨K,nodes,fs,c1,n1,n2,n3⟩:=p_anyNetwork h hm
 unfold M_cp
 simp only [n1,Option.bind_some]
 by_cases h8:(8:Int) < (fs.length:Int)
 · rw [decide_eq_true h8,cond_true,grd_t ⟨trivial,by omega,trivial,by omega⟩]
   exact ⟨_,_,_,_,_,rfl,n2,by omega,by omega,n3⟩
 · rw [decide_eq_false h8,cond_false]
   exact ⟨_,_,_,_,_,rfl,n2,Nat.le_refl _,by omega,n3⟩
theorem z_drawn {K F:Nat} {nodes:List ByteArray} {fs:List TFiber} (h:NetD K nodes fs) (hF:F≤fs.length):z_Network ⟨nodes.take K,fs.take F⟩≤1048576:=by
 have hs:∀ (l:List ByteArray),(∀ s∈l,s.size≤9)→(l.map fun x=>x.size).sum≤9 * l.length:=by
  intro l
  induction l with
  | nil=>intro _; simp
  | cons a l ih =>
    intro hl
    have h1:=hl a (by simp)
    have h2:=ih fun s hs=>hl s (by simp [hs])
    simp only [List.map_cons,List.sum_cons,List.length_cons]; omega
 have h1:=hs (nodes.take K) fun s hs=>h.z s (List.mem_of_mem_take hs)
 have h2:(nodes.take K).length≤10:=by rw [List.length_take]; have:=h.n; omega
 have h3:(fs.take F).length≤15:=by rw [List.length_take]; have:=h.f; omega
 unfold z_Network z_StringS z_FiberS
 simp only
 omega
theorem p_outage {c:Tl1Cur} {m:Nat} {K F:Nat} {nodes:List ByteArray} {fs:List TFiber} (hD:NetD K nodes fs) (hF:F≤fs.length) (hF8:F≤8) (h:CurOk c m) (hm:m≤1000000000) :
 ∃ (u:Int) (ds:List Int) (c':Tl1Cur),M_cq 0 K 0 F c nodes fs=some (u,ds,c',nodes,fs)∧ds.length≤30∧CurOk c' (m+100):=by
 obtain ⟨u,c1,u1,u2,u3⟩:=p_amongL [2,4,10,10,20] h (by omega) (by simp)
 have hG:(groupsP ⟨nodes.take K,fs.take F⟩).length≤23:=groupsP_len _ (by simp; omega)
 have hg:=p_l2Groups (⟨nodes.take K,fs.take F⟩:TNetwork) (by simp; omega)
 obtain ⟨⟨ds,c2⟩,o1,o2,o3⟩:=iter_inv (f:=M_ba 0 K 0 F nodes fs) (fun s=>0≤s.1∧s.1≤23∧(s.2.1.length:Int)≤s.1∧CurOk s.2.2 (m+2+2 * s.1.toNat)) (fun s=>(23 - s.1).toNat) (fun o=>o.1.length≤23∧CurOk o.2 (m+48)) (fun s hI=>by
  obtain ⟨j,l,cc⟩:=s
  obtain ⟨i1,i2,i3,i4⟩:=hI
  simp only at i1 i2 i3 i4
  simp only [M_ba,bnd,subT_pre nodes K hD.k,subT_pre fs F hF,hg,Option.bind_some]
  by_cases hj:j < ((groupsP ⟨nodes.take K,fs.take F⟩).length:Int)
  · left
    obtain ⟨x,c',k1,k2,k3⟩:=p_amongL [0,1,1,2,1,2] i4 (by omega) (by simp)
    rw [decide_eq_true hj,cond_true]
    simp only [k1,Option.bind_some]
    rw [grd_t (by omega),w64_eq (n:=j+1) (by omega) (by omega)]
    exact ⟨_,rfl,⟨by simp only; omega,by simp only; omega,by simp only [List.length_append,List.length_cons,List.length_nil]; omega,k3.up (by simp only; omega)⟩,by simp only; omega⟩
  · right
    rw [decide_eq_false hj,cond_false]
    exact ⟨_,rfl,by simp only; omega,i4.up (by omega)⟩) N0 (0,[],c1) ⟨by simp,by simp,by simp,u3.up (by simp)⟩ (N0_lt (by simp only; omega))
 simp only at o2 o3
 obtain ⟨r,c3,r1,r2,r3,r4⟩:=p_pick 40 o3 (by omega)
 unfold M_cq
 simp only [bnd,u1,o1,r1,Option.bind_some]
 rcases bt (r==0) with e | e
 · obtain ⟨x,c',k1,k2,k3⟩:=p_amongL [1,21] r4 (by omega) (by simp)
   simp only [e,cond_true,k1,Option.bind_some]
   exact ⟨_,_,_,rfl,by omega,k3.up (by omega)⟩
 rw [e,cond_false]
 rcases bt (r==1) with e | e
 · rw [e,cond_true,grd_t (by omega)]
   exact ⟨_,_,_,rfl,by simp; omega,r4.up (by omega)⟩
 rw [e,cond_false]
 rcases bt (r==2) with e | e
 · rw [e,cond_true]
   by_cases hl:0 < ds.length
   · obtain ⟨x,c',k1,k2,k3⟩:=p_amongL [(-1),21,u] r4 (by omega) (by simp)
     have h00:Int.toNat 0 < ds.length:=by simp; omega
     rw [decide_eq_true (by omega),cond_true]
     simp only [k1,Option.bind_some]
     rw [grd_t (by omega)]
     simp only [Option.bind_some,List.getElem?_eq_getElem h00]
     exact ⟨_,_,_,rfl,by simp; omega,k3.up (by omega)⟩
   · rw [decide_eq_false (by omega),cond_false]
     exact ⟨_,_,_,rfl,by omega,r4.up (by omega)⟩
 rw [e,cond_false]
 exact ⟨_,_,_,rfl,by omega,r4.up (by omega)⟩
theorem p_outages {c:Tl1Cur} {m:Nat} (h:CurOk c m) (hm:m≤100000000):∃ (K F:Nat) (u:Int) (nodes:List ByteArray) (fs:List TFiber) (ds:List Int) (c':Tl1Cur),M_cr c=some (0,K,0,F,u,nodes,fs,ds,c')∧NetD K nodes fs∧F≤fs.length∧ds.length≤30∧CurOk c' (m+500):=by
 obtain ⟨K,F,nodes,fs,c1,n1,n2,n3,n4,n5⟩:=p_net16 h (by omega)
 unfold M_cr
 simp only [n1,Option.bind_some,bnd,subT_pre nodes K n2.k,subT_pre fs F n3]
 rw [p_l2Good _ (z_drawn n2 n3)]
 simp only [Option.bind_some]
 rcases bt (netOk ⟨nodes.take K,fs.take F⟩) with e | e
 · rw [e]
   simp only [Bool.not_true,cond_false]
   obtain ⟨u,ds,c',k1,k2,k3⟩:=p_outage n2 n3 n4 n5 (by omega)
   simp only [k1,Option.bind_some]
   exact ⟨_,_,_,_,_,_,_,rfl,n2,n3,k2,k3.up (by omega)⟩
 · rw [e]
   exact ⟨_,_,_,_,_,_,_,rfl,n2,n3,by simp,n5.up (by omega)⟩
def codeOk (code:List Int):Prop:=(∀ x∈code,0≤x∧x≤255)∧code.length≤65536
theorem cur0 {code:List Int} (h:codeOk code):CurOk (⟨code,0,0⟩:Tl1Cur) 0:=⟨h.1,h.2,by simp,by simp⟩
end Vs

namespace Vs
open Go
theorem reps_len (al:Nat→Bool) (fs:List TFiber) (N k:Nat):(rep (passP al 0 fs) k (initP N)).length=N:=by rw [rep_len,initP_len]
theorem reps_rng {al:Nat→Bool} {fs:List TFiber} {N:Nat} (hE:Ed fs N):∀ t v,v < N→0≤gt (rep (passP al 0 fs) t (initP N)) v∧gt (rep (passP al 0 fs) t (initP N)) v < N:=by
 intro t
 induction t with
 | zero=>intro v hv; rw [rep,gt_init N v hv]; omega
 | succ t ih =>
   intro v hv
   exact pass_rng fs 0 _ (by rw [reps_len]; exact hE) (fun v hv=>ih v (by rw [reps_len] at hv; exact hv)) v (by rw [reps_len]; exact hv)
theorem reps_fix {al:Nat→Bool} {fs:List TFiber} {N:Nat} (hE:Ed fs N):∃ k,passP al 0 fs (rep (passP al 0 fs) k (initP N))=rep (passP al 0 fs) k (initP N):=by
 apply Classical.byContradiction
 intro hno
 have hne:∀ k,passP al 0 fs (rep (passP al 0 fs) k (initP N)) ≠ rep (passP al 0 fs) k (initP N):=fun k h=>hno ⟨k,h⟩
 let M:Nat→Nat:=fun k=>sm (fun v=>(gt (rep (passP al 0 fs) k (initP N)) v).toNat) N
 have hdec:∀ k,M (k+1) < M k:=by
  intro k
  have hle:∀ v,gt (rep (passP al 0 fs) (k+1) (initP N)) v≤gt (rep (passP al 0 fs) k (initP N)) v:=fun v=>pass_le al fs 0 _ (by rw [reps_len]; exact hE) v
  refine sm_lt N (fun v hv=>by have:=hle v; omega) ?_
  apply Classical.byContradiction
  intro hall
  refine hne k (gt_ext (by rw [pass_len]) fun v=>?_)
  by_cases hv:v < N
  · have h1:=hle v
    have h2:=(reps_rng (al:=al) hE (k+1) v hv).1
    have h3:¬ (gt (rep (passP al 0 fs) (k+1) (initP N)) v).toNat < (gt (rep (passP al 0 fs) k (initP N)) v).toNat:=fun h=>hall ⟨v,hv,h⟩
    show gt (rep (passP al 0 fs) (k+1) (initP N)) v=_
    omega
  · have l1:=reps_len al fs N (k+1)
    have l2:=reps_len al fs N k
    show gt (rep (passP al 0 fs) (k+1) (initP N)) v=_
    unfold gt
    rw [List.getD_eq_getElem?_getD,List.getD_eq_getElem?_getD,List.getElem?_eq_none (by omega),List.getElem?_eq_none (by omega)]
 have:∀ k,M k+k≤M 0:=by
  intro k
  induction k with
  | zero=>omega
  | succ k ih=>have:=hdec k; omega
 have:=this (M 0+1)
 omega
theorem labels_fix {al:Nat→Bool} {fs:List TFiber} {N:Nat} (hE:Ed fs N) (hN:0 < N):passP al 0 fs (labels al fs N)=labels al fs N:=by
 obtain ⟨k,hk⟩:=reps_fix (al:=al) hE
 rw [conv hE hN rfl hk]
 exact hk
theorem labels_flat {al:Nat→Bool} {fs:List TFiber} {N:Nat} (hE:Ed fs N) (hN:0 < N):Flat al 0 fs (gt (labels al fs N)) :=
 pass_fix fs 0 _ (by rw [labels_len]; exact hE) fun v=>by rw [labels_fix hE hN]
end Vs

namespace Vs
open Go
def facW (u s:Int) (i:Nat) (d:Int):Int:=if bitB s i then d else u - d
def prodW (u s:Int):Nat→List Int→Int
 | _,[]=>1
 | i,d::ds=>facW u s i d * prodW u s (i+1) ds
def DsOk (u:Int) (ds:List Int):Prop:=2≤u∧u≤20∧∀ d∈ds,0≤d∧d≤u
theorem DsOk.tl {u d:Int} {ds:List Int} (h:DsOk u (d::ds)):DsOk u ds:=⟨h.1,h.2.1,fun e he=>h.2.2 e (by simp [he])⟩
theorem fac_rng {u d s:Int} {ds:List Int} (h:DsOk u (d::ds)) (i:Nat):0≤facW u s i d∧facW u s i d≤u:=by
 have:=h.2.2 d (by simp)
 unfold facW
 split <;> omega
theorem prodW_nn {u s:Int}:∀ (ds:List Int) (i:Nat),DsOk u ds→0≤prodW u s i ds
 | [],_,_=>by simp [prodW]
 | d::ds,i,h=>Int.mul_nonneg (fac_rng h i).1 (prodW_nn ds (i+1) h.tl)
theorem wt_prod {u:Int} (s:Int):∀ (ds:List Int) (i k:Nat) (a:Int),k+ds.length≤14→DsOk u ds→0≤a∧a≤20 ^ k→foldI (wtG u s) i ds a=a * prodW u s i ds
 | [],_,_,a,_,_,ha=>by simp [foldI,prodW]
 | d :: ds, i, k, a, hk, hd, ha => by
   simp only [foldI,prodW]
   have hd0:=hd.2.2 d (by simp)
   obtain ⟨h2,h20,_⟩:=hd
   have h14:(20:Int) ^ (k+1)≤1638400000000000000:=(pow_14 20 (by omega) (by omega) (k+1) (by simp at hk; omega)).2
   have hs:(20:Int) ^ (k+1)=20 ^ k * 20:=Int.pow_succ ..
   have m:∀ x:Int,0≤x∧x≤20→0≤a * x∧a * x≤20 ^ (k+1):=fun x hx=>by
    refine ⟨Int.mul_nonneg ha.1 hx.1,?_⟩
    rw [hs]
    exact Int.mul_le_mul ha.2 hx.2 hx.1 (Int.le_trans ha.1 ha.2)
   have hst:wtG u s i d a=a * facW u s i d∧0≤a * facW u s i d∧a * facW u s i d≤20 ^ (k+1):=by
    unfold wtG facW
    have eb:(bits .and .i64 (Int.fdiv s (2 ^ (min i (IntKind.bits .i64)))) 1==1)=bitB s i:=rfl
    rw [eb]
    split
    · have:=m d ⟨hd0.1,by omega⟩
      rw [w64_eq (by omega) (by omega)]; exact ⟨rfl,this⟩
    · have e1:IntKind.wrap .i64 (u - d)=u - d:=w64_eq (by omega) (by omega)
      have:=m (u - d) ⟨by omega,by omega⟩
      rw [e1,w64_eq (by omega) (by omega)]; exact ⟨rfl,this⟩
   rw [hst.1,wt_prod s ds (i+1) (k+1) _ (by simp at hk; omega) ⟨h2,h20,fun e he=>‹∀ d_1∈d::ds,0≤d_1∧d_1≤u› e (by simp [he])⟩ hst.2,Int.mul_assoc]
theorem out_ds {n:TNetwork} {o:TOutage} (h:outOk n o=true):DsOk o.Unit o.Down∧o.Down.length≤14:=by
 obtain ⟨h1,h2,h3,h4⟩:=outOk_b h
 exact ⟨⟨h1,h2,h4⟩,h3⟩
theorem weight_prod {n:TNetwork} {o:TOutage} (h:outOk n o=true) (s:Int):weightP o s=prodW o.Unit s 0 o.Down:=by
 obtain ⟨h1,h2⟩:=out_ds h
 unfold weightP
 rw [wt_prod s o.Down 0 0 1 (by omega) h1 (by simp),Int.one_mul]
def sumN (f:Nat→Int):Nat→Int
 | 0=>0
 | K+1=>sumN f K+f K
theorem sumN_congr {f g:Nat→Int}:∀ (K:Nat),(∀ s,s < K→f s=g s)→sumN f K=sumN g K
 | 0,_=>rfl
 | K+1,h=>by simp only [sumN]; rw [sumN_congr K fun s hs=>h s (by omega),h K (by omega)]
theorem sumN_le {f g:Nat→Int}:∀ (K:Nat),(∀ s,s < K→f s≤g s)→sumN f K≤sumN g K
 | 0,_=>Int.le_refl _
 | K+1,h=>by simp only [sumN]; have:=sumN_le K fun s hs=>h s (by omega); have:=h K (by omega); omega
theorem sumN_nn {f:Nat→Int}:∀ (K:Nat),(∀ s,s < K→0≤f s)→0≤sumN f K
 | 0,_=>Int.le_refl _
 | K+1,h=>by simp only [sumN]; have:=sumN_nn K fun s hs=>h s (by omega); have:=h K (by omega); omega
theorem sumN_add (f g:Nat→Int):∀ (K:Nat),sumN (fun s=>f s+g s) K=sumN f K+sumN g K
 | 0=>rfl
 | K+1=>by simp only [sumN]; rw [sumN_add f g K]; omega
theorem sumN_mul (c:Int) (f:Nat→Int):∀ (K:Nat),sumN (fun s=>c * f s) K=c * sumN f K
 | 0=>by simp [sumN]
 | K+1=>by simp only [sumN]; rw [sumN_mul c f K,Int.mul_add]
theorem sumN_two (f:Nat→Int):∀ (K:Nat),sumN f (2 * K)=sumN (fun t=>f (2 * t)+f (2 * t+1)) K
 | 0=>rfl
 | K + 1 => by
   rw [show 2 * (K+1)=2 * K+1+1 by omega]
   simp only [sumN]
   rw [sumN_two f K]; omega
theorem sumN_part {f:Nat→Int} {K:Nat} (h:∀ s,s < K→0≤f s):∀ (j:Nat),j≤K→0≤sumN f j∧sumN f j≤sumN f K:=by
 intro j hj
 refine ⟨sumN_nn j fun s hs=>h s (by omega),?_⟩
 induction K with
 | zero=>rw [show j=0 by omega]; exact Int.le_refl _
 | succ K ih =>
   by_cases e:j=K+1
   · rw [e]; exact Int.le_refl _
   · have h1:=ih (fun s hs=>h s (by omega)) (by omega)
     have h2:=h K (by omega)
     simp only [sumN]; omega
theorem bitB_nat (s i:Nat) (hs:s < 2 ^ 62) (hi:i < 64):bitB (s:Int) i=s.testBit i:=tbit s i hi hs
theorem bit_shift (t b i:Nat) (hb:b < 2) (ht:2 * t+b < 2 ^ 62) (hi:i+1 < 64):bitB ((2 * t+b:Nat):Int) (i+1)=bitB (t:Int) i:=by
 rw [bitB_nat _ _ ht hi,bitB_nat _ _ (by omega) (by omega),Nat.testBit_succ,show (2 * t+b) / 2=t by omega]
theorem prod_shift {u:Int} (t b:Nat) (hb:b < 2) (ht:2 * t+b < 2 ^ 62):∀ (ds:List Int) (i:Nat),i+ds.length < 60→prodW u ((2 * t+b:Nat):Int) (i+1) ds=prodW u (t:Int) i ds
 | [],_,_=>rfl
 | d :: ds, i, h => by
   simp only [prodW,facW]
   simp only [List.length_cons] at h
   rw [bit_shift t b i hb ht (by omega),prod_shift t b hb ht ds (i+1) (by omega)]
theorem sum_whole {u:Int}:∀ (ds:List Int),ds.length≤30→sumN (fun s=>prodW u (s:Int) 0 ds) (2 ^ ds.length)=u ^ ds.length
 | [],_=>by simp [sumN,prodW]
 | d :: ds, h => by
   simp only [List.length_cons] at h ⊢
   rw [show 2 ^ (ds.length+1)=2 * 2 ^ ds.length by rw [Nat.pow_succ]; omega,sumN_two]
   have hp:(2:Nat) ^ ds.length≤2 ^ 30:=Nat.pow_le_pow_right (by omega) (by omega)
   rw [sumN_congr (g:=fun t=>u * prodW u (t:Int) 0 ds) (2 ^ ds.length) fun t ht=>?_,sumN_mul,sum_whole ds (by omega),Int.pow_succ,Int.mul_comm]
   have h1:=prod_shift (u:=u) t 0 (by omega) (by omega) ds 0 (by omega)
   have h2:=prod_shift (u:=u) t 1 (by omega) (by omega) ds 0 (by omega)
   simp only [prodW]
   rw [Nat.add_zero] at h1
   rw [h1,h2]
   have b0:bitB ((2 * t:Nat):Int) 0=false:=by rw [bitB_nat _ _ (by omega) (by omega),Nat.testBit_zero]; simp
   have b1:bitB ((2 * t+1:Nat):Int) 0=true:=by rw [bitB_nat _ _ (by omega) (by omega),Nat.testBit_zero]; simp
   simp only [facW,b0,b1,if_true,Bool.false_eq_true,if_false]
   rw [← Int.add_mul]
   congr 1; omega
theorem foldI_rng {A:Type} (g:Nat→A→A):∀ (N:Nat) (a:A),foldI (fun i (_:Nat) a=>g i a) 0 (List.range N) a=Nat.rec a (fun i r=>g i r) N
 | 0,a=>rfl
 | N + 1, a => by
   have app:∀ (xs ys:List Nat) (k:Nat) (a:A),foldI (fun i (_:Nat) a=>g i a) k (xs++ys) a=foldI (fun i (_:Nat) a=>g i a) (k+xs.length) ys (foldI (fun i (_:Nat) a=>g i a) k xs a):=by
    intro xs
    induction xs with
    | nil=>intro ys k a; simp [foldI]
    | cons x xs ih=>intro ys k a; simp only [List.cons_append,foldI]; rw [ih,List.length_cons]; congr 1; omega
   rw [List.range_succ,app,foldI_rng g N]
   simp [foldI]
theorem con_sum {n:TNetwork} {o:TOutage} (h:outOk n o=true) (hp:List Int→Bool):conP n o hp=sumN (fun s=>if hp (goneL (s:Int) (groupsP n)) then prodW o.Unit (s:Int) 0 o.Down else 0) (2 ^ o.Down.length) ∧
 0≤conP n o hp∧conP n o hp≤o.Unit ^ o.Down.length∧o.Unit ^ o.Down.length≤1638400000000000000:=by
 obtain ⟨h1,h2⟩:=out_ds h
 have hK:o.Down.length=(groupsP n).length:=by
  have:=h
  unfold outOk at this
  simp only [Bool.and_eq_true,decide_eq_true_eq] at this
  exact this.1.2
 have hpow:o.Unit ^ o.Down.length≤1638400000000000000:=(pow_14 o.Unit (by have:=h1.1; omega) h1.2.1 _ h2).2
 let f:Nat→Int:=fun s=>if hp (goneL (s:Int) (groupsP n)) then prodW o.Unit (s:Int) 0 o.Down else 0
 have hf:∀ s,0≤f s∧f s≤prodW o.Unit (s:Int) 0 o.Down:=fun s=>by
  have:=prodW_nn (s:=(s:Int)) o.Down 0 h1
  simp only [f]; split <;> omega
 have hsum:sumN f (2 ^ o.Down.length)≤o.Unit ^ o.Down.length:=by
  rw [← sum_whole o.Down (by omega)]
  exact sumN_le _ fun s _=>(hf s).2
 have hnn:=sumN_nn (f:=f) (2 ^ o.Down.length) fun s _=>(hf s).1
 have hpart:=sumN_part (f:=f) (K:=2 ^ o.Down.length) fun s _=>(hf s).1
 have key:conP n o hp=sumN f (2 ^ o.Down.length):=by
  unfold conP
  rw [← hK,foldI_rng (fun i a=>if hp (goneL (i:Int) (groupsP n)) then IntKind.wrap .i64 (a+weightP o (i:Int)) else a)]
  have:∀ j,j≤2 ^ o.Down.length→(Nat.rec (0:Int) (fun i r=>if hp (goneL (i:Int) (groupsP n)) then IntKind.wrap .i64 (r+weightP o (i:Int)) else r) j:Int)=sumN f j:=by
   intro j
   induction j with
   | zero=>intro _; rfl
   | succ j ih =>
     intro hj
     have ih':=ih (by omega)
     have hb:=hpart (j+1) hj
     show (if hp (goneL (j:Int) (groupsP n)) then IntKind.wrap .i64 ((Nat.rec (0:Int) (fun i r=>if hp (goneL (i:Int) (groupsP n)) then IntKind.wrap .i64 (r+weightP o (i:Int)) else r) j:Int)+weightP o (j:Int)) else _)=sumN f (j+1)
     rw [ih',weight_prod h]
     simp only [sumN] at hb ⊢
     by_cases e:hp (goneL (j:Int) (groupsP n))=true
     · have ef:f j=prodW o.Unit (j:Int) 0 o.Down:=by simp only [f]; rw [if_pos e]
       rw [if_pos e,← ef,w64_eq (by omega) (by omega)]
     · have ef:f j=0:=by simp only [f]; rw [if_neg e]
       rw [if_neg e,ef,Int.add_zero]
  exact this _ (Nat.le_refl _)
 refine ⟨key,by rw [key]; exact hnn,by rw [key]; exact hsum,hpow⟩
end Vs

namespace Vs
open Go
theorem bitsL_mem {s:Int} {K:Nat} {x:Int}:x∈bitsL s K↔∃ k:Nat,k < K∧bitB s k=true∧x=(k:Int):=by
 unfold bitsL
 simp only [List.mem_map,List.mem_filter,List.mem_range]
 constructor
 · rintro ⟨k,⟨h1,h2⟩,h3⟩; exact ⟨k,h1,h2,h3.symm⟩
 · rintro ⟨k,h1,h2,h3⟩; exact ⟨k,⟨h1,h2⟩,h3.symm⟩
theorem bitsL_pw (s:Int) (K:Nat):(bitsL s K).Pairwise (· < ·):=by
 unfold bitsL
 refine List.pairwise_map.2 (List.Pairwise.imp (fun {a b} h=>?_) (List.Pairwise.filter _ List.pairwise_lt_range))
 omega
theorem pw_set {l:List Int} {F:Nat} (h:l.Pairwise (· < ·)) (hr:∀ x∈l,0≤x∧x < F):setB l F=true:=by
 unfold setB
 rw [Bool.not_eq_true',anyI_false]
 intro i x hx
 have h1:=hr x (List.mem_of_getElem? hx)
 unfold setBad
 have e:wi x 0 ((F:Int) - 1)=true:=wi_iff.2 (by omega)
 rw [e]
 simp only [Bool.not_true,Bool.false_or,Bool.and_eq_false_iff,decide_eq_false_iff_not]
 by_cases hi:0 < i
 · right
   obtain ⟨hlt,rfl⟩:=List.getElem?_eq_some_iff.1 hx
   rw [List.getElem?_eq_getElem (show i - 1 < l.length by omega)]
   have:=List.pairwise_iff_getElem.1 h (i - 1) i (by omega) hlt (by omega)
   simp only [decide_eq_false_iff_not]; omega
 · left; exact hi
theorem prodW_congr (u s t:Int):∀ (ds:List Int) (i:Nat),(∀ j,i≤j→j < i+ds.length→bitB s j=bitB t j)→prodW u s i ds=prodW u t i ds
 | [],_,_=>rfl
 | d :: ds, i, h => by
   simp only [prodW]
   rw [prodW_congr u s t ds (i+1) fun j h1 h2=>h j (by omega) (by simp only [List.length_cons]; omega)]
   unfold facW
   rw [h i (Nat.le_refl _) (by simp)]
theorem weight_bits {n:TNetwork} {o:TOutage} (h:outOk n o=true) (s:Int):weightP o (maskP (bitsL s (groupsP n).length))=weightP o s:=by
 obtain ⟨h1,h2⟩:=out_ds h
 have hK:=(outOk_K h).2
 rw [weight_prod h,weight_prod h]
 obtain ⟨m,m1,m2,m3⟩:=maskP_spec (bitsL s (groupsP n).length) fun x hx=>by
  obtain ⟨k,k1,_,rfl⟩:=bitsL_mem.1 hx; omega
 rw [m1]
 refine prodW_congr _ _ _ _ 0 fun j _ hj=>?_
 rw [bitB_nat m j m2 (by omega),m3]
 rw [Bool.eq_iff_iff,decide_eq_true_eq,bitsL_mem]
 constructor
 · rintro ⟨k,_,h4,h5⟩
   have:k=j:=by omega
   rw [← this]; exact h4
 · intro hb; exact ⟨j,by omega,hb,rfl⟩
theorem bitsL_set (s:Int) (K:Nat):setB (bitsL s K) K=true:=pw_set (bitsL_pw s K) fun x hx=>by
 obtain ⟨k,k1,_,rfl⟩:=bitsL_mem.1 hx; omega
theorem rUnits_loop (u:Int) (h2:2≤u) (h20:u≤20):∀ (k j:Nat),k+j≤14→∀ N,k < N→iter (M_ai u) N ((k:Int),u ^ j)=some (u ^ (k+j))
 | 0, j, _, N + 1, _ => by
   rw [iter]
   simp [M_ai]
 | k + 1, j, hk, N + 1, hN => by
   rw [iter]
   have h1:decide ((0:Int) < ((k+1:Nat):Int))=true:=decide_eq_true (by omega)
   have hp:=pow_14 u h2 h20 (j+1) (by omega)
   have hs:u ^ j * u=u ^ (j+1):=(Int.pow_succ ..).symm
   simp only [M_ai,h1,cond_true]
   rw [hs,w64_eq (n:=u ^ (j+1)) (by omega) (by omega),w64_eq (n:=((k+1:Nat):Int) - 1) (by omega) (by omega),show ((k+1:Nat):Int) - 1=(k:Int) by omega]
   have:=rUnits_loop u h2 h20 k (j+1) (by omega) N (by omega)
   rw [this]
   congr 2; omega
theorem p_rUnits {n:TNetwork} {o:TOutage} (h:outOk n o=true):M_ch o.Unit (o.Down.length:Int)=some (allP o):=by
 obtain ⟨h1,h2,h3,_⟩:=outOk_b h
 unfold M_ch
 have:=rUnits_loop o.Unit h1 h2 o.Down.length 0 (by omega) N0 (N0_lt (by omega))
 rw [Int.pow_zero] at this
 rw [this]; rfl
end Vs

namespace Vs
open Go
theorem vis_pre {n:TNetwork}:∀ (xs:List Int) (i:Nat) (a:Int×List Int) (l:List Int),walkL (visS n) (fun a=>some a.2) i xs a=some l→∃ t,l=a.2++t
 | [],_,a,l,h=>⟨[],by simp only [walkL,Option.some.injEq] at h; rw [List.append_nil,h]⟩
 | e :: xs, i, a, l, h => by
   simp only [walkL,visS] at h
   rcases bt (visB n e a) with e1 | e1
   · simp [e1] at h
   · simp only [e1,Bool.false_eq_true,if_false] at h
     obtain ⟨t,ht⟩:=vis_pre xs (i+1) _ l h
     exact ⟨[othI n e a.1]++t,by rw [ht]; simp⟩
theorem vis_lab {n:TNetwork} {al:Nat→Bool} {lab:Nat→Int} (hf:Flat al 0 n.Fibers lab):∀ (xs:List Int) (i:Nat) (a:Int×List Int) (l:List Int),walkL (visS n) (fun a=>some a.2) i xs a=some l→(∀ e∈xs,al e.toNat=true)→a.2.getLast?=some a.1 →
 ∃ z,l.getLast?=some z∧lab z.toNat=lab a.1.toNat
 | [], _, a, l, h, _, hl => by
   simp only [walkL,Option.some.injEq] at h
   exact ⟨a.1,by rw [← h]; exact hl,rfl⟩
 | e :: xs, i, a, l, h, hal, hl => by
   simp only [walkL,visS] at h
   rcases bt (visB n e a) with e1 | e1
   · simp [e1] at h
   · simp only [e1,Bool.false_eq_true,if_false] at h
     obtain ⟨z,z1,z2⟩:=vis_lab hf xs (i+1) _ l h (fun e he=>hal e (by simp [he])) (by simp)
     refine ⟨z,z1,z2.trans ?_⟩
     unfold visB at e1
     simp only [Bool.or_eq_false_iff,Bool.not_eq_false',decide_eq_false_iff_not] at e1
     obtain ⟨⟨e2,e3⟩,_⟩:=e1
     obtain ⟨f,_,f2⟩:=geti_fib e2
     have h0:=hf e.toNat f f2 (by rw [Nat.zero_add]; exact hal e (by simp))
     have ho:othI n e a.1=otherP f a.1:=by unfold othI; rw [f2]
     show lab (othI n e a.1).toNat=lab a.1.toNat
     rw [ho] at e3 ⊢
     unfold otherP at e3 ⊢
     by_cases c1:a.1=f.A
     · rw [if_pos c1]; rw [c1]; exact h0.symm
     · rw [if_neg c1] at e3 ⊢
       by_cases c2:a.1=f.B
       · rw [if_pos c2]; rw [c2]; exact h0
       · rw [if_neg c2] at e3; omega
theorem vis_start {n:TNetwork} {r:TRoute} {l:List Int} (h:visP n r=some l):∃ t,l=r.Start::t:=by
 unfold visP at h
 split at h
 · cases h
 · obtain ⟨t,ht⟩:=vis_pre r.Fibers 0 _ l h
   exact ⟨t,by rw [ht]; rfl⟩
theorem vis_conn {n:TNetwork} (hn:netOk n=true) {r:TRoute} {l:List Int} (h:visP n r=some l) {gone:List Int} (hs:sepP r.Fibers gone=true) {z:Int} (hz:l.getLast?=some z):qB r.Start z (labG n gone)=true:=by
 have hb:=netOk_b hn
 have hE:=net_ed hn
 have hf:=labels_flat (al:=alL gone) hE.ed (by omega)
 have h0:0≤r.Start:=by
  unfold visP at h
  split at h
  · cases h
  · rename_i hc
    simp only [Bool.or_eq_true,Bool.not_eq_true',not_or,Bool.not_eq_false,wi_iff] at hc
    exact hc.1.1
 have hw:walkL (visS n) (fun a=>some a.2) 0 r.Fibers (r.Start,[r.Start])=some l:=by
  unfold visP at h
  split at h
  · cases h
  · exact h
 have hfib:∀ e∈r.Fibers,0≤e:=fun e he=>(rte_ok (n:=n) (r:=r) (by unfold rteOk; rw [hn,h]; rfl)).2.2 e he |>.1
 obtain ⟨z',z1,z2⟩:=vis_lab hf r.Fibers 0 _ l hw (fun e he=>by
  unfold sepP at hs
  simp only [Bool.not_eq_true',List.any_eq_false,decide_eq_true_eq] at hs
  unfold alL
  have:=hfib e he
  rw [Int.toNat_of_nonneg this]
  simpa using hs e he) rfl
 rw [hz] at z1; cases z1
 unfold qB
 rw [if_neg (by omega)]
 unfold labG
 rw [z2]; exact beq_self_eq_true _
theorem sum_mono {n:TNetwork} {o:TOutage} (h:outOk n o=true) (p q:List Int→Bool) (hpq:∀ l,p l=true→q l=true):conP n o p≤conP n o q:=by
 rw [(con_sum h p).1,(con_sum h q).1]
 refine sumN_le _ fun s _=>?_
 have:=prodW_nn (s:=(s:Int)) o.Down 0 (out_ds h).1
 rcases bt (p (goneL (s:Int) (groupsP n))) with e | e
 · rw [e,hpq _ e]; exact Int.le_refl _
 · rw [e]; simp only [Bool.false_eq_true,if_false]; split <;> omega
theorem sum_or {n:TNetwork} {o:TOutage} (h:outOk n o=true) (p q:List Int→Bool):conP n o (fun l=>p l||q l)≤conP n o p+conP n o q:=by
 rw [(con_sum h p).1,(con_sum h q).1,(con_sum h _).1,← sumN_add]
 refine sumN_le _ fun s _=>?_
 have:=prodW_nn (s:=(s:Int)) o.Down 0 (out_ds h).1
 rcases bt (p (goneL (s:Int) (groupsP n))) with e | e <;> rcases bt (q (goneL (s:Int) (groupsP n))) with e2 | e2 <;> simp only [e,e2,Bool.or_true,Bool.or_false,Bool.true_or,Bool.false_or,Bool.or_self,if_true,Bool.false_eq_true,if_false] <;> omega
theorem bits_loop (rZ3:TNetwork×TOutage×TRoute×TRoute) (s:Nat) (w:Int) (hD:rZ3.2.1.Down.length≤14):iter (M_q rZ3 (w,(s:Int))) N0 (0,[])=some (bitsL (s:Int) rZ3.2.1.Down.length):=by
 have key:=iter_foldI (f:=M_q rZ3 (w,(s:Int))) rZ3.2.1.Down (fun i (l:List Int)=>((i:Int),l)) (fun i _ (a:List Int)=>if bitB (s:Int) i then a++[(i:Int)] else a) id (fun i l=>l.length≤i) (fun i l x hx hI=>by
  have hlt:=(List.getElem?_eq_some_iff.1 hx).1
  have h1:decide ((i:Int) < (rZ3.2.1.Down.length:Int))=true:=by simp [hlt]
  have hu:IntKind.wrap .u64 (i:Int)=(i:Int):=w64u_eq (by omega) (by omega)
  simp only [M_q,h1,cond_true,hu]
  rw [grd_t (by omega)]
  simp only [Option.bind_some,Int.toNat_natCast,bnd]
  rw [w64_eq (n:=(i:Int)+1) (by omega) (by omega),grd_t (by omega)]
  have e:(bits .and .i64 (Int.fdiv (s:Int) (2 ^ (min i (IntKind.bits .i64)))) 1==1)=bitB (s:Int) i:=rfl
  rw [e]
  rcases bt (bitB (s:Int) i) with e | e
  · rw [e]; exact ⟨by simp; omega,rfl⟩
  · rw [e]; exact ⟨by simp only [Bool.false_eq_true,if_false]; omega,rfl⟩) (fun l _=>by simp [M_q]) [] (by simp) (by omega)
 have e0:((0:Nat):Int)=0:=rfl
 simp only [e0] at key
 rw [key]
 have:=foldI_bits (s:Int) rZ3.2.1.Down 0
 rw [Nat.zero_add] at this
 rw [← this]; rfl
theorem all_loopW (rZ3:TNetwork×TOutage×TRoute×TRoute) (n:TNetwork) (o:TOutage) (hn:rZ3.1=n) (ho:rZ3.2.1=o) (h:outOk n o=true) (hz:z_Network n≤1048576) (h8:o.Down.length≤8) :
 iter (M_ag rZ3) N0 (0,0)=some (.inl (o.Unit ^ o.Down.length)):=by
 subst hn ho
 obtain ⟨h1,h2⟩:=out_ds h
 have hK:=(outOk_K h).2
 have hpow:=pow_14 rZ3.2.1.Unit h1.1 h1.2.1 _ h2
 let f:Nat→Int:=fun s=>prodW rZ3.2.1.Unit (s:Int) 0 rZ3.2.1.Down
 have hsum:sumN f (2 ^ rZ3.2.1.Down.length)=rZ3.2.1.Unit ^ rZ3.2.1.Down.length:=sum_whole _ (by omega)
 have hpart:=sumN_part (f:=f) (K:=2 ^ rZ3.2.1.Down.length) fun s _=>prodW_nn _ _ h1
 have h28:2 ^ rZ3.2.1.Down.length≤2 ^ 8:=Nat.pow_le_pow_right (by omega) h8
 have hu:IntKind.wrap .u64 (rZ3.2.1.Down.length:Int)=(rZ3.2.1.Down.length:Int):=w64u_eq (by omega) (by omega)
 have key:=iter_foldI (f:=M_ag rZ3) (List.range (2 ^ rZ3.2.1.Down.length)) (fun i (a:Int)=>(a,(i:Int))) (fun i _ a=>a+f i) (fun a=>(.inl a:Int ⊕ Bool)) (fun i a=>a=sumN f i) (fun i a x hx hI=>by
  obtain ⟨rfl,hi⟩:=range_at hx
  have hb:=hpart (x+1) hi
  have hb0:=hpart x (by omega)
  simp only [sumN] at hb
  have e1:decide ((x:Int) < IntKind.wrap .i64 (1 * 2 ^ (min rZ3.2.1.Down.length (IntKind.bits .i64))))=true:=by
   rw [shl1 _ (by omega)]; exact decide_eq_true (by exact_mod_cast hi)
  have hbl:=bitsL_len (x:Int) rZ3.2.1.Down.length
  have hst:stW rZ3.1 rZ3.2.1 (bitsL (x:Int) rZ3.2.1.Down.length)=(f x,true):=by
   unfold stW
   have hw:=weight_bits h (x:Int)
   rw [← hK] at hw
   have hs2:setB (bitsL (x:Int) rZ3.2.1.Down.length) (rZ3.2.1.Down.length:Int)=true:=bitsL_set _ _
   simp only [h,hs2,hw,weight_prod h]; rfl
  simp only [M_ag,hu]
  rw [grd_t (by omega)]
  simp only [Option.bind_some,Int.toNat_natCast,e1,cond_true,bits_loop rZ3 x a (by omega),p_impl_StateWeight rZ3.1 rZ3.2.1 _ hz (show rZ3.2.1.Down.length≤1048576 by omega) (show (bitsL (x:Int) rZ3.2.1.Down.length).length≤1048576 by omega),hst,Bool.not_true,cond_false]
  subst hI
  rw [w64_eq (n:=sumN f x+f x) (by omega) (by omega),w64_eq (n:=(x:Int)+1) (by omega) (by omega)]
  exact ⟨rfl,rfl⟩) (fun a hI=>by
  have e1:decide (((List.range (2 ^ rZ3.2.1.Down.length)).length:Int) < IntKind.wrap .i64 (1 * 2 ^ (min rZ3.2.1.Down.length (IntKind.bits .i64))))=false:=by
   rw [shl1 _ (by omega)]; simp
  simp only [M_ag,hu]
  rw [grd_t (by omega)]
  simp only [Option.bind_some,Int.toNat_natCast,e1,cond_false]) 0 rfl (by simp; omega)
 have e0:((0:Nat):Int)=0:=rfl
 simp only [e0] at key
 rw [key]
 have gen:∀ j,foldI (fun i (_:Nat) (a:Int)=>a+f i) 0 (List.range j) 0=sumN f j:=by
  intro j
  rw [foldI_rng (fun i (a:Int)=>a+f i)]
  induction j with
  | zero=>rfl
  | succ j ih=>show (Nat.rec (0:Int) (fun i r=>r+f i) j:Int)+f j=_; rw [ih]; rfl
 rw [gen,hsum]
theorem p_routeD {c:Tl1Cur} {m:Nat} {K F:Nat} {nodes:List ByteArray} {fs:List TFiber} (hD:NetD K nodes fs) (hF:F≤fs.length) (h:CurOk c m) (hm:m≤100000000) :
 ∃ (st:Int) (l:List Int) (c':Tl1Cur),M_df 0 K 0 F c nodes fs=some (st,l,c',nodes,fs)∧l.length≤10∧CurOk c' (m+100):=by
 have hF15:=hD.f
 obtain ⟨x,c1,x1,x2,x3,x4⟩:=p_pick (K:Int) h (by omega)
 obtain ⟨y,c2,y1,y2,y3,y4⟩:=p_pick 4 x4 (by omega)
 have hfl:(fs.take F).length=F:=by rw [List.length_take]; omega
 have inner:∀ (mm:Int) (seen fib:List Int) (cc:Tl1Cur),0 < seen.length→seen.length≤1000→∃ l,iter (M_o 0 K 0 F nodes fs (mm,seen,fib,cc)) N0 (0,[])=some l∧∀ e∈l,0≤e∧e < (F:Int):=by
  intro mm seen fib cc hs1 hs2
  obtain ⟨l,q1,q2⟩:=iter_inv (f:=M_o 0 K 0 F nodes fs (mm,seen,fib,cc)) (fun s=>0≤s.1∧s.1≤F∧(s.2.length:Int)≤s.1∧∀ e∈s.2,0≤e∧e < (F:Int)) (fun s=>(F - s.1).toNat) (fun o=>∀ e∈o,0≤e∧e < (F:Int)) (fun s hI=>by
   obtain ⟨j,l⟩:=s
   obtain ⟨i1,i2,i3,i4⟩:=hI
   simp only at i1 i2 i3 i4
   by_cases hj:j < F
   · left
     have hlt:seen.length - 1 < seen.length:=by omega
     have hwi:wi j 0 (((⟨nodes.take K,fs.take F⟩:TNetwork).Fibers.length:Int) - 1)=true:=wi_iff.2 (by simp only [hfl]; omega)
     simp only [M_o,decide_eq_true hj,cond_true,w64_eq (n:=(seen.length:Int) - 1) (by omega) (by omega),bnd,subT_pre nodes K hD.k,subT_pre fs F hF]
     rw [grd_t (by omega),show ((seen.length:Int) - 1).toNat=seen.length - 1 by omega,List.getElem?_eq_getElem hlt]
     simp only [Option.bind_some,p_l2Other _ j _ hwi]
     obtain ⟨b,hb⟩:∃ b,(cond (decide (0≤othI ⟨nodes.take K,fs.take F⟩ j seen[seen.length - 1])) ((M_br seen (othI ⟨nodes.take K,fs.take F⟩ j seen[seen.length - 1])).bind fun rZ18=>some (!rZ18)) (some false):Option Bool)=some b:=by
      rw [p_l1Has seen _ (by omega)]
      cases decide (0≤othI ⟨nodes.take K,fs.take F⟩ j seen[seen.length - 1]) <;> exact ⟨_,rfl⟩
     rw [hb]
     simp only [Option.bind_some]
     rw [w64_eq (n:=j+1) (by omega) (by omega)]
     cases b
     · exact ⟨_,rfl,⟨by simp only; omega,by simp only; omega,by simp only; omega,i4⟩,by simp only; omega⟩
     · rw [cond_true,grd_t (by omega)]
       refine ⟨_,rfl,⟨by simp only; omega,by simp only; omega,by simp only [List.length_append,List.length_cons,List.length_nil]; omega,fun e he=>?_⟩,by simp only; omega⟩
       rcases List.mem_append.1 he with h1 | h1
       · exact i4 e h1
       · simp only [List.mem_singleton] at h1; omega
   · right
     simp only [M_o,decide_eq_false hj,cond_false]
     exact ⟨_,rfl,i4⟩) N0 (0,[]) ⟨by simp,by simp,by simp,by simp⟩ (N0_lt (by simp only; omega))
  exact ⟨l,q1,q2⟩
 obtain ⟨⟨l,c3⟩,q1,q2,q3⟩:=iter_inv (f:=M_u 0 K 0 F nodes fs) (fun s=>0≤s.1∧s.1≤4∧0 < s.2.1.length∧(s.2.1.length:Int)≤5 - s.1∧(s.2.2.1.length:Int)≤4 - s.1∧CurOk s.2.2.2 (m+4+2 * (4 - s.1).toNat)) (fun s=>s.1.toNat) (fun o=>o.1.length≤4∧CurOk o.2 (m+20)) (fun s hI=>by
  obtain ⟨mm,seen,fib,cc⟩:=s
  obtain ⟨i1,i2,i3,i4,i5,i6⟩:=hI
  simp only at i1 i2 i3 i4 i5 i6
  by_cases hj:0 < mm
  · obtain ⟨l,l1,l2⟩:=inner mm seen fib cc i3 (by omega)
    simp only [M_u,decide_eq_true hj,cond_true,l1,Option.bind_some]
    by_cases h0:l.length=0
    · right
      rw [show ((l.length:Int)==0)=true by simp [h0],cond_true]
      exact ⟨_,rfl,by simp only; omega,i6.up (by omega)⟩
    · left
      rw [show ((l.length:Int)==0)=false by simp; exact fun e=>h0 (by simp [e]),cond_false]
      obtain ⟨k,c',k1,k2,k3,k4⟩:=p_pick (l.length:Int) i6 (by omega)
      have hk:k.toNat < l.length:=by omega
      have hlt:seen.length - 1 < seen.length:=by omega
      have he:=l2 _ (List.getElem_mem hk)
      have hwi:wi l[k.toNat] 0 (((⟨nodes.take K,fs.take F⟩:TNetwork).Fibers.length:Int) - 1)=true:=wi_iff.2 (by simp only [hfl]; omega)
      simp only [k1,Option.bind_some,w64_eq (n:=(seen.length:Int) - 1) (by omega) (by omega),w64_eq (n:=mm - 1) (by omega) (by omega),bnd,subT_pre nodes K hD.k,subT_pre fs F hF]
      rw [grd_t (by omega)]
      simp only [Option.bind_some,List.getElem?_eq_getElem hk]
      rw [grd_t (by omega)]
      simp only [Option.bind_some]
      rw [grd_t (by omega),show ((seen.length:Int) - 1).toNat=seen.length - 1 by omega,List.getElem?_eq_getElem hlt]
      simp only [Option.bind_some,p_l2Other _ _ _ hwi]
      rw [grd_t (by omega)]
      simp only [Option.bind_some]
      exact ⟨_,rfl,⟨by simp only; omega,by simp only; omega,by simp,by simp only [List.length_append,List.length_cons,List.length_nil]; omega,by simp only [List.length_append,List.length_cons,List.length_nil]; omega,k4.up (by simp only; omega)⟩,by simp only; omega⟩
  · right
    simp only [M_u,decide_eq_false hj,cond_false]
    exact ⟨_,rfl,by simp only; omega,i6.up (by omega)⟩) N0 (1+y,[x],[],c2) ⟨by simp only; omega,by simp only; omega,by simp,by simp only [List.length_cons,List.length_nil]; omega,by simp only [List.length_nil]; omega,y4.up (by omega)⟩ (N0_lt (by simp only; omega))
 simp only at q2 q3
 unfold M_df
 simp only [x1,Option.bind_some,bnd,y1,w64_eq (n:=1+y) (by omega) (by omega),q1]
 exact ⟨_,_,_,rfl,by omega,q3.up (by omega)⟩
theorem p_anyRouteD {c:Tl1Cur} {m:Nat} {K F:Nat} {nodes:List ByteArray} {fs:List TFiber} (hD:NetD K nodes fs) (hF:F≤fs.length) (h:CurOk c m) (hm:m≤100000000) :
 ∃ (st:Int) (l:List Int) (c':Tl1Cur),M_by 0 K 0 F c nodes fs=some (st,l,c',nodes,fs)∧l.length≤11∧CurOk c' (m+200):=by
 obtain ⟨st,l,c1,l1,l2,l3⟩:=p_routeD hD hF h hm
 obtain ⟨r,c2,r1,r2,r3,r4⟩:=p_pick 16 l3 (by omega)
 obtain ⟨x,c3,x1,x2,x3,x4⟩:=p_pick 8 r4 (by omega)
 unfold M_by
 simp only [l1,Option.bind_some,r1,x1,bnd]
 rcases bt (r==0) with e | e
 · rw [e]; exact ⟨_,_,_,rfl,by omega,x4.up (by omega)⟩
 rw [e,cond_false]
 rcases bt (r==1) with e | e
 · rw [e,cond_true,grd_t (by omega)]; exact ⟨_,_,_,rfl,by simp; omega,x4.up (by omega)⟩
 rw [e,cond_false]
 rcases bt (r==2) with e | e
 · rw [e]; exact ⟨_,_,_,rfl,by simp,r4.up (by omega)⟩
 rw [e,cond_false]
 rcases bt (r==3) with e | e
 · rw [e,cond_true]
   by_cases h1:1 < (l.length:Int)
   · have hlt:l.length - 1 < l.length:=by omega
     rw [decide_eq_true h1,cond_true,w64_eq (n:=(l.length:Int) - 1) (by omega) (by omega),grd_t (by omega),show ((l.length:Int) - 1).toNat=l.length - 1 by omega,List.getElem?_eq_getElem hlt]
     simp only [Option.bind_some]
     rw [grd_t (by omega)]
     exact ⟨_,_,_,rfl,by simp; omega,r4.up (by omega)⟩
   · rw [decide_eq_false h1,cond_false]; exact ⟨_,_,_,rfl,by omega,r4.up (by omega)⟩
 rw [e,cond_false]; exact ⟨_,_,_,rfl,by omega,r4.up (by omega)⟩
theorem p_drawPair {code:List Int} (h:codeOk code):∃ (n:TNetwork) (o:TOutage) (a b:TRoute),M_dg code=some (n,o,a,b)∧z_Network n≤1048576∧z_Outage o≤1048576∧z_Route a≤1048576∧z_Route b≤1048576:=by
 obtain ⟨K,F,u,nodes,fs,ds,c1,n1,n2,n3,n4,n5⟩:=p_outages (cur0 h) (by omega)
 obtain ⟨s1,l1,c2,e1,e2,e3⟩:=p_anyRouteD n2 n3 n5 (by omega)
 obtain ⟨s2,l2,c3,g1,g2,g3⟩:=p_anyRouteD n2 n3 e3 (by omega)
 unfold M_dg
 simp only [n1,Option.bind_some,e1,g1,bnd,subT_pre nodes K n2.k,subT_pre fs F n3]
 exact ⟨_,_,_,_,rfl,z_drawn n2 n3,by show ds.length≤1048576; omega,by show l1.length≤1048576; omega,by show l2.length≤1048576; omega⟩
theorem p_FnAvailability (code:List Int) (o1:code.length≤9223372036854775807∧∀ x∈code,0≤x∧x≤255):M_ef code=some true:=by
 have hb:=o1.2
 unfold M_ef M_dx
 by_cases hl:(65536:Int) < (code.length:Int)
 · simp [hl]
 simp only [decide_eq_false hl,Option.bind_some,cond_false]
 obtain ⟨n,o,a,b,d1,hz,ho,ha,hbz⟩:=p_drawPair (code:=code) ⟨hb,by omega⟩
 have ho':o.Down.length≤1048576:=ho
 simp only [d1,Option.bind_some,p_impl_PairAvailability n o a b hz ho ha hbz,p_spec_PairAvailability n o a b hz ho ha hbz,bne_self_eq_false,cond_false,beq_self_eq_true,Bool.not_true,cond_true,
  p_impl_RouteAvailability n o a hz ho ha,p_impl_RouteAvailability n o b hz ho hbz]
 rcases bt (outOk n o&&rteOk n a&&rteOk n b) with e | e
 · have e':=e
   simp only [Bool.and_eq_true] at e'
   obtain ⟨⟨e1,e2⟩,e3⟩:=e'
   have hn:netOk n=true:=(outOk_K e1).1
   have hbn:=netOk_b hn
   have hE:∀ f∈n.Fibers,f.A < n.Nodes.length∧f.B < n.Nodes.length:=fun f hf=>by
    have:=(net_ed hn) f hf; omega
   obtain ⟨nodes,hv⟩:∃ l,visP n a=some l:=by
    have:=e2; unfold rteOk at this; rw [Bool.and_eq_true] at this; exact Option.isSome_iff_exists.1 this.2
   obtain ⟨f1,f2,f3,f4⟩:=rte_facts hE hv
   obtain ⟨t,ht⟩:=vis_start hv
   have hfib:0 < a.Fibers.length:=by
    unfold visP at hv
    split at hv
    · cases hv
    · rename_i hc
      simp only [Bool.or_eq_true,decide_eq_true_eq,not_or] at hc
      omega
   have hra:=rte_ok e2
   have hlast:nodes.length - 1 < nodes.length:=by omega
   have hgl:nodes.getLast?=some nodes[nodes.length - 1]:=by rw [List.getLast?_eq_getElem?,List.getElem?_eq_getElem hlast]
   have h0:0 < nodes.length:=by omega
   have hn0:nodes[0]=a.Start:=by simp only [ht]; rfl
   have hne:a.Start ≠ nodes[nodes.length - 1]:=fun hh =>
    (List.pairwise_iff_getElem.1 f1 0 (nodes.length - 1) h0 hlast (by omega)) (by rw [hn0]; exact hh)
   have hrg0:=f2 _ (List.getElem_mem h0)
   have hrg1:=f2 _ (List.getElem_mem hlast)
   rw [hn0] at hrg0
   have hends:endsB n a.Start nodes[nodes.length - 1]=true:=by
    unfold endsB
    simp only [Bool.and_eq_true,wi_iff,bne_iff_ne,ne_eq]
    exact ⟨⟨by omega,by omega⟩,hne⟩
   have hRN:M_dr n a=some (nodes,true):=by
    unfold M_dr M_ee
    obtain ⟨o2,w1,w2⟩:=p_l4Walk n a (by omega) (by omega) (by omega)
    rw [p_l4Good n a hz (by omega),e2]
    simp only [Option.bind_some,Bool.not_true,cond_false,w1,w2 nodes hv]
   have hpa:paP n o a b=(conP n o (sep2 a b),true):=by unfold paP; rw [e]; rfl
   have hpx:paP n o a a=(conP n o (sepP a.Fibers),true):=by unfold paP; rw [e1,e2,sep2_self]; rfl
   have hpy:paP n o b b=(conP n o (sepP b.Fibers),true):=by unfold paP; rw [e1,e3,sep2_self]; rfl
   have hca:caP n o a.Start nodes[nodes.length - 1]=(conP n o fun l=>qB a.Start nodes[nodes.length - 1] (labG n l),true):=by unfold caP; rw [e1,hends]; rfl
   have hna:naP n o=(conP n o fun l=>qB (-1) (-1) (labG n l),true):=by unfold naP; rw [e1]; rfl
   have i1:conP n o (sepP a.Fibers)≤conP n o (sep2 a b):=sum_mono e1 _ _ fun l h=>by unfold sep2; rw [h]; rfl
   have i2:conP n o (sepP b.Fibers)≤conP n o (sep2 a b):=sum_mono e1 _ _ fun l h=>by unfold sep2; rw [h,Bool.or_true]
   have i3:conP n o (sep2 a b)≤conP n o (sepP a.Fibers)+conP n o (sepP b.Fibers):=sum_or e1 _ _
   have i4:conP n o (sepP a.Fibers)≤conP n o (fun l=>qB a.Start nodes[nodes.length - 1] (labG n l)):=sum_mono e1 _ _ fun l h=>vis_conn hn hv h hgl
   have i5:conP n o (fun l=>qB (-1) (-1) (labG n l))≤conP n o (fun l=>qB a.Start nodes[nodes.length - 1] (labG n l)):=sum_mono e1 _ _ fun l h=>by
    unfold qB at h ⊢
    rw [if_pos (by omega)] at h
    rw [if_neg (by omega)]
    unfold allZ at h
    rw [List.all_eq_true] at h
    have hlen:(labG n l).length=n.Nodes.length:=labels_len ..
    have g:∀ v:Nat,v < n.Nodes.length→gt (labG n l) v=0:=fun v hv=>by
     have hv':v < (labG n l).length:=by omega
     have h1:=gt_at hv'
     have h2:=h (labG n l)[v] (List.getElem_mem hv')
     rw [List.getElem?_eq_getElem hv'] at h1
     simp only [Option.some.injEq] at h1
     rw [← h1]; simpa using h2
    rw [g _ (by omega),g _ (by omega)]; rfl
   have b1:=(con_sum e1 (sepP a.Fibers)).2
   have b2:=(con_sum e1 (sepP b.Fibers)).2
   rw [hpa,hpx,hpy]
   simp only [cond_false,Bool.not_true,hRN,Option.bind_some]
   rw [grd_t (by omega)]
   simp only [Option.bind_some,Int.toNat_zero,List.getElem?_eq_getElem h0,hn0]
   rw [w64_eq (n:=(nodes.length:Int) - 1) (by omega) (by omega),grd_t (by omega),show ((nodes.length:Int) - 1).toNat=nodes.length - 1 by omega,List.getElem?_eq_getElem hlast]
   simp only [Option.bind_some,p_impl_ConnectionAvailability n o a.Start nodes[nodes.length - 1] hz ho,hca,p_impl_NetworkAvailability n o hz ho,hna,Bool.not_true,cond_false]
   rw [decide_eq_false (Int.not_lt.2 i1),decide_eq_false (Int.not_lt.2 i2),w64_eq (n:=conP n o (sepP a.Fibers)+conP n o (sepP b.Fibers)) (by omega) (by omega),decide_eq_false (Int.not_lt.2 i3),decide_eq_false (Int.not_lt.2 i4),decide_eq_false (Int.not_lt.2 i5)]
   simp only [cond_false,Option.bind_some]
   by_cases h8:(8:Int) < (o.Down.length:Int)
   · rw [decide_eq_true h8]; rfl
   · rw [decide_eq_false h8,cond_false,all_loopW (n,o,a,b) n o rfl rfl e1 hz (by omega)]
     simp only [Option.bind_some,p_rUnits e1]
     unfold allP
     rw [beq_self_eq_true]
 · have hpa:paP n o a b=(0,false):=by unfold paP; rw [e]; rfl
   rw [hpa]; rfl
end Vs

namespace Vs
end Vs

