/- Parts of the proof of TopReaches. -/
import Derived.Test.YtgadhchejmlfjaaGreatDoorA1
import Derived.OrdersHeld
import Derived.Deep.RegionLaw
import Derived.Deep.RegionHeld
set_option linter.unusedVariables false
set_option maxRecDepth 20000
section
namespace Go.Proofs.YtgadhchejmlfjaaGreatDoor
open Go.RowKit Go.Esc
theorem row_type {w:World} {base:Nat} {e:TypeId} {size:Nat} {v:Value} {n:Nat} {xs:List Value} (h:w.ownsRow base e size v n xs) {j:Nat} (hj:v.ownBlock = some j):∃ cs,Blk w j cs e:=by
 obtain ⟨_,⟨rfl,_⟩ | ⟨g,cap,cur,rfl,_,hb,_⟩⟩:=h
 ·cases hj
 ·cases hj;exact ⟨cur,hb⟩
theorem blk_type {w:World} {j:Nat} {a b:Array Value} {s t:TypeId} (h1:Blk w j a s) (h2:Blk w j b t):s = t:=by
 unfold Blk at h1 h2
 rw [h1] at h2
 cases h2
 rfl
theorem blk_eq {w:World} {j:Nat} {a b:Array Value} {s t:TypeId} (h1:Blk w j a s) (h2:Blk w j b t):a = b:=by
 unfold Blk at h1 h2
 rw [h1] at h2
 cases h2
 rfl
theorem row_blk {w:World} {g base n size:Nat} {cs:Array Value} {e:TypeId} (h:Blk w g cs e) (hb:base ≤ g) (hn:cs.size = n * size) (hm:n ≤ 1000000):w.ownsRow base e size (.slice (some ⟨g,0,none⟩) n n) n cs.toList:=
 ⟨by simpa using hn,.inr ⟨g,n,cs,rfl,hb,h,Nat.le_refl _,by unfold maxLen;omega,hn,by rw [← hn];exact List.take_of_length_le (by simp)⟩⟩
theorem row_slice {w:World} {base:Nat} {e:TypeId} {size:Nat} {v:Value} {n:Nat} {xs:List Value} (h:w.ownsRow base e size v n xs):∃ a c,v = .slice a n c:=by
 rcases rowv_open h with ⟨rfl,h0⟩ | ⟨g,cap,rfl,_⟩
 ·exact ⟨none,0,by rw [h0]⟩
 ·exact ⟨_,cap,rfl⟩
theorem row_full {w:World} {base:Nat} {e:TypeId} {size:Nat} {v:Value} {n:Nat} {xs:List Value} (h:w.ownsRow base e size v n xs) (hn:0 < n) :
  ∃ g cap cur,v = .slice (some ⟨g,0,none⟩) n cap ∧ base ≤ g ∧ Blk w g cur e ∧ cur.toList.take (n * size) = xs:=by
 obtain ⟨_,⟨_,h0⟩ | ⟨g,cap,cur,h1,h2,h3,_,_,_,h4⟩⟩:=h
 ·omega
 ·exact ⟨g,cap,cur,h1,h2,h3,h4⟩
structure KT (T:List TypeId) (w w':World):Prop where
 size:w.heap.size ≤ w'.heap.size
 keep:∀ {j:Nat} {cs:Array Value} {t:TypeId},Blk w j cs t → t ∉ T → Blk w' j cs t
theorem KT.refl (T:List TypeId) (w:World):KT T w w:=⟨Nat.le_refl _,fun h _=>h⟩
theorem KT.trans {T:List TypeId} {a b c:World} (h:KT T a b) (k:KT T b c):KT T a c:=⟨Nat.le_trans h.size k.size,fun hb ht=>k.keep (h.keep hb ht) ht⟩
theorem KT.below {T:List TypeId} {w w':World} (hB:Below w.heap.size w w'):KT T w w':=⟨hB.size,fun h _=>h.below hB h.lt⟩
theorem KT.set {T:List TypeId} {w:World} {b:Nat} {cs:Array Value} {t:TypeId} (hb:Blk w b cs t) (ht:t ∈ T) (i:Nat) (u:Value):KT T w (w.setCell ⟨b,i,none⟩ u):=
 ⟨by simp [World.setCell],fun {j cs' t'} h h'=>h.setOther (fun e=>by subst e;rw [blk_type h hb] at h';exact h' ht) _⟩
theorem KT.grown {T:List TypeId} {w w':World} {base:Nat} {e:TypeId} {size:Nat} {v:Value} {n:Nat} {xs:List Value} (h:w.ownsRow base e size v n xs) (hG:w.grownBy w' v.ownBlock) (he:e ∈ T):KT T w w':=
 ⟨hG.size,fun {j cs t} hb ht=>hb.kept hG (fun e'=>by
  obtain ⟨c2,q⟩:=row_type h e'.symm
  rw [blk_type hb q] at ht
  exact ht he)⟩
theorem KT.row {T:List TypeId} {w w':World} (k:KT T w w') {base:Nat} {e:TypeId} {size:Nat} {v:Value} {n:Nat} {xs:List Value} (h:w.ownsRow base e size v n xs) (he:e ∉ T):w'.ownsRow base e size v n xs:=by
 obtain ⟨h1,h2 | ⟨g,cap,cur,hv,hg,hh,r⟩⟩:=h
 ·exact ⟨h1,.inl h2⟩
 ·exact ⟨h1,.inr ⟨g,cap,cur,hv,hg,k.keep hh he,r⟩⟩
end Go.Proofs.YtgadhchejmlfjaaGreatDoor
end
section
namespace Go
section
variable {P:Program} {ops:Array Oper} {Q:Exit → Act → World → Prop} {md:Region.Mode} {S:World → Prop} {m:Nat}
def wpAnyM (P:Program) (md:Region.Mode) (ops:Array Oper) (Q:Exit → Act → World → Prop) (S:World → Prop) (m:Nat):Nat → Array Bool → Act → World → Prop
 | 0,listed,a,w=>Region.ready md ops listed = [] ∧ Q .normal a w
 | fuel + 1,listed,a,w=>
  (Region.ready md ops listed = [] → Q .normal a w) ∧
  ∀ i ∈ Region.ready md ops listed,wpOp P ops Q i (fun a' w'=>((listed.setIfInBounds i true).getD m true = false → S w') ∧ wpAnyM P md ops Q S m fuel (listed.setIfInBounds i true) a' w') a w
theorem wpAny_of_m:∀ (fuel:Nat) (listed:Array Bool) (a:Act) (w:World),wpAnyM P md ops Q S m fuel listed a w → wpAny P md ops Q fuel listed a w
 | 0,_,_,_,h=>h
 | fuel + 1,_,_,_,h=>⟨h.1,fun i hi=>wpOp_mono (fun a' w' h'=>wpAny_of_m fuel _ a' w' h'.2) (h.2 i hi)⟩
theorem wpAnyM_first {i:Nat} {oi om:Oper} {v:Value} (hi:ops[i]? = some oi) (hsel:∀ (j:Nat) (o:Oper) cs b,ops[j]? = some o → o.op ≠ .select cs b)
  (hQ:∀ c a w,Q (.panic c) (a.put oi.dst v) w → Q (.panic c) a w) (hom:ops[m]? = some om) (hwm:∃ e ∈ om.after,Region.binds md e = true ∧ e.on = i) (hmi:m ≠ i) :
  ∀ (fuel:Nat) (listed:Array Bool) (a:Act) (w:World),
   (∀ j oj,ops[j]? = some oj → j ≠ i → listed.getD j true = false → (∀ e ∈ oj.after,Region.binds md e = true → e.on ≠ i) → oi.apart ops oj = true) →
   i ∈ Region.ready md ops listed → YieldsIf P ops S oi v a → S w → listed.getD m true = false →
   wpAnyM P md ops Q S m fuel (listed.setIfInBounds i true) (a.put oi.dst v) w → wpAnyM P md ops Q S m (fuel + 1) listed a w:=by
 intro fuel
 induction fuel with
 | zero=>
  intro listed a w _ hr hy hS hm0 H
  refine ⟨fun h=>(by rw [h] at hr;cases hr),fun j hj=>?_⟩
  by_cases hji:j = i
  ·subst hji;exact hy.wpOp hi hS ⟨fun _=>hS,H⟩
  ·have:=ready_mono hj hji
   rw [H.1] at this
   cases this
 | succ fuel ih=>
  intro listed a w hfree hr hy hS hm0 H
  refine ⟨fun h=>(by rw [h] at hr;cases hr),fun j hj=>?_⟩
  by_cases hji:j = i
  ·subst hji;exact hy.wpOp hi hS ⟨fun _=>hS,H⟩
  ·have h1:=H.2 j (ready_mono hj hji)
   obtain ⟨hjun,oj,hoj,hall⟩:=mem_ready.1 hj
   have hnot:∀ e ∈ oj.after,Region.binds md e = true → e.on ≠ i:=fun e he hb heq=>by
    have h1:=hall e he hb
    have h0:=(mem_ready.1 hr).1
    rw [heq] at h1
    rcases Nat.lt_or_ge i listed.size with h' | h'
    ·simp [h'] at h0 h1;rw [h0] at h1;cases h1
    ·simp [Array.getElem?_eq_none h'] at h1
   have hjm:j ≠ m:=fun e=>by
    subst e
    rw [hom] at hoj
    cases hoj
    obtain ⟨e,he,hb,ho⟩:=hwm
    exact hnot e he hb ho
   have hm1:(listed.setIfInBounds j true).getD m true = false:=by rw [getD_set_ne true hjm];exact hm0
   have hm2:((listed.setIfInBounds i true).setIfInBounds j true).getD m true = false:=by rw [getD_set_ne true hjm,getD_set_ne true (Ne.symm hmi)];exact hm0
   have h2:=wpOp_putIf hoj (hfree j oj hoj hji hjun hnot) (fun cs b=>hsel i oi cs b hi) (fun cs b=>hsel j oj cs b hoj) hQ hy h1
   have hfree':∀ k ok,ops[k]? = some ok → k ≠ i → (listed.setIfInBounds j true).getD k true = false →
     (∀ e ∈ ok.after,Region.binds md e = true → e.on ≠ i) → oi.apart ops ok = true:=fun k ok hk hki hun hno=>by
    refine hfree k ok hk hki ?_ hno
    by_cases hjk:j = k
    ·subst hjk;exact hjun
    ·rw [getD_set_ne true hjk] at hun;exact hun
   refine wpOp_mono (fun a' w' h3=>⟨fun _=>h3.2.1 hm2,ih (listed.setIfInBounds j true) a' w' hfree' (ready_mono hr (Ne.symm hji)) h3.1 (h3.2.1 hm2) hm1 ?_⟩) h2
   rw [Array.setIfInBounds_comm _ _ hji]
   exact h3.2.2
theorem wpAnyM_take {i:Nat} {oi om:Oper} {v:Value} {fuel:Nat} {listed:Array Bool} {a:Act} {w:World} (hi:ops[i]? = some oi) (hom:ops[m]? = some om)
  (hwm:(om.after.any fun e=>Region.binds md e && e.on == i) = true) (hmi:(m != i && !listed.getD m true) = true)
  (hs:Region.noSelect ops = true) (hf:Region.free md ops listed i = true) (hr:(Region.ready md ops listed).contains i = true)
  (hQ:∀ c a w,Q (.panic c) (a.put oi.dst v) w → Q (.panic c) a w) (hy:YieldsIf P ops S oi v a) (hS:S w)
  (h:wpAnyM P md ops Q S m fuel (listed.setIfInBounds i true) (a.put oi.dst v) w):wpAnyM P md ops Q S m (fuel + 1) listed a w:=by
 simp only [Bool.and_eq_true,bne_iff_ne,ne_eq,Bool.not_eq_true'] at hmi
 obtain ⟨e,he,hb⟩:=Array.any_eq_true'.1 hwm
 simp only [Bool.and_eq_true,beq_iff_eq] at hb
 exact wpAnyM_first hi (Region.noSelect_spec hs) hQ hom ⟨e,he,hb.1,hb.2⟩ hmi.1 fuel listed a w (Region.free_spec hi hf) (by simpa using hr) hy hS hmi.2 h
theorem wpAnyM_first0 {i:Nat} {oi:Oper} {v:Value} (hi:ops[i]? = some oi) (hsel:∀ (j:Nat) (o:Oper) cs b,ops[j]? = some o → o.op ≠ .select cs b)
  (hQ:∀ c a w,Q (.panic c) (a.put oi.dst v) w → Q (.panic c) a w) (hmi:m ≠ i) :
  ∀ (fuel:Nat) (listed:Array Bool) (a:Act) (w:World),
   (∀ j oj,ops[j]? = some oj → j ≠ i → listed.getD j true = false → (∀ e ∈ oj.after,Region.binds md e = true → e.on ≠ i) → oi.apart ops oj = true) →
   i ∈ Region.ready md ops listed → YieldsIf P ops (fun _=>True) oi v a → (listed.getD m true = false → S w) →
   wpAnyM P md ops Q S m fuel (listed.setIfInBounds i true) (a.put oi.dst v) w → wpAnyM P md ops Q S m (fuel + 1) listed a w:=by
 intro fuel
 induction fuel with
 | zero=>
  intro listed a w _ hr hy hS H
  refine ⟨fun h=>(by rw [h] at hr;cases hr),fun j hj=>?_⟩
  by_cases hji:j = i
  ·subst hji;exact hy.wpOp hi trivial ⟨fun h=>hS (by rw [getD_set_ne true (Ne.symm hmi)] at h;exact h),H⟩
  ·have:=ready_mono hj hji
   rw [H.1] at this
   cases this
 | succ fuel ih=>
  intro listed a w hfree hr hy hS H
  refine ⟨fun h=>(by rw [h] at hr;cases hr),fun j hj=>?_⟩
  by_cases hji:j = i
  ·subst hji;exact hy.wpOp hi trivial ⟨fun h=>hS (by rw [getD_set_ne true (Ne.symm hmi)] at h;exact h),H⟩
  ·have h1:=H.2 j (ready_mono hj hji)
   obtain ⟨hjun,oj,hoj,hall⟩:=mem_ready.1 hj
   have hnot:∀ e ∈ oj.after,Region.binds md e = true → e.on ≠ i:=fun e he hb heq=>by
    have h1:=hall e he hb
    have h0:=(mem_ready.1 hr).1
    rw [heq] at h1
    rcases Nat.lt_or_ge i listed.size with h' | h'
    ·simp [h'] at h0 h1;rw [h0] at h1;cases h1
    ·simp [Array.getElem?_eq_none h'] at h1
   have h2:=wpOp_putIf hoj (hfree j oj hoj hji hjun hnot) (fun cs b=>hsel i oi cs b hi) (fun cs b=>hsel j oj cs b hoj) hQ hy h1
   have hfree':∀ k ok,ops[k]? = some ok → k ≠ i → (listed.setIfInBounds j true).getD k true = false →
     (∀ e ∈ ok.after,Region.binds md e = true → e.on ≠ i) → oi.apart ops ok = true:=fun k ok hk hki hun hno=>by
    refine hfree k ok hk hki ?_ hno
    by_cases hjk:j = k
    ·subst hjk;exact hjun
    ·rw [getD_set_ne true hjk] at hun;exact hun
   have hS':∀ w',(((listed.setIfInBounds i true).setIfInBounds j true).getD m true = false → S w') → ((listed.setIfInBounds j true).getD m true = false → S w'):=fun w' h hm=>h (by
    rw [Array.setIfInBounds_comm _ _ (Ne.symm hji),getD_set_ne true (Ne.symm hmi)];exact hm)
   refine wpOp_mono (fun a' w' h3=>⟨hS' w' h3.2.1,ih (listed.setIfInBounds j true) a' w' hfree' (ready_mono hr (Ne.symm hji)) h3.1 (hS' w' h3.2.1) ?_⟩) h2
   rw [Array.setIfInBounds_comm _ _ hji]
   exact h3.2.2
theorem wpAnyM_take0 {i:Nat} {oi:Oper} {v:Value} {fuel:Nat} {listed:Array Bool} {a:Act} {w:World} (hi:ops[i]? = some oi) (hmi:(m != i) = true)
  (hs:Region.noSelect ops = true) (hf:Region.free md ops listed i = true) (hr:(Region.ready md ops listed).contains i = true)
  (hQ:∀ c a w,Q (.panic c) (a.put oi.dst v) w → Q (.panic c) a w) (hy:Yields P ops oi v a) (hS:listed.getD m true = false → S w)
  (h:wpAnyM P md ops Q S m fuel (listed.setIfInBounds i true) (a.put oi.dst v) w):wpAnyM P md ops Q S m (fuel + 1) listed a w:=
 wpAnyM_first0 hi (Region.noSelect_spec hs) hQ (by simpa using hmi) fuel listed a w (Region.free_spec hi hf) (by simpa using hr) hy.yieldsIf hS h
def AllReadyM (P:Program) (md:Region.Mode) (ops:Array Oper) (Q:Exit → Act → World → Prop) (S:World → Prop) (m fuel:Nat) (listed:Array Bool) (a:Act) (w:World) (rs:List Nat):Prop:=
 ∀ i ∈ rs,wpOp P ops Q i (fun a' w'=>((listed.setIfInBounds i true).getD m true = false → S w') ∧ wpAnyM P md ops Q S m fuel (listed.setIfInBounds i true) a' w') a w
theorem AllReadyM.nil {fuel:Nat} {listed:Array Bool} {a:Act} {w:World}:AllReadyM P md ops Q S m fuel listed a w []:=fun _ h=>by cases h
theorem AllReadyM.cons {fuel:Nat} {listed:Array Bool} {a:Act} {w:World} {i:Nat} {o:Oper} {rs:List Nat} (ho:ops[i]? = some o)
  (h:∀ K':Act → World → Prop,(∀ a w,((listed.setIfInBounds i true).getD m true = false → S w) ∧ wpAnyM P md ops Q S m fuel (listed.setIfInBounds i true) a w → K' a w) → if Region.wanted o (yielded ops a.tmps) = true then Oper.wp P o a w K' Q else K' (a.put o.dst undef) w)
  (hs:AllReadyM P md ops Q S m fuel listed a w rs):AllReadyM P md ops Q S m fuel listed a w (i :: rs):=fun j hj=>by
 rcases List.mem_cons.1 hj with rfl | hj
 ·exact wpOp_step ho (fun K' hK=>h K' (fun a w hW=>hK a w hW))
 ·exact hs j hj
theorem wpAnyM_ready {rs:List Nat} {fuel:Nat} {listed:Array Bool} {a:Act} {w:World} (hr:Region.ready md ops listed = rs) (hne:rs ≠ [])
  (h:AllReadyM P md ops Q S m fuel listed a w rs):wpAnyM P md ops Q S m (fuel + 1) listed a w:=⟨fun h0=>absurd (hr ▸ h0) hne,hr ▸ h⟩
theorem wpAnyM_done {listed:Array Bool} {a:Act} {w:World} (hr:Region.ready md ops listed = []) (h:Q .normal a w):∀ fuel,wpAnyM P md ops Q S m fuel listed a w
 | 0=>⟨hr,h⟩
 | _ + 1=>⟨fun _=>h,by rw [hr];simp⟩
theorem wp_region_m {id:Nat} {a:Act} {w:World} (m:Nat) (S:World → Prop) (hm:P.follows .mixedOrders = true)
  (h:wpAnyM P .any ops Q S m ops.size (Array.replicate ops.size false) a w.drew):(Code.region id ops true).wp P Q a w:=
 wp_region_any hm (wpAny_of_m _ _ _ _ h)
end
end Go
end
