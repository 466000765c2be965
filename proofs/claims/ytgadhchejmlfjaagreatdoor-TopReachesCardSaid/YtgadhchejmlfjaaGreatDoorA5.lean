/- Contracts ported from other seats by program (tod.py): Many Queue QueueGet QueueBatch GlobMany Backward QueueList GlobOrderWalk GlobAct. -/
import Derived.Test.YtgadhchejmlfjaaGreatDoorA1
import Derived.BigGuard
import Derived.BigQuiet
import Derived.BigRegion
import Derived.Deep.DrawnRows
import Derived.Deep.LoopGhost
import Derived.Deep.RegionHeld3
import Derived.LoopIn
import Derived.LoopNIn
import Derived.Maps.AppendAt
import Derived.Outline
import Derived.OwnWalkIn
import Derived.RangeFuncBox
import Derived.RangeFuncLeaves
import Derived.RegionTactic
import Derived.Shelf.Abstract
import Derived.TacticsInMore
import Derived.WalkKit
import Derived.WalkMore
set_option linter.unusedVariables false
set_option maxRecDepth 20000
namespace Go.Esc
def manyBad (n p m:Int):Prop:=p < 1 ∨ m < 1 ∨ n < 1
instance (n p m:Int):Decidable (manyBad n p m):=by unfold manyBad;infer_instance
def manyZ (n p m:Int):Int:=if manyBad n p m then 0 else min n (min m (min (n / p) (n - 1) + 1))
theorem many_lo {n p m:Int} (h:¬ manyBad n p m):1 ≤ manyZ n p m ∧ manyZ n p m ≤ n ∧ manyZ n p m ≤ m:=by
 have h':=h
 unfold manyBad at h'
 unfold manyZ
 rw [if_neg h]
 have:=Int.ediv_nonneg (show 0 ≤ n by omega) (show 0 ≤ p by omega)
 omega
theorem many_le (n p m:Int) (hn:0 ≤ n):0 ≤ manyZ n p m ∧ manyZ n p m ≤ n:=by
 by_cases h:manyBad n p m
 ·unfold manyZ;rw [if_pos h];omega
 ·have:=many_lo h;omega
end Go.Esc
namespace Go.Proofs.YtgadhchejmlfjaaGreatDoor.Glob
open Go.RowKit Go.Esc
set_option maxHeartbeats 1000000 in
theorem many_any (n p m:Int) (w:World) (hn:n ≤ 9223372036854775807):Calls Tryz.prog 286 #[.int .i64 n,.int .i64 p,.int .i64 m] w fun e w'=>e = .returned (.int .i64 (manyZ n p m)) ∧ w = w':=by
 by_cases h:manyBad n p m
 ·have hZ:manyZ n p m = 0:=by unfold manyZ;rw [if_pos h]
  rw [hZ]
  clear hZ
  unfold manyBad at h
  by_cases h1:p < 1
  ·clear h
   go_enter Tryz.func286,Tryz.ntmps286
   go_wp2
   go_ret
   exact ⟨rfl,rfl⟩
  ·by_cases h2:m < 1
   ·clear h
    go_enter Tryz.func286,Tryz.ntmps286
    go_wp2
    go_ret
    exact ⟨rfl,rfl⟩
   ·have h3:n < 1:=by omega
    clear h
    go_enter Tryz.func286,Tryz.ntmps286
    go_wp2
    go_ret
    exact ⟨rfl,rfl⟩
 ·have HZ:Hid (manyZ n p m = min n (min m (min (n / p) (n - 1) + 1))):=by show _ = _;unfold manyZ;rw [if_neg h]
  unfold manyBad at h
  have hn1:1 ≤ n:=by omega
  have hp1:1 ≤ p:=by omega
  have hm1:1 ≤ m:=by omega
  clear h
  have hpz:(p == 0) = false:=by rw [beq_eq_false_iff_ne];omega
  have hq0:=Int.ediv_nonneg (show 0 ≤ n by omega) (show 0 ≤ p by omega)
  have hq1:n / p ≤ n:=Int.ediv_le_self _ (by omega)
  go_enter Tryz.func286,Tryz.ntmps286
  go_wp2
  all_goals go_ret
  all_goals exact ⟨ret_int (by rw [HZ.out];omega),rfl⟩
open Go.RowKit Go.Esc
theorem info3:(Tryz.prog.info? 3).map (fun i=>(i.zero,i.size,i.bytes)) = some (some (.int .i64 0),1,8):=by kernel_rfl
def Q (w:World) (b:Nat) (v1 v2:Value) (f k:List Int):Prop:=
 Blk w b #[v1,v2] 203 ∧ OwnI w 0 v1 f ∧ OwnI w 0 v2 k ∧ v1.ownBlock ≠ some b ∧ v2.ownBlock ≠ some b ∧ ∀ j,v1.ownBlock = some j → v2.ownBlock ≠ some j
def Qf (b:Nat) (v1 v2:Value) (j:Nat):Prop:=j = b ∨ v1.ownBlock = some j ∨ v2.ownBlock = some j
theorem Q.lt {w:World} {b:Nat} {v1 v2:Value} {f k:List Int} (h:Q w b v1 v2 f k) {j:Nat} (hj:Qf b v1 v2 j):j < w.heap.size:=by
 rcases hj with rfl | hj | hj
 ·exact h.1.lt
 ·exact (h.2.1.lt j hj).2
 ·exact (h.2.2.1.lt j hj).2
theorem Q.only {S:Nat → Prop} {w w':World} {b:Nat} {v1 v2:Value} {f k:List Int} (h:Q w b v1 v2 f k) (o:Only S w w') (hs:∀ j,Qf b v1 v2 j → ¬ S j):Q w' b v1 v2 f k:=
 ⟨h.1.only o (hs b (.inl rfl)),h.2.1.off o (fun j hj=>hs j (.inr (.inl hj))),h.2.2.1.off o (fun j hj=>hs j (.inr (.inr hj))),h.2.2.2⟩
theorem Q.below {w w':World} {b:Nat} {v1 v2:Value} {f k:List Int} (h:Q w b v1 v2 f k) (hb:Below w.heap.size w w'):Q w' b v1 v2 f k:=
 h.only (S:=fun _=>False) ((Only.refl _ w).below hb) (fun _ _ x=>x)
theorem Q.drewN {w:World} {b:Nat} {v1 v2:Value} {f k:List Int} (h:Q w b v1 v2 f k) (n:Nat):Q (w.drewN n) b v1 v2 f k:=h
theorem Q.drew {w:World} {b:Nat} {v1 v2:Value} {f k:List Int} (h:Q w b v1 v2 f k):Q w.drew b v1 v2 f k:=h
def Queue (w:World) (b:Nat) (S:Nat → Prop) (L:List Int):Prop:=∃ v1 v2 f k,Q w b v1 v2 f k ∧ L = f.reverse ++ k ∧ S = Qf b v1 v2
theorem Queue.lt {w:World} {b:Nat} {S:Nat → Prop} {L:List Int} (h:Queue w b S L) {j:Nat} (hj:S j):j < w.heap.size:=by
 obtain ⟨v1,v2,f,k,h,_,rfl⟩:=h;exact h.lt hj
theorem Queue.only {S T:Nat → Prop} {w w':World} {b:Nat} {L:List Int} (h:Queue w b S L) (o:Only T w w') (hs:∀ j,S j → ¬ T j):Queue w' b S L:=by
 obtain ⟨v1,v2,f,k,h,hl,rfl⟩:=h;exact ⟨v1,v2,f,k,h.only o hs,hl,rfl⟩
theorem Queue.below {S:Nat → Prop} {w w':World} {b:Nat} {L:List Int} (h:Queue w b S L) (hb:Below w.heap.size w w'):Queue w' b S L:=by
 obtain ⟨v1,v2,f,k,h,hl,rfl⟩:=h;exact ⟨v1,v2,f,k,h.below hb,hl,rfl⟩
theorem Queue.drewN {S:Nat → Prop} {w:World} {b:Nat} {L:List Int} (h:Queue w b S L) (n:Nat):Queue (w.drewN n) b S L:=h
def Gr (S S':Nat → Prop) (w:World):Prop:=∀ j,S' j → S j ∨ w.heap.size ≤ j
theorem Gr.refl (S:Nat → Prop) (w:World):Gr S S w:=fun _ h=>.inl h
theorem Gr.trans {S T U:Nat → Prop} {w w':World} (h:Gr S T w) (k:Gr T U w') (hs:w.heap.size ≤ w'.heap.size):Gr S U w:=fun j hj=>(k j hj).elim (fun x=>h j x) (fun x=>.inr (Nat.le_trans hs x))
theorem Off.gr {S S':Nat → Prop} {w:World} {v:Value} (h:Off S v) (g:Gr S S' w) (hv:∀ j,v.ownBlock = some j → j < w.heap.size):Off S' v:=fun j hj hs=>(g j hs).elim (h j hj) (fun x=>by have:=hv j hj;omega)
set_option maxHeartbeats 1000000 in
theorem new_any (w:World):Calls Tryz.prog 44 #[] w fun e w'=>e = .returned (.pointer (some ⟨w.heap.size,0,none⟩)) ∧ w.alloc (.cells #[.slice none 0 0,.slice none 0 0] 203) = w':=by
 go_enter Tryz.func44,Tryz.ntmps44
 go_wp2
 go_ret
 exact ⟨rfl,rfl⟩
theorem Queue.new (w:World):Queue (w.alloc (.cells #[.slice none 0 0,.slice none 0 0] 203)) w.heap.size (fun j=>j = w.heap.size) []:=by
 refine ⟨_,_,[],[],⟨Blk.new w _ 203,OwnI.nil _ _,OwnI.nil _ _,by simp [Value.ownBlock],by simp [Value.ownBlock],by simp [Value.ownBlock]⟩,rfl,?_⟩
 funext j
 simp [Qf,Value.ownBlock]
def IntQ (x:Int) (w:World) (e:Ending) (w':World):Prop:=e = .returned (.int .i64 x) ∧ ∃ n,w' = w.drewN n
theorem own_len {w:World} {base:Nat} {v:Value} {l:List Int} (h:OwnI w base v l):∃ a cap,v = .slice a l.length cap:=by
 obtain ⟨a,cap,hv,_⟩:=Sl.ofOwn h
 exact ⟨a,cap,hv⟩
set_option maxHeartbeats 1000000 in
theorem len_q (b:Nat) (v1 v2:Value) (f k:List Int) (w:World) (h:Q w b v1 v2 f k) (hl:f.length + k.length < 100000000):Calls Tryz.prog 284 #[.pointer (some ⟨b,0,none⟩)] w (IntQ ((f.length:Int) + k.length) w):=by
 have c0:=h.1.cell 0
 have c1:=h.1.cell 1
 simp only [List.getElem?_toArray,List.getElem?_cons_zero,List.getElem?_cons_succ] at c0 c1
 obtain ⟨a1,p1,rfl⟩:=own_len h.2.1
 obtain ⟨a2,p2,rfl⟩:=own_len h.2.2.1
 clear h
 have e1:IntKind.i64.wrap ((f.length:Int) + k.length) = (f.length:Int) + k.length:=IntWalk.i64_in _ (by omega)
 go_enter Tryz.func284,Tryz.ntmps284
 go_wp2
 go_quiet (fail)
 go_wp2
 go_ret
 exact ⟨rfl,_,rfl⟩
theorem len_any (b:Nat) (S:Nat → Prop) (L:List Int) (w:World) (h:Queue w b S L) (hl:L.length < 100000000):Calls Tryz.prog 284 #[.pointer (some ⟨b,0,none⟩)] w (IntQ L.length w):=by
 obtain ⟨v1,v2,f,k,h,rfl,rfl⟩:=h
 simp at hl
 have:=len_q b v1 v2 f k w h (by omega)
 simpa using this
theorem Q.putBack {W w1:World} {b:Nat} {v1 v2 v2':Value} {f k m:List Int} {tmp:Obj} (h:Q W b v1 v2 f k) (hA:Appd (W.alloc tmp) 0 v2 k m v2' w1) :
  Blk w1 b #[v1,v2] 203 ∧ Q (w1.setCell ⟨b,1,none⟩ v2') b v1 v2' f (k ++ m) ∧ Only (Qf b v1 v2) W (w1.setCell ⟨b,1,none⟩ v2') ∧ Gr (Qf b v1 v2) (Qf b v1 v2') W:=by
 obtain ⟨hb,h1,h2,n1,n2,n3⟩:=h
 obtain ⟨ho,hg,hx⟩:=hA
 have hlt:=hb.lt
 have hb1:Blk w1 b #[v1,v2] 203:=(hb.alloc tmp).kept hg (Ne.symm n2)
 have h11:OwnI w1 0 v1 f:=(h1.alloc tmp).kept hg (by cases hv:v1.ownBlock with | none=>exact .inl rfl | some j=>exact .inr (fun e=>n3 j hv e.symm))
 have hne:∀ j,v2'.ownBlock = some j → j ≠ b:=fun j hj e=>by
  rcases hx j hj with h' | h'
  ·exact n2 (by rw [h',e])
  ·simp at h';omega
 have hd:∀ j,v1.ownBlock = some j → v2'.ownBlock ≠ some j:=fun j hj e=>by
  rcases hx j e with h' | h'
  ·exact n3 j hj h'
  ·have:=(h1.lt j hj).2
   simp at h';omega
 refine ⟨hb1,⟨hb1.set2_1,h11.kept (grown_set w1 b 1 v2') (.inr n1),ho.kept (grown_set w1 b 1 v2') (.inr (fun e=>hne b e rfl)),n1,fun e=>hne b e rfl,hd⟩,?_,?_⟩
 ·exact ((((Only.refl _ W).alloc tmp).grown hg (fun j e=>.inr (.inr (.inr e)))).set (.inr (.inl rfl)) 1 v2')
 ·rintro j (rfl | hj | hj)
  ·exact .inl (.inl rfl)
  ·exact .inl (.inr (.inl hj))
  ·rcases hx j hj with h' | h'
   ·exact .inl (.inr (.inr h'))
   ·exact .inr (by simp at h';omega)
theorem filter1_snoc (L:List Int) (k:Nat) (h:k < L.length):(L.take (k + 1)).filter (fun p=>decide (1 ≤ p)) = (L.take k).filter (fun p=>decide (1 ≤ p)) ++ (if 1 ≤ L[k]?.getD 0 then [L[k]?.getD 0] else []):=by
 rw [List.take_succ_eq_append_getElem h,List.filter_append]
 simp only [h,List.getElem?_eq_getElem,Option.getD_some]
 by_cases hc:1 ≤ L[k]
 ·simp [hc]
 ·simp [hc]
def right (l:List Int):List Int:=l.filter (fun p=>decide (1 ≤ p))
def PutPost (b:Nat) (v1 v2:Value) (f k':List Int) (w:World) (e:Ending) (w':World):Prop:=
 e = .returned (.int .i64 ((f.length:Int) + k'.length)) ∧ ∃ v2',Q w' b v1 v2' f k' ∧ Only (Qf b v1 v2) w w' ∧ Gr (Qf b v1 v2) (Qf b v1 v2') w
set_option maxHeartbeats 2000000 in
theorem put_q (b:Nat) (v1 v2:Value) (f k:List Int) (u:Value) (l:List Int) (w:World) (h:Q w b v1 v2 f k) (hu:Slw w u l) (ho:Off (Qf b v1 v2) u) (hl:f.length + k.length + l.length < 100000000) :
  Calls Tryz.prog 243 #[.pointer (some ⟨b,0,none⟩),u] w (PutPost b v1 v2 f (k ++ right l) w):=by
 obtain ⟨a,cap,rfl⟩:=hu.len
 have HU:=Lib.hid hu
 have HO:=Lib.hid ho
 clear ho
 have hb0:=h.1.lt
 go_enter Tryz.func243,Tryz.ntmps243
 go_wp2
 go_loopw [11] (fun i wr=>∃ (q:Nat) (v2':Value),q ≤ l.length ∧ i = .int .i64 q ∧ Q wr b v1 v2' f (k ++ (l.take q).filter (fun p=>decide (1 ≤ p))) ∧ Only (Qf b v1 v2) w wr ∧ Gr (Qf b v1 v2) (Qf b v1 v2') w) (fun i _=>l.length - (intOf i).toNat)
 case atStart=>exact ⟨0,v2,Nat.zero_le _,rfl,by simpa using h,Only.refl _ _,Gr.refl _ _⟩
 case round=>
  obtain ⟨q,v2',hq,rfl,hQ,hon,hgr⟩:=hrel
  have hfl:((l.take q).filter (fun p=>decide (1 ≤ p))).length ≤ q:=Nat.le_trans (List.length_filter_le _ _) (by rw [List.length_take];omega)
  obtain ⟨kk,HK⟩:∃ kk,Hid (k ++ (l.take q).filter (fun p=>decide (1 ≤ p)) = kk):=⟨_,rfl⟩
  rw [HK.out] at hQ
  have hkk:kk.length ≤ k.length + q:=by rw [← HK.out];simp;omega
  clear hfl
  by_cases hlt:q < l.length
  ·have hu2:=HU.out.only hon HO.out
   rcases hu2.open with ⟨_,h0⟩ | ⟨_,_,_,h0⟩ | ⟨bu,off,cap',he,_,_,hbu,hcells⟩
   ·simp [h0] at hlt
   ·simp [h0] at hlt
   simp only [Value.slice.injEq] at he
   obtain ⟨rfl,_,rfl⟩:=he
   have cu:=hcells q hlt
   have HF:=Lib.hid (filter1_snoc l q hlt)
   clear hcells hu2
   generalize l[q]?.getD 0 = x at *
   have c1:=hQ.1.cell 1
   have f1:=hQ.1.free 1
   have hbl:=hQ.1.lt
   simp only [List.getElem?_toArray,List.getElem?_cons_zero,List.getElem?_cons_succ] at c1
   by_cases hx:1 ≤ x
   ·rw [if_pos hx] at HF
    have HQ:=Lib.hid hQ
    have hown:=hQ.2.2.1
    have HOwn:=Lib.hid hown
    clear hQ hown
    have hlen2:kk.length + [x].length < 100000000:=by simp;omega
    have HLen:=Lib.hid hlen2
    clear hlen2
    go_wp2_with (at_builtin;refine appX Tryz.underlying22 info3 0 _ rfl _ _ rfl _ _ _ [x] rfl rfl (HOwn.out.alloc _) (Slw.new1 wr x) (Nat.zero_le _) HLen.out ?_;intro v' w1 hA;obtain ⟨g',cap'',rfl⟩:=hA.some;obtain ⟨hb1,hQ1,hO1,hG1⟩:=HQ.out.putBack hA;have d1:=hb1.cell 1;simp only [List.getElem?_toArray,List.getElem?_cons_zero,List.getElem?_cons_succ] at d1;have e1:=hb1.free 1;have HQ1:=Lib.hid hQ1;clear hQ1 hb1)
    go_roundw
    case rel=>exact ⟨q + 1,_,by omega,by go_num,by rw [HF.out,← List.append_assoc,HK.out];exact HQ1.out,hon.andThen hO1 (fun j hj hs=>(hgr j hs).elim id (fun x=>by omega)),hgr.trans hG1 hon.size⟩
    case measure=>simp [intOf];omega
   ·rw [if_neg hx,List.append_nil] at HF
    have HQ:=Lib.hid hQ
    clear hQ
    go_wp2
    go_roundw
    case rel=>exact ⟨q + 1,_,by omega,by go_num,by rw [HF.out,HK.out];exact HQ.out,hon,hgr⟩
    case measure=>simp [intOf];omega
  ·obtain rfl:q = l.length:=by omega
   rw [List.take_length] at HK
   have HQ:=Lib.hid hQ
   clear hQ
   go_wp2_with fail
   refine (len_q _ _ _ _ _ _ HQ.out (by omega)).mono ?_
   rintro e w2 ⟨rfl,n,rfl⟩
   go_wp2_with fail
   go_ret
   exact ⟨by rw [show k ++ right l = kk from HK.out];rfl,v2',by rw [show k ++ right l = kk from HK.out];exact HQ.out.drewN n,hon.drewN n,hgr⟩
open Go.RowKit Go.Esc
theorem Only.undrew {S:Nat → Prop} {w w':World} (h:Only S w.drew w'):Only S w w':=⟨h.os,h.tape,h.output,h.size,h.block⟩
theorem Q.putFront {W w1:World} {b:Nat} {v1 v2 v1':Value} {f k m:List Int} {tmp:Obj} (h:Q W b v1 v2 f k) (hA:Appd (W.alloc tmp) 0 v1 f m v1' w1) :
  Blk w1 b #[v1,v2] 203 ∧ Q (w1.setCell ⟨b,0,none⟩ v1') b v1' v2 (f ++ m) k ∧ Only (Qf b v1 v2) W (w1.setCell ⟨b,0,none⟩ v1') ∧ Gr (Qf b v1 v2) (Qf b v1' v2) W:=by
 obtain ⟨hb,h1,h2,n1,n2,n3⟩:=h
 obtain ⟨ho,hg,hx⟩:=hA
 have hlt:=hb.lt
 have hb1:Blk w1 b #[v1,v2] 203:=(hb.alloc tmp).kept hg (Ne.symm n1)
 have h22:OwnI w1 0 v2 k:=(h2.alloc tmp).kept hg (by cases hv:v2.ownBlock with | none=>exact .inl rfl | some j=>exact .inr (fun e=>n3 j e.symm hv))
 have hne:∀ j,v1'.ownBlock = some j → j ≠ b:=fun j hj e=>by
  rcases hx j hj with h' | h'
  ·exact n1 (by rw [h',e])
  ·simp at h';omega
 have hd:∀ j,v1'.ownBlock = some j → v2.ownBlock ≠ some j:=fun j hj e=>by
  rcases hx j hj with h' | h'
  ·exact n3 j h' e
  ·have:=(h2.lt j e).2
   simp at h';omega
 refine ⟨hb1,⟨hb1.set2_0,ho.kept (grown_set w1 b 0 v1') (.inr (fun e=>hne b e rfl)),h22.kept (grown_set w1 b 0 v1') (.inr n2),fun e=>hne b e rfl,n2,hd⟩,?_,?_⟩
 ·exact ((((Only.refl _ W).alloc tmp).grown hg (fun j e=>.inr (.inr (.inl e)))).set (.inr (.inl rfl)) 0 v1')
 ·rintro j (rfl | hj | hj)
  ·exact .inl (.inl rfl)
  ·rcases hx j hj with h' | h'
   ·exact .inl (.inr (.inl h'))
   ·exact .inr (by simp at h';omega)
  ·exact .inl (.inr (.inr hj))
theorem Q.cutBack {W:World} {b g m cap n:Nat} {v1:Value} {f k:List Int} (h:Q W b v1 (.slice (some ⟨g,0,none⟩) m cap) f k) (hn:n ≤ k.length) :
  Q (W.setCell ⟨b,1,none⟩ (.slice (some ⟨g,0,none⟩) n cap)) b v1 (.slice (some ⟨g,0,none⟩) n cap) f (k.take n):=by
 obtain ⟨hb,h1,h2,n1,n2,n3⟩:=h
 have h2':=h2.shrink n hn
 exact ⟨hb.set2_1,h1.kept (grown_set W b 1 _) (.inr n1),h2'.kept (grown_set W b 1 _) (.inr n2),n1,n2,n3⟩
theorem Q.cutFront {W:World} {b g m cap n:Nat} {v2:Value} {f k:List Int} (h:Q W b (.slice (some ⟨g,0,none⟩) m cap) v2 f k) (hn:n ≤ f.length) :
  Q (W.setCell ⟨b,0,none⟩ (.slice (some ⟨g,0,none⟩) n cap)) b (.slice (some ⟨g,0,none⟩) n cap) v2 (f.take n) k:=by
 obtain ⟨hb,h1,h2,n1,n2,n3⟩:=h
 have h1':=h1.shrink n hn
 exact ⟨hb.set2_0,h1'.kept (grown_set W b 0 _) (.inr n1),h2.kept (grown_set W b 0 _) (.inr n2),n1,n2,n3⟩
theorem rev_snoc (k:List Int) (j:Nat) (h:j < k.length):(k.drop j).reverse = (k.drop (j + 1)).reverse ++ [k[j]?.getD 0]:=by
 rw [List.drop_eq_getElem_cons h,List.reverse_cons];simp [h]
def TurnPost (b:Nat) (v1 v2:Value) (k:List Int) (w:World) (e:Ending) (w':World):Prop:=
 (∃ v,e = .returned v) ∧ ∃ v1' v2',Q w' b v1' v2' k.reverse [] ∧ Only (Qf b v1 v2) w w' ∧ Gr (Qf b v1 v2) (Qf b v1' v2') w
set_option maxHeartbeats 2000000 in
theorem turn_q (b:Nat) (v1 v2:Value) (k:List Int) (w:World) (h:Q w b v1 v2 [] k) (hl:k.length < 10000000) :
  Calls Tryz.prog 285 #[.pointer (some ⟨b,0,none⟩)] w (TurnPost b v1 v2 k w):=by
 have hb0:=h.1.lt
 have c0:=h.1.cell 0
 simp only [List.getElem?_toArray,List.getElem?_cons_zero] at c0
 obtain ⟨a1,p1,rfl⟩:=own_len h.2.1
 rw [show ([]:List Int).length = 0 from rfl] at *
 have HH:=Lib.hid h
 clear h
 go_enter Tryz.func285,Tryz.ntmps285
 go_wp2
 go_step3
 go_wp2
 go_step3
 go_wp2
 go_loopg [2] k.length (fun gk _ wr=>∃ (v1' v2':Value),gk ≤ k.length ∧ Q wr b v1' v2' (k.drop gk).reverse (k.take gk) ∧ Only (Qf b (.slice a1 0 p1) v2) w wr ∧ Gr (Qf b (.slice a1 0 p1) v2) (Qf b v1' v2') w)
 case atStart=>exact ⟨_,_,Nat.le_refl _,by simpa using HH.out,Only.refl _ _,Gr.refl _ _⟩
 case round=>
  obtain ⟨v1',v2',hgk,hQ,hon,hgr⟩:=hrel
  have d0:=hQ.1.cell 0
  have d1:=hQ.1.cell 1
  have f0:=hQ.1.free 0
  have f1:=hQ.1.free 1
  have hbl:=hQ.1.lt
  simp only [List.getElem?_toArray,List.getElem?_cons_zero,List.getElem?_cons_succ] at d0 d1
  cases gk with
  | zero=>
   obtain ⟨a2,p2,rfl⟩:=own_len hQ.2.2.1
   rw [show (k.take 0).length = 0 from by simp] at *
   have HQ:=Lib.hid hQ
   clear hQ c0
   go_wp2
   rw [Exit.noGoto_normal]
   go_end0
   exact ⟨⟨_,rfl⟩,_,_,by simpa using HQ.out,hon,hgr⟩
  | succ j=>
   have hjk:j < k.length:=by omega
   have HR:=Lib.hid (rev_snoc k j hjk)
   have hlk:(k.take (j + 1)).length = j + 1:=by simp;omega
   have HL:=Lib.hid hlk
   obtain ⟨ff,HFF⟩:∃ ff,Hid ((k.drop (j + 1)).reverse = ff):=⟨_,rfl⟩
   have hffl:ff.length ≤ k.length:=by rw [← HFF.out,List.length_reverse,List.length_drop];omega
   obtain ⟨kk,HKK⟩:∃ kk,Hid (k.take (j + 1) = kk):=⟨_,rfl⟩
   have HTK:Hid (kk.take j = k.take j):=by show _ = _;rw [← HKK.out,List.take_take];congr 1;omega
   have hgetj:kk[j]?.getD 0 = k[j]?.getD 0:=by rw [← HKK.out,List.getElem?_take_of_lt (by omega)]
   rw [HKK.out] at hQ hlk
   rw [HFF.out] at hQ HR
   rcases hQ.2.2.1.open with ⟨_,h0⟩ | ⟨g,cap,rfl,_,hg,hcap,hcells⟩
   ·rw [h0] at hlk;simp at hlk
   rw [hlk] at hcap hcells d1 hQ hgr
   have cx:=hcells j (by omega)
   rw [hgetj] at cx
   clear hgetj
   generalize k[j]?.getD 0 = x at *
   have HQ:=Lib.hid hQ
   have HOwn:=Lib.hid hQ.2.1
   have hlf:ff.length + [x].length < 100000000:=by simp;omega
   have HLF:=Lib.hid hlf
   have HLk:=Lib.hid hlk
   clear hQ hcells hlf HL hlk c0
   have hjj:(j:Int) < (j:Int) + 1:=by omega
   have hjd:decide ((j:Int) < 0) = false:=by simp
   go_wp2
   go_region_law (refine stepX Tryz.underlying22 info3 0 _ rfl (.tmp 21) (.tmp 29) rfl _ _ _ [x] (by simp [Act.eval]) (by simp [Act.eval]) (HOwn.out.alloc _) (Slw.new1 _ x) (Nat.zero_le _) HLF.out ?_;intro v' w1 hA;obtain ⟨g',cap',rfl⟩:=hA.some;obtain ⟨hb1,hQ1,hO1,hG1⟩:=HQ.out.drew.putFront (tmp:=.cells #[.int .i64 x] 3) hA;have q0:=hb1.cell 0;have q1:=hb1.cell 1;have qf0:=hb1.free 0;have qf1:=hb1.free 1;simp only [List.getElem?_toArray,List.getElem?_cons_zero,List.getElem?_cons_succ] at q0 q1;have HQ1:=Lib.hid hQ1;have HO1:=Lib.hid hO1;have HG1:=Lib.hid hG1;clear hQ1 hb1 hO1 hG1 hA)
   all_goals
    go_wp2
    go_roundg j
    case rel=>
     refine ⟨_,_,by omega,by rw [HR.out,← HTK.out];exact (HQ1.out.cutBack (n:=j) (by rw [HLk.out];omega)),?_,?_⟩
     ·exact (hon.andThen (Only.undrew (HO1.out.set (.inr (.inl rfl)) 1 _)) (fun j' hj' hs=>(hgr j' hs).elim id (fun x=>by omega)))
     ·intro j' hj'
      refine (hgr.trans (w':=wr) HG1.out hon.size) j' ?_
      rcases hj' with h4 | h4 | h4
      ·exact .inl h4
      ·exact .inr (.inl h4)
      ·exact .inr (.inr h4)
    case measure=>omega
open Go.RowKit Go.Esc
def TurnAny (b:Nat) (v1 v2:Value) (L:List Int) (w:World) (e:Ending) (w':World):Prop:=
 (∃ v,e = .returned v) ∧ ∃ v1' v2' f' k',Q w' b v1' v2' f' k' ∧ f'.reverse ++ k' = L ∧ f' ≠ [] ∧ Only (Qf b v1 v2) w w' ∧ Gr (Qf b v1 v2) (Qf b v1' v2') w
set_option maxHeartbeats 1000000 in
theorem turn_skip (b:Nat) (v1 v2:Value) (f k:List Int) (w:World) (h:Q w b v1 v2 f k) (hf:f ≠ []) :
  Calls Tryz.prog 285 #[.pointer (some ⟨b,0,none⟩)] w fun e w'=>(∃ v,e = .returned v) ∧ w = w':=by
 have c0:=h.1.cell 0
 simp only [List.getElem?_toArray,List.getElem?_cons_zero] at c0
 obtain ⟨a1,p1,rfl⟩:=own_len h.2.1
 have hfl:0 < f.length:=List.length_pos_iff.2 hf
 have hd:decide ((0:Int) < (f.length:Int)) = true:=by rw [decide_eq_true_eq];omega
 clear h hf
 go_enter Tryz.func285,Tryz.ntmps285
 go_wp2
 go_step3
 go_wp2
 try rw [Exit.noGoto_ret]
 refine bodyPost_ret (results_none rfl _ _ _) rfl ?_
 exact ⟨⟨_,rfl⟩,rfl⟩
theorem turn_any (b:Nat) (v1 v2:Value) (f k:List Int) (w:World) (h:Q w b v1 v2 f k) (hl:k.length < 10000000) (hne:f.reverse ++ k ≠ []) :
  Calls Tryz.prog 285 #[.pointer (some ⟨b,0,none⟩)] w (TurnAny b v1 v2 (f.reverse ++ k) w):=by
 by_cases hf:f = []
 ·subst hf
  refine (turn_q b v1 v2 k w h hl).mono ?_
  rintro e w' ⟨he,v1',v2',hQ,hO,hG⟩
  exact ⟨he,v1',v2',_,_,hQ,by simp,by simpa using hne,hO,hG⟩
 ·refine (turn_skip b v1 v2 f k w h hf).mono ?_
  rintro e w' ⟨he,rfl⟩
  exact ⟨he,v1,v2,f,k,h,rfl,hf,Only.refl _ _,Gr.refl _ _⟩
def GetPost (b:Nat) (S:Nat → Prop) (L:List Int) (w:World) (e:Ending) (w':World):Prop:=
 e = .returned (.tuple #[.int .i64 (L.headD 0),.bool (!L.isEmpty)]) ∧ ∃ S',Queue w' b S' L.tail ∧ Only S w w' ∧ Gr S S' w
theorem snoc_of {f:List Int} (h:f ≠ []):∃ p x,f = p ++ [x] ∧ f.length = p.length + 1:=by
 rcases List.eq_nil_or_concat f with h' | ⟨p,x,rfl⟩
 ·exact absurd h' h
 ·exact ⟨p,x,by simp,by simp⟩
set_option maxHeartbeats 2000000 in
theorem get_any (b:Nat) (S:Nat → Prop) (L:List Int) (w:World) (h:Queue w b S L) (hl:L.length < 10000000):Calls Tryz.prog 240 #[.pointer (some ⟨b,0,none⟩)] w (GetPost b S L w):=by
 by_cases hL:L = []
 ·subst hL
  have HLen:=Lib.hid (len_any b S [] w h (by simp))
  have HQ:=Lib.hid h
  clear h
  go_enter Tryz.func240,Tryz.ntmps240
  go_wp2_with fail
  refine HLen.out.mono ?_
  rintro e w1 ⟨rfl,n,rfl⟩
  go_wp2_with fail
  go_ret2
  exact ⟨rfl,S,HQ.out.drewN n,(Only.refl _ _).drewN n,Gr.refl _ _⟩
 ·have HLen:=Lib.hid (len_any b S L w h (by omega))
  have hlp:0 < L.length:=List.length_pos_iff.2 hL
  have hlb:((L.length:Int) == 0) = false:=by rw [beq_eq_false_iff_ne];omega
  obtain ⟨v1,v2,f,k,hQ,rfl,rfl⟩:=h
  have hkl:k.length < 10000000:=by simp at hl;omega
  have HT:=Lib.hid (fun n=>turn_any b v1 v2 f k _ (hQ.drewN n) hkl hL)
  generalize hLL:f.reverse ++ k = L at *
  have HLL:=Lib.hid hLL
  clear hLL hQ
  go_enter Tryz.func240,Tryz.ntmps240
  go_wp2_with fail
  refine HLen.out.mono ?_
  rintro e w1 ⟨rfl,n,rfl⟩
  go_wp2_with fail
  refine (HT.out n).mono ?_
  rintro e w2 ⟨⟨v,rfl⟩,v1',v2',f',k',hQ2,hfk,hf2,hO2,hG2⟩
  obtain ⟨p,x,hfp,hfl⟩:=snoc_of hf2
  have d0:=hQ2.1.cell 0
  have f0:=hQ2.1.free 0
  have hbl:=hQ2.1.lt
  simp only [List.getElem?_toArray,List.getElem?_cons_zero] at d0
  rcases hQ2.2.1.open with ⟨_,h0⟩ | ⟨g,cap,rfl,_,hg,hcap,hcells⟩
  ·exact absurd h0 hf2
  rw [hfl] at d0 hcap hcells hQ2
  have cx:=hcells p.length (by omega)
  rw [hfp] at cx
  rw [List.getElem?_append_right (Nat.le_refl _)] at cx
  simp only [Nat.sub_self,List.getElem?_cons_zero,Option.getD_some] at cx
  have hfl2:p.length ≤ f'.length:=by omega
  have HQc:=Lib.hid (hQ2.cutFront (n:=p.length) hfl2)
  have hpt:f'.take p.length = p:=by rw [hfp];simp
  rw [hpt] at HQc
  have HL:Hid (L = x :: (p.reverse ++ k')):=by show _ = _;rw [← hfk,hfp];simp
  have hO2':Only (Qf b v1 v2) w w2:=⟨hO2.os,hO2.tape,hO2.output,hO2.size,hO2.block⟩
  have HO:=Lib.hid (hO2'.set (.inr (.inl rfl)) 0 (.slice (some ⟨g,0,none⟩) p.length cap))
  have HG:=Lib.hid hG2
  have hpl2:(p.length:Int) < (p.length:Int) + 1:=by omega
  have hpb:p.length < 10000000:=by have h4:=congrArg List.length HL.out;simp at h4;omega
  clear hcells hQ2 hfk hf2 hO2 hG2 hfl hfl2 hpt hfp hO2'
  go_wp2_with fail
  go_ret2
  refine ⟨by rw [HL.out];rfl,Qf b (.slice (some ⟨g,0,none⟩) p.length cap) v2',⟨_,_,p,k',HQc.out,by rw [HL.out];rfl,rfl⟩,HO.out,?_⟩
  intro j hj
  refine (HG.out j ?_).elim .inl (fun h=>.inr h)
  rcases hj with h4 | h4 | h4
  ·exact .inl h4
  ·exact .inr (.inl h4)
  ·exact .inr (.inr h4)
def BatchPost (b:Nat) (S:Nat → Prop) (L:List Int) (n:Nat) (w:World) (e:Ending) (w':World):Prop:=
 ∃ v S',e = .returned v ∧ OwnI w' w.heap.size v (L.take n) ∧ Queue w' b S' (L.drop n) ∧ Only S w w' ∧ Gr S S' w ∧ Off S' v
theorem take_head (L:List Int) (i:Nat) (h:i < L.length):L.take (i + 1) = L.take i ++ [(L.drop i).headD 0]:=by
 rw [List.drop_eq_getElem_cons h,List.take_succ_eq_append_getElem h];rfl
theorem Off.app {S S2:Nat → Prop} {wr w2 w3:World} {base:Nat} {v v':Value} {l m M:List Int} {b:Nat} {o:Obj} (hOff:Off S v) (hown:OwnI wr base v l) (hg:Gr S S2 wr) (hA:Appd (w2.alloc o) base v l m v' w3) (hQ:Queue w2 b S2 M):Off S2 v':=by
 intro j hj hs
 rcases hA.2.2 j hj with h | h
 ·exact Off.gr hOff hg (fun j hj=>(hown.lt j hj).2) j h hs
 ·have:=hQ.lt hs
  simp at h;omega
theorem Queue.app {S S2:Nat → Prop} {wr w2 w3:World} {base:Nat} {v v':Value} {l m M:List Int} {b:Nat} {o:Obj} (hOff:Off S v) (hown:OwnI wr base v l) (hg:Gr S S2 wr) (hA:Appd (w2.alloc o) base v l m v' w3) (hQ:Queue w2 b S2 M):Queue w3 b S2 M:=by
 refine hQ.only (T:=fun j=>v.ownBlock = some j) (((Only.refl _ w2).alloc o).grown hA.2.1 (fun k hk=>.inr hk)) ?_
 intro j hs hj
 exact Off.gr hOff hg (fun j hj=>(hown.lt j hj).2) j hj hs
set_option maxHeartbeats 2000000 in
theorem batch_any (b:Nat) (S:Nat → Prop) (L:List Int) (p m:Int) (w:World) (h:Queue w b S L) (hl:L.length < 10000000):Calls Tryz.prog 242 #[.pointer (some ⟨b,0,none⟩),.int .i64 p,.int .i64 m] w (BatchPost b S L (manyZ L.length p m).toNat w):=by
 have HLen:=Lib.hid (len_any b S L w h (by omega))
 have hm:=many_le L.length p m (by omega)
 obtain ⟨n,HN⟩:=Int.eq_ofNat_of_zero_le hm.1
 have HMany:=Lib.hid (fun w=>many_any L.length p m w (by omega))
 rw [HN] at HMany hm ⊢
 clear HN
 simp only [Int.toNat_natCast]
 have hn:n ≤ L.length:=by omega
 have HQ:=Lib.hid h
 clear h
 go_enter Tryz.func242,Tryz.ntmps242
 go_wp2_with fail
 refine HLen.out.mono ?_
 rintro e w1 ⟨rfl,d,rfl⟩
 go_wp2_with fail
 refine (HMany.out _).mono ?_
 rintro e w1 ⟨rfl,rfl⟩
 go_wp2_with fail
 go_loopw [6,17] (fun v i wr=>∃ (q:Nat) (S':Nat → Prop),q ≤ n ∧ i = .int .i64 q ∧ OwnI wr w.heap.size v (L.take q) ∧ Queue wr b S' (L.drop q) ∧ Only S w wr ∧ Gr S S' w ∧ Off S' v) (fun _ i _=>n - (intOf i).toNat)
 case atStart=>exact ⟨0,S,Nat.zero_le _,rfl,by simpa using OwnI.nil _ _,by simpa using HQ.out.drewN d,(Only.refl _ _).drewN d,Gr.refl _ _,Off.nil _⟩
 case round=>
  obtain ⟨q,S',hq,rfl,hown,hQ,hO,hG,hOff⟩:=hrel
  by_cases hlt:q < n
  ·have hql:q < L.length:=by omega
   have HT:=Lib.hid (take_head L q hql)
   have HD:Hid ((L.drop q).tail = L.drop (q + 1)):=by show _ = _;rw [List.tail_drop]
   have hdl:(L.drop q).length < 10000000:=by rw [List.length_drop];omega
   have HGet:=Lib.hid (get_any b S' (L.drop q) wr hQ hdl)
   have hcl:(L.take q).length ≤ q:=List.length_take_le _ _
   have HOwn:=Lib.hid hown
   have HOff:=Lib.hid hOff
   have hlen2:(L.take q).length + [(L.drop q).headD 0].length < 100000000:=by simp;omega
   have HLn:=Lib.hid hlen2
   have hE:(L.drop q).isEmpty = false:=by rw [List.drop_eq_getElem_cons hql];rfl
   unfold GetPost at HGet
   rw [hE] at HGet
   generalize (L.drop q).headD 0 = x at *
   have hwr:=hO.size
   clear hQ hlen2 hown hOff hcl hdl hE
   go_wp2_with fail
   refine HGet.out.mono ?_
   rintro e w2 ⟨rfl,S2,hQ2,hO2,hG2⟩
   rw [HD.out] at hQ2
   have HQ2:=Lib.hid hQ2
   clear hQ2
   go_wp2_with (at_builtin;refine appX Tryz.underlying22 info3 w.heap.size _ rfl _ _ rfl _ _ _ [x] rfl rfl ((HOwn.out.off hO2 HOff.out).alloc _) (Slw.new1 w2 x) (by have:=hO2.size;simp;omega) HLn.out ?_;intro v' w3 hA)
   go_roundw
   case rel=>exact ⟨q + 1,S2,by omega,by go_num,by rw [HT.out];exact hA.1,Queue.app HOff.out HOwn.out hG2 hA HQ2.out,((hO.andThen hO2 (fun j hj hs=>(hG j hs).elim id (fun x=>by omega))).alloc _).grown hA.2.1 (fun j hj=>.inl (HOwn.out.lt j hj).1),hG.trans hG2 hO.size,Off.app HOff.out HOwn.out hG2 hA HQ2.out⟩
   case measure=>simp [intOf];omega
  ·obtain rfl:q = n:=by omega
   go_wp2
   go_ret
   exact ⟨_,S',rfl,hown,hQ,hO,hG,hOff⟩
open Go.RowKit Go.Esc
def PutP (b:Nat) (S:Nat → Prop) (L:List Int) (w:World) (e:Ending) (w':World):Prop:=
 e = .returned (.int .i64 L.length) ∧ ∃ S',Queue w' b S' L ∧ Only S w w' ∧ Gr S S' w
theorem put_any (b:Nat) (S:Nat → Prop) (L:List Int) (u:Value) (l:List Int) (w:World) (h:Queue w b S L) (hu:Slw w u l) (ho:Off S u) (hl:L.length + l.length < 100000000) :
  Calls Tryz.prog 243 #[.pointer (some ⟨b,0,none⟩),u] w (PutP b S (L ++ right l) w):=by
 obtain ⟨v1,v2,f,k,h,rfl,rfl⟩:=h
 refine (put_q b v1 v2 f k u l w h hu ho (by simp at hl;omega)).mono ?_
 rintro e w' ⟨rfl,v2',hQ,hO,hG⟩
 exact ⟨by simp,_,⟨v1,v2',f,_,hQ,by simp,rfl⟩,hO,hG⟩
open Go.RowKit Go.Shelf Go.Esc
attribute [local go_sem] Oper.semAt_some
set_option maxRecDepth 100000 in
set_option maxHeartbeats 1000000 in
theorem backward_in (F:Fence) (n:Nat) (h56:F.fn 126) (hro:F.round = none) (a:Option Addr) (k c:Nat) (w:World) :
  CallsIn F n Tryz.prog 126 #[.slice a k c] w fun e w'=>e = .returned (.func (.func 198) #[] #[.pointer (some ⟨w.heap.size,0,none⟩)]) ∧ w' = w.alloc (.cells #[.slice a k c] 22):=by
 refine callsIn_of_wp Tryz.func126 rfl h56 ?_ hro
 simp only [Tryz.ntmps126,List.size_toArray,List.length_cons,List.length_nil,Nat.reduceAdd,Nat.reduceSub,Array.replicate_succ,Array.replicate_zero,List.push_toArray,List.append_toArray,List.nil_append,List.cons_append]
 gi_wp2
 go_ret
 exact ⟨rfl,rfl⟩
theorem slw_cells {W W':World} {u:Value} {l:List Int} (h:Slw W u l) (hs:W.heap.size ≤ W'.heap.size) (hc:∀ ad v,W.cell? ad = some v → W'.cell? ad = some v):Slw W' u l:=by
 obtain ⟨a,cap,hv,hn,hm,h | ⟨b,off,ha,hb,hcs⟩⟩:=h
 ·exact ⟨a,cap,hv,hn,hm,.inl h⟩
 ·exact ⟨a,cap,hv,hn,hm,.inr ⟨b,off,ha,Nat.lt_of_lt_of_le hb hs,fun i hi=>hc _ _ (hcs i hi)⟩⟩
def KeepsU (B:Nat) (u:Value) (W W':World):Prop:=(∀ v,W.cell? ⟨B,0,none⟩ = some v → W'.cell? ⟨B,0,none⟩ = some v) ∧ ∀ l,Slw W u l → Slw W' u l
theorem keepsU_t {B:Nat} {u:Value} {A C D:World} (h:KeepsU B u A C) (k:KeepsU B u C D):KeepsU B u A D:=⟨fun v hv=>k.1 v (h.1 v hv),fun l hl=>k.2 l (h.2 l hl)⟩
theorem keepsU_b {B:Nat} {u:Value} {w:World} (W:World) (l:Nat) (o o':Obj) (_:w.heap.size ≤ l) (h:W.heap[l]? = some o) (hc:o.isCells = false) (_:o.isWalk = false):KeepsU B u W (W.putObj l o'):=
 ⟨fun _ hv=>cell_kept hv (grownBy_putObj' W l o') (fun r e=>by cases e;exact ⟨o,h,hc⟩),fun _ hl=>slw_cells hl (grownBy_putObj' W l o').size (fun _ _ hv=>cell_kept hv (grownBy_putObj' W l o') (fun r e=>by cases e;exact ⟨o,h,hc⟩))⟩
def backL (l:List Int) (k:Nat):List (Int × Int):=(List.range k).map fun (i:Nat)=>((l.length:Int) - 1 - (i:Int),l[l.length - 1 - i]?.getD 0)
theorem backL_snoc (l:List Int) (k:Nat):backL l (k + 1) = backL l k ++ [((l.length:Int) - 1 - k,l[l.length - 1 - k]?.getD 0)]:=by
 unfold backL;rw [List.range_succ,List.map_append];rfl
theorem backL_len (l:List Int) (k:Nat):(backL l k).length = k:=by simp [backL]
theorem backL_pre (l:List Int) {k m:Nat} (h:k ≤ m):backL l k <+: backL l m:=by
 unfold backL
 refine List.IsPrefix.map _ ⟨(List.range (m - k)).map (k + ·),?_⟩
 rw [← List.range_add];congr 1;omega
theorem backL_snd (l:List Int):(backL l l.length).map Prod.snd = l.reverse:=by
 apply List.ext_getElem
 ·simp [backL]
 ·intro i h1 h2
  simp [backL] at h1
  simp only [backL,List.map_map,List.getElem_map,List.getElem_range,Function.comp,List.getElem_reverse]
  rw [List.getElem?_eq_getElem (by omega)]
  rfl
set_option maxRecDepth 100000 in
set_option maxHeartbeats 1000000 in
theorem back_stops (F:Fence) (n:Nat) (h81:F.fn 198) (hro:F.round = none) (hn:2 ≤ n) (B:Nat) (u:Value) (l:List Int) (w:World) (hB:B < w.heap.size) (hc:w.cell? ⟨B,0,none⟩ = some u) (hu:Slw w u l) (hl:l.length < 100000000) :
  SeqStopsK F n Tryz.prog 198 #[.pointer (some ⟨B,0,none⟩)] (fun x:Int × Int=>#[Value.int .i64 x.1,Value.int .i64 x.2]) (KeepsU B u) (fun ys=>ys = backL l l.length) (fun pre=>pre <+: backL l l.length) l.length w:=by
 intro q J Jx W hW _ _ hY h0
 have d1:=(hW.cell (p:=⟨B,0,none⟩) hB).trans hc
 have HU:=Lib.hid (hu.below hW)
 obtain ⟨a,cap,rfl⟩:=hu.len
 clear hu hW hc
 refine callsIn_of_wp Tryz.func198 rfl h81 ?_ hro
 simp only [Tryz.ntmps198,List.size_toArray,List.length_cons,List.length_nil,Nat.reduceAdd,Nat.reduceSub,Array.replicate_succ,Array.replicate_zero,List.push_toArray,List.append_toArray,List.nil_append,List.cons_append]
 have h1n:1 ≤ n:=by omega
 have h2n:1 ≤ n - 1:=by omega
 have HY:=Lib.hid hY
 clear hY
 gi_wp2
 gi_loopw [3] (fun i wr=>∃ k:Nat,k ≤ l.length ∧ i = .int .i64 ((l.length:Int) - 1 - k) ∧ wr.cell? ⟨B,0,none⟩ = some (.slice a l.length cap) ∧ Slw wr (.slice a l.length cap) l ∧ J (backL l k) wr)
  (fun i _=>(intOf i + 1).toNat)
 case atStart=>exact ⟨0,Nat.zero_le _,by go_num,d1,HU.out,h0⟩
 case round=>
  obtain ⟨k,hk,rfl,hcB,hU,hJ⟩:=hrel
  by_cases hlt:k < l.length
  ·rcases hU.open with ⟨_,h0⟩ | ⟨_,_,_,h0⟩ | ⟨bu,off,cap',he,_,_,hbu,hcells⟩
   ·simp [h0] at hlt
   ·simp [h0] at hlt
   simp only [Value.slice.injEq] at he
   obtain ⟨rfl,_,rfl⟩:=he
   have cu:=hcells (l.length - 1 - k) (by omega)
   have HS:=Lib.hid (backL_snoc l k)
   generalize l[l.length - 1 - k]?.getD 0 = x at *
   obtain ⟨fn,tmps,assign,body,hy,hR⟩:=HY.out _ ((l.length:Int) - 1 - k,x) wr hJ (by rw [backL_len];exact hlt)
   have HU2:=Lib.hid hU
   obtain ⟨p,hp⟩:∃ p:Nat,l.length - 1 - k = p:=⟨_,rfl⟩
   have hpz:(l.length:Int) - 1 - k = p:=by omega
   rw [hp] at cu
   rw [hpz] at hR hy HS ⊢
   have hpl:(p:Int) < (l.length:Int):=by omega
   clear hcells hU
   gi_wp2
   refine hR.mono ?_
   rintro e W3 (⟨rfl,hJ3,hk3⟩ | ⟨rfl,hJx3⟩)
   ·have hcB3:=hk3.1 _ hcB
    have HU3:=Lib.hid (hk3.2 _ HU2.out)
    gi_wp2
    go_roundw
    case rel=>exact ⟨k + 1,by omega,by go_num,hcB3,HU3.out,by rw [HS.out];exact hJ3⟩
    case measure=>simp [intOf]
   ·gi_wp2
    refine bodyPost_ret (results_none rfl _ _ _) rfl ?_
    exact ⟨⟨_,rfl⟩,.inr ⟨_,by rw [← HS.out];exact backL_pre l (by omega),hJx3⟩⟩
  ·obtain rfl:k = l.length:=by omega
   gi_wp2
   go_end0
   exact ⟨⟨_,rfl⟩,.inl ⟨_,rfl,hJ⟩⟩
open Go.RowKit Go.Shelf Go.Esc
attribute [local go_sem] Oper.semAt_some
theorem wp_normal {P:Program} {c:Code} {K:Act → World → Prop} {Q:Exit → Act → World → Prop} {a:Act} {w:World} (h:c.wp P (Exit.then K (fun _ _ _=>False)) a w):c.wp P (Exit.then K Q) a w:=
 Code.wp_mono (fun e a w h=>by cases e <;> first | exact h | exact h.elim) h
def ListPost (L:List Int) (w:World) (e:Ending) (w':World):Prop:=∃ v,e = .returned v ∧ OwnI w' w.heap.size v L ∧ Below w.heap.size w w'
theorem owns_mono {w:World} {base base':Nat} {e:TypeId} {size:Nat} {v:Value} {n:Nat} {xs:List Value} (h:w.ownsRow base e size v n xs) (hb:base' ≤ base):w.ownsRow base' e size v n xs:=by
 obtain ⟨h1,h2 | ⟨g,cap,cur,hv,hg,hh,r⟩⟩:=h
 ·exact ⟨h1,.inl h2⟩
 ·exact ⟨h1,.inr ⟨g,cap,cur,hv,Nat.le_trans hb hg,hh,r⟩⟩
theorem appended2 {W w1:World} {n₀ R B:Nat} {t e:TypeId} {size:Nat} {v v':Value} {k m:Nat} {xs ys:List Value} {tmp:Obj}
  (hv:Boxed W B t v) (hte:t ≠ e) (hrow:W.ownsRow R e size v k xs) (hn₀:n₀ ≤ W.heap.size) (hB:n₀ ≤ B) (hR:n₀ ≤ R)
  (hown':w1.ownsRow R e size v' m ys) (hgrow:(W.alloc tmp).grownBy w1 v.ownBlock) :
  Boxed w1 B t v ∧ Boxed (w1.setCell ⟨B,0,none⟩ v') B t v' ∧ (w1.setCell ⟨B,0,none⟩ v').ownsRow R e size v' m ys ∧ KeepsOthers W (w1.setCell ⟨B,0,none⟩ v') ∧ Below n₀ W (w1.setCell ⟨B,0,none⟩ v') ∧
   ∀ b,b < R → b ≠ B → b < W.heap.size → (w1.setCell ⟨B,0,none⟩ v').heap[b]? = W.heap[b]?:=by
 obtain ⟨h1,h2,_,h4,h5⟩:=hv.appended hte (owns_mono hrow hR) hn₀ hB (owns_mono hown' hR) hgrow
 refine ⟨h1,h2,hown'.kept (grownBy_setCell' w1 B v') (.inr (h1.not_row hte hown').symm),h4,h5,fun b hb hne hlt=>?_⟩
 rw [Below.heap_setCell _ _ _ b hne,hgrow.block b (by simp;omega) ?_,Below.heap_alloc _ _ _ hlt]
 intro e
 have:=(hrow.lt b e.symm).1
 omega
theorem keepsU_of {c B R:Nat} {W W':World} {u:Value} (h:∀ k,k < R → k ≠ B → k < W.heap.size → W'.heap[k]? = W.heap[k]?) (hs:W.heap.size ≤ W'.heap.size) (hc:c ≠ B) (hcR:c < R) (hu:∀ j,u.ownBlock = some j → j < R ∧ j ≠ B):KeepsU c u W W':=by
 refine ⟨fun _ hv=>(World.cell?_of_block (h c hcR hc (lt_of_cell hv))).trans hv,fun l hl=>?_⟩
 obtain ⟨a,cap,rfl,hn,hm,h' | ⟨b,off,rfl,hb,hcs⟩⟩:=hl
 ·exact ⟨a,cap,rfl,hn,hm,.inl h'⟩
 ·have:=hu b rfl
  exact ⟨_,cap,rfl,hn,hm,.inr ⟨b,off,rfl,Nat.lt_of_lt_of_le hb hs,fun i hi=>(World.cell?_of_block (h b this.1 this.2 hb)).trans (hcs i hi)⟩⟩
theorem list_end {w W w3:World} {v v':Value} {l k:List Int} {E:Nat} (hB:Below w.heap.size w W) (hS:w.heap.size + 2 ≤ W.heap.size) (hA:Appd W.drew w.heap.size v l k v' w3) (hv:Blk W w.heap.size #[v] 22)
  (hE:w.heap.size + 2 ≤ E) (hK:W.heap[E]? = some (.deferred (some []))) (hown:OwnI W w.heap.size v l) (hne:some w.heap.size ≠ v.ownBlock) (hne2:some E ≠ v.ownBlock) :
  (w3.setCell ⟨w.heap.size,0,none⟩ v').heap[E]? = some (.deferred (some [])) ∧ ((w3.setCell ⟨w.heap.size,0,none⟩ v').putObj E (.deferred none)).cell? ⟨w.heap.size,0,none⟩ = some v' ∧
   OwnI ((w3.setCell ⟨w.heap.size,0,none⟩ v').putObj E (.deferred none)) w.heap.size v' (l ++ k) ∧ Below w.heap.size w ((w3.setCell ⟨w.heap.size,0,none⟩ v').putObj E (.deferred none)):=by
 obtain ⟨ho,hg,hx⟩:=hA
 have hEl:E < W.heap.size:=(Array.getElem?_eq_some_iff.1 hK).1
 have hK3:w3.heap[E]? = some (.deferred (some [])):=(hg.block E hEl hne2).trans hK
 have hK4:(w3.setCell ⟨w.heap.size,0,none⟩ v').heap[E]? = some (.deferred (some [])):=(Below.heap_setCell w3 ⟨w.heap.size,0,none⟩ v' E (fun (e:E = w.heap.size)=>by omega)).trans hK3
 have hb3:Blk w3 w.heap.size #[v] 22:=hv.drew.kept hg hne
 have hb4:Blk (w3.setCell ⟨w.heap.size,0,none⟩ v') w.heap.size #[v'] 22:=hb3.set 0 v'
 have hn':v'.ownBlock ≠ some w.heap.size:=fun e=>by
  rcases hx _ e with h | h
  ·exact hne h.symm
  ·have h':W.heap.size ≤ w.heap.size:=h
   omega
 refine ⟨hK4,?_,?_,?_⟩
 ·have hb5:=hb4.kept (grownBy_putObj' _ E (.deferred none)) (by simp;omega)
  exact hb5.cell 0
 ·have h4:OwnI (w3.setCell ⟨w.heap.size,0,none⟩ v') w.heap.size v' (l ++ k):=ho.kept (grown_set w3 w.heap.size 0 v') (.inr hn')
  exact ownsRow_putObj h4 _ hK4 rfl
 ·have h3:Below w.heap.size w w3:=below_grown hB ((grown_drew W _).trans hg) (fun j hj=>(hown.lt j hj).1)
  exact (below_set h3 (Nat.le_refl _) 0 v').trans (belowK_b (w:=w) (Nat.le_refl _) _ E _ _ (by omega) hK4 rfl rfl)
set_option maxRecDepth 100000 in
set_option maxHeartbeats 2000000 in
theorem list_q (b:Nat) (v1 v2:Value) (f k:List Int) (w:World) (h:Q w b v1 v2 f k) (hl:f.length + k.length < 10000000):Calls Tryz.prog 61 #[.pointer (some ⟨b,0,none⟩)] w (ListPost (f.reverse ++ k) w):=by
 have HQ:=Lib.hid h
 have c0:=h.1.cell 0
 simp only [List.getElem?_toArray,List.getElem?_cons_zero] at c0
 obtain ⟨a1,p1,rfl⟩:=own_len h.2.1
 have hbl:=h.1.lt
 clear h
 refine (callsIn_wide (n:=4)).1 ?_
 refine callsIn_of_wp_marks Tryz.func61 rfl trivial ?_ rfl
 simp only [Tryz.ntmps61,List.size_toArray,List.length_cons,List.length_nil,Nat.reduceAdd,Nat.reduceSub,Array.replicate_succ,Array.replicate_zero,List.push_toArray,List.append_toArray,List.nil_append,List.cons_append]
 gi_wp2_with fail
 refine ⟨trivial,(backward_in Fence.wide 3 trivial rfl _ _ _ _).mono ?_⟩
 rintro e w' ⟨rfl,rfl⟩
 gi_wp2_with fail
 obtain ⟨i0,hi,hz0,hz1,hz2⟩:=info_parts info3
 have bO:=Boxed.new w 22 (.slice none 0 0)
 have b1:=Boxed.new (w.alloc (.cells #[.slice none 0 0] 22)) 22 (.slice a1 f.length p1)
 simp only [World.size_alloc] at b1
 have hB0:Below w.heap.size w ((w.alloc (.cells #[.slice none 0 0] 22)).alloc (.cells #[.slice a1 f.length p1] 22)):=below_alloc (below_alloc (Below.refl _ _) _) _
 have hu:∀ j,(Value.slice a1 f.length p1).ownBlock = some j → j < w.heap.size:=fun j hj=>(HQ.out.2.1.lt j hj).2
 have hsu:Slw ((w.alloc (.cells #[.slice none 0 0] 22)).alloc (.cells #[.slice a1 f.length p1] 22)) (.slice a1 f.length p1) f:=((Slw.ofOwn HQ.out.2.1).alloc _).alloc _
 refine wpIn_rangeFunc_ownG rfl (by decide) (gf:=198) (lb:=#[.pointer (some ⟨w.heap.size + 1,0,none⟩)]) rfl trivial (enters_of Tryz.func198 (by kernel_rfl) rfl)
  (back_stops Fence.wide (4 - 1) trivial rfl (by decide) (w.heap.size + 1) (.slice a1 f.length p1) f _ (by simp <;> omega) b1.cell hsu (by omega)) keepsU_t keepsU_b (Below.refl _ _) (fun _=>rfl)
  (fun (pre:List (Int × Int)) W=>(∃ v,Boxed W w.heap.size 22 v ∧ W.ownsRow (w.heap.size + 2) 3 1 v pre.length ((pre.map Prod.snd).map (Value.int .i64)) ∧ True) ∧ Below w.heap.size w W ∧ w.heap.size + 2 ≤ W.heap.size)
  (fun _ _ _=>False)
  (OwnFrom.and (Own.from (holdsRow_own (w.heap.size + 2) w.heap.size 22 3 1 (fun pre:List (Int × Int)=>pre.length) (fun pre=>(pre.map Prod.snd).map (Value.int .i64)) (fun _ _=>True)) _) (OwnFrom.and (ownFrom_below (Nat.le_refl _) (by simp <;> omega)) (fun _ _ _ _ hs hg _=>Nat.le_trans hs hg.size)))
  (fun _ _ _ _ _ hs _ _=>hs)
  ⟨⟨_,bO.alloc _,World.ownsRow_nil _ _ _ _,trivial⟩,hB0,by simp <;> omega⟩
  (fun x=>{ tmps:=#[.pointer (some ⟨b,0,none⟩),undef,.pointer (some ⟨w.heap.size,0,none⟩),undef,.int .i64 x.2,.pointer (some ⟨b,0,none⟩),.bool false,.pointer (some ⟨b,0,none⟩),.pointer (some ⟨b,0,none⟩),.pointer (some ⟨b,0,none⟩),.slice a1 f.length p1,.func (.func 198) #[] #[.pointer (some ⟨w.heap.size + 1,0,none⟩)],.int .i64 x.1,.int .i64 x.2,undef,undef,undef,undef,undef,undef,undef,undef,undef,undef],defers:=[] }) ?assign ?body ?done ?stop
 case assign=>
  intro l x W K hK
  gi_wp2
  exact hK
 case body=>
  rintro l pre x W ⟨⟨v,hv,hrow,_⟩,hB,hS⟩ hpl
  have hc:=hv.cell
  gi_wp2_with (gi_at_builtin;refine wpListIn_append_own _ rfl _ _ 22 rfl (w.heap.size + 2) 3 i0 (.int .i64 0) 1 8 Tryz.underlying22 hi hz0 hz1 hz2 rfl (by decide) _ _ _ rfl (hrow.alloc _) ⟨W.heap.size,0,none⟩ 1 1 [.int .i64 x.2] rfl rfl (cell_one_new _ _ _) (by simp [Value.oneCell']) (by unfold maxLen;omega) (by omega) (by simp;omega) ?_;intro v' w3 hown' hgrow _;obtain ⟨g',cap',rfl⟩:=ownsRow_succ hown';obtain ⟨hv1,hv2,hr2,hk2,hb2,ho2⟩:=appended2 (n₀:=w.heap.size) hv (by decide) hrow hB.size (Nat.le_refl _) (by omega) hown' hgrow;have hc1:=hv1.cell;have hf1:=hv1.frozen)
  exact ⟨hk2.from _,keepsU_of ho2 hb2.size (by omega) (by omega) (fun j hj=>by have:=hu j hj;omega),⟨_,hv2,by simpa using hr2,trivial⟩,hB.trans hb2,Nat.le_trans hS hb2.size⟩
 case done=>
  rintro E ys W hE rfl ⟨⟨v,hv,hrow,_⟩,hB,hS⟩ hK
  have hc:=hv.cell
  have hcf:=hv.frozen
  have hQW:=HQ.out.below hB
  have c1:=hQW.1.cell 1
  simp only [List.getElem?_toArray,List.getElem?_cons_zero,List.getElem?_cons_succ] at c1
  have hown:OwnI W w.heap.size v f.reverse:=by
   have h':=owns_mono hrow (show w.heap.size ≤ w.heap.size + 2 by omega)
   rw [backL_snd,backL_len] at h'
   unfold OwnI
   rwa [List.length_reverse]
  have hu2:=Slw.ofOwn hQW.2.2.1
  have hlen:f.reverse.length + k.length < 100000000:=by rw [List.length_reverse];omega
  have HU2:=Lib.hid hu2
  have HOwn:=Lib.hid hown
  have HLen:=Lib.hid hlen
  have hWs:=hB.size
  have HB:=Lib.hid hB
  have HV:=Lib.hid hv
  have HNE:Hid (some w.heap.size ≠ v.ownBlock):=fun e=>by have:=(hrow.lt _ e.symm).1;omega
  have HLL:Hid ((f.reverse ++ k).length = f.length + k.length):=by show _ = _;simp
  have HNE2:Hid (some E ≠ v.ownBlock):=fun e=>by
   obtain ⟨h1,⟨h2,_⟩ | ⟨g,cap,cur,hv,hg,hh,r⟩⟩:=hrow
   ·rw [h2] at e;cases e
   ·rw [hv] at e;simp only [Value.ownBlock,Option.some.injEq] at e;rw [← e,hK] at hh;cases hh
  have HBK:Hid (Blk W w.heap.size #[v] 22):=hv
  have HQW:=Lib.hid hQW
  clear hQW hown hu2 hlen hv hrow c0 bO b1 hB0 hu hsu hi hz0 hz1 hz2
  gi_wp2_with fail
  refine wpIn_wide.2 ?_
  refine wp_normal ?_
  go_region_law (refine stepX Tryz.underlying22 info3 w.heap.size _ rfl (.tmp 18) (.tmp 22) rfl _ _ _ k (by simp [Act.eval]) (by simp [Act.eval]) HOwn.out HU2.out (by simp;omega) HLen.out ?_;intro v' w3 hA;obtain ⟨a',cap',rfl⟩:=own_len hA.1;have hb3:=HBK.out.drew.kept hA.2.1 HNE.out;have q0:=hb3.cell 0;have qf:=hb3.free 0;simp only [List.getElem?_toArray,List.getElem?_cons_zero] at q0;have HA:=Lib.hid hA;clear hA)
  all_goals
   gi_wp2
   obtain ⟨z1,z2,z3,z4⟩:=list_end hB hS HA.out HBK.out (show w.heap.size + 2 ≤ E by simpa using hE) hK HOwn.out HNE.out HNE2.out
   rw [HLL.out] at z1 z2 z3 z4
   refine ⟨by simp,.inl ⟨_,_,rfl,run_takeDeferred z1,?_⟩⟩
   exact ⟨_,by simp [results,Tryz.results61,go_sem,z2],_,rfl,z3,z4⟩
 case stop=>
  rintro E c pre W _ _ h _
  exact h.elim
open Go.RowKit Go.Esc
def PutOne (b:Nat) (S:Nat → Prop) (L:List Int) (w:World) (e:Ending) (w':World):Prop:=
 (∃ n,e = .returned (.int .i64 n)) ∧ ∃ S',Queue w' b S' L ∧ Only S w w' ∧ Gr S S' w
theorem put_one (w1:World) (b:Nat) (S:Nat → Prop) (L:List Int) (x:Int) (h:Queue w1 b S L) (hl:L.length < 10000000):Calls Tryz.prog 243 #[.pointer (some ⟨b,0,none⟩),.slice (some ⟨w1.heap.size,0,none⟩) 1 1] (w1.alloc (.cells #[.int .i64 x] 3)) (PutOne b S (L ++ right [x]) w1):=by
 refine (put_any b S L (.slice (some ⟨w1.heap.size,0,none⟩) 1 1) [x] _ (h.below (below_alloc (Below.refl _ _) _)) (Slw.new1 w1 x) ?_ (by simp;omega)).mono ?_
 ·intro j hj hb
  have:=h.lt hb
  simp [Value.ownBlock] at hj
  omega
 ·rintro e w2 ⟨rfl,S2,hQ,hO,hG⟩
  refine ⟨⟨_,rfl⟩,S2,hQ,((Only.refl _ w1).alloc _).trans hO,fun j hj=>(hG j hj).elim .inl (fun x=>.inr ?_)⟩
  simp at x;omega
theorem list_any (b:Nat) (S:Nat → Prop) (L:List Int) (w:World) (h:Queue w b S L) (hl:L.length < 10000000):Calls Tryz.prog 61 #[.pointer (some ⟨b,0,none⟩)] w (ListPost L w):=by
 obtain ⟨v1,v2,f,k,h,rfl,rfl⟩:=h
 exact list_q b v1 v2 f k w h (by simp at hl;omega)
open Go.RowKit Go.Esc
set_option maxHeartbeats 2000000 in
theorem put_q2 (b:Nat) (v1 v2:Value) (f k:List Int) (u:Value) (l:List Int) (w:World) (h:Q w b v1 v2 f k) (hu:Slw w u l) (ho:l ≠ [] → Off (Qf b v1 v2) u) (hl:f.length + k.length + l.length < 100000000) :
  Calls Tryz.prog 243 #[.pointer (some ⟨b,0,none⟩),u] w (PutPost b v1 v2 f (k ++ right l) w):=by
 obtain ⟨a,cap,rfl⟩:=hu.len
 have HU:=Lib.hid hu
 have HO:=Lib.hid ho
 clear ho
 have hb0:=h.1.lt
 go_enter Tryz.func243,Tryz.ntmps243
 go_wp2
 go_loopw [11] (fun i wr=>∃ (q:Nat) (v2':Value),q ≤ l.length ∧ i = .int .i64 q ∧ Q wr b v1 v2' f (k ++ (l.take q).filter (fun p=>decide (1 ≤ p))) ∧ Only (Qf b v1 v2) w wr ∧ Gr (Qf b v1 v2) (Qf b v1 v2') w) (fun i _=>l.length - (intOf i).toNat)
 case atStart=>exact ⟨0,v2,Nat.zero_le _,rfl,by simpa using h,Only.refl _ _,Gr.refl _ _⟩
 case round=>
  obtain ⟨q,v2',hq,rfl,hQ,hon,hgr⟩:=hrel
  have hfl:((l.take q).filter (fun p=>decide (1 ≤ p))).length ≤ q:=Nat.le_trans (List.length_filter_le _ _) (by rw [List.length_take];omega)
  obtain ⟨kk,HK⟩:∃ kk,Hid (k ++ (l.take q).filter (fun p=>decide (1 ≤ p)) = kk):=⟨_,rfl⟩
  rw [HK.out] at hQ
  have hkk:kk.length ≤ k.length + q:=by rw [← HK.out];simp;omega
  clear hfl
  by_cases hlt:q < l.length
  ·have hu2:=HU.out.only hon (HO.out (by rintro rfl;simp at hlt))
   rcases hu2.open with ⟨_,h0⟩ | ⟨_,_,_,h0⟩ | ⟨bu,off,cap',he,_,_,hbu,hcells⟩
   ·simp [h0] at hlt
   ·simp [h0] at hlt
   simp only [Value.slice.injEq] at he
   obtain ⟨rfl,_,rfl⟩:=he
   have cu:=hcells q hlt
   have HF:=Lib.hid (filter1_snoc l q hlt)
   clear hcells hu2
   generalize l[q]?.getD 0 = x at *
   have c1:=hQ.1.cell 1
   have f1:=hQ.1.free 1
   have hbl:=hQ.1.lt
   simp only [List.getElem?_toArray,List.getElem?_cons_zero,List.getElem?_cons_succ] at c1
   by_cases hx:1 ≤ x
   ·rw [if_pos hx] at HF
    have HQ:=Lib.hid hQ
    have hown:=hQ.2.2.1
    have HOwn:=Lib.hid hown
    clear hQ hown
    have hlen2:kk.length + [x].length < 100000000:=by simp;omega
    have HLen:=Lib.hid hlen2
    clear hlen2
    go_wp2_with (at_builtin;refine appX Tryz.underlying22 info3 0 _ rfl _ _ rfl _ _ _ [x] rfl rfl (HOwn.out.alloc _) (Slw.new1 wr x) (Nat.zero_le _) HLen.out ?_;intro v' w1 hA;obtain ⟨g',cap'',rfl⟩:=hA.some;obtain ⟨hb1,hQ1,hO1,hG1⟩:=HQ.out.putBack hA;have d1:=hb1.cell 1;simp only [List.getElem?_toArray,List.getElem?_cons_zero,List.getElem?_cons_succ] at d1;have e1:=hb1.free 1;have HQ1:=Lib.hid hQ1;clear hQ1 hb1)
    go_roundw
    case rel=>exact ⟨q + 1,_,by omega,by go_num,by rw [HF.out,← List.append_assoc,HK.out];exact HQ1.out,hon.andThen hO1 (fun j hj hs=>(hgr j hs).elim id (fun x=>by omega)),hgr.trans hG1 hon.size⟩
    case measure=>simp [intOf];omega
   ·rw [if_neg hx,List.append_nil] at HF
    have HQ:=Lib.hid hQ
    clear hQ
    go_wp2
    go_roundw
    case rel=>exact ⟨q + 1,_,by omega,by go_num,by rw [HF.out,HK.out];exact HQ.out,hon,hgr⟩
    case measure=>simp [intOf];omega
  ·obtain rfl:q = l.length:=by omega
   rw [List.take_length] at HK
   have HQ:=Lib.hid hQ
   clear hQ
   go_wp2_with fail
   refine (len_q _ _ _ _ _ _ HQ.out (by omega)).mono ?_
   rintro e w2 ⟨rfl,n,rfl⟩
   go_wp2_with fail
   go_ret
   exact ⟨by rw [show k ++ right l = kk from HK.out];rfl,v2',by rw [show k ++ right l = kk from HK.out];exact HQ.out.drewN n,hon.drewN n,hgr⟩
theorem put_any2 (b:Nat) (S:Nat → Prop) (L:List Int) (u:Value) (l:List Int) (w:World) (h:Queue w b S L) (hu:Slw w u l) (ho:l ≠ [] → Off S u) (hl:L.length + l.length < 10000000) :
  Calls Tryz.prog 243 #[.pointer (some ⟨b,0,none⟩),u] w (PutP b S (L ++ right l) w):=by
 obtain ⟨v1,v2,f,k,h,rfl,rfl⟩:=h
 refine (put_q2 b v1 v2 f k u l w h hu ho (by simp at hl;omega)).mono ?_
 rintro e w' ⟨rfl,v2',hQ,hO,hG⟩
 exact ⟨by simp,_,⟨v1,v2',f,k ++ right l,hQ,by simp,rfl⟩,hO,hG⟩
end Go.Proofs.YtgadhchejmlfjaaGreatDoor.Glob
