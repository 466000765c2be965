/- Parts of the proof of TopReaches. -/
import Derived.Test.YtgadhchejmlfjaaGreatDoorA1
import Derived.BigQuiet
import Derived.BigRegion
import Derived.Laws.ResultCell
import Derived.Laws.StructEq
import Derived.RegionTactic
import Derived.WalkMore
import Derived.Deep.LoopGhost
set_option linter.unusedVariables false
set_option maxRecDepth 20000
section
namespace Go.Proofs.YtgadhchejmlfjaaGreatDoor.Pstat
open Go.RowKit Go.Esc
abbrev Pr:=Int × Int
def pz:Pr:=(0,0)
def ys:List Pr → List Value
 | []=>[]
 | x :: l=>[.int .i64 x.1,.int .i64 x.2] ++ ys l
theorem ys_len (l:List Pr):(ys l).length = l.length * 2:=by
 induction l with
 | nil=>rfl
 | cons x l ih=>simp [ys,ih];omega
theorem ys_append (l m:List Pr):ys (l ++ m) = ys l ++ ys m:=by
 induction l with
 | nil=>rfl
 | cons x l ih=>simp [ys,ih]
theorem ys_at (l:List Pr):∀ i,i < l.length → (ys l)[i * 2]? = some (.int .i64 (l[i]?.getD pz).1) ∧ (ys l)[i * 2 + 1]? = some (.int .i64 (l[i]?.getD pz).2):=by
 induction l with
 | nil=>intro i hi;simp at hi
 | cons x l ih=>
  intro i hi
  cases i with
  | zero=>simp [ys]
  | succ i=>
   have:=ih i (by simpa using hi)
   rw [show (i + 1) * 2 = (i * 2) + 1 + 1 by omega]
   simpa [ys] using this
structure Tb (w:World) (t:Nat) (tv:Value) (l:List Pr):Prop where
 blk:Blk w t #[tv] 199
 own:w.ownsRow (t + 1) 201 2 tv l.length (ys l)
def Tf (t:Nat) (tv:Value) (j:Nat):Prop:=j = t ∨ tv.ownBlock = some j
theorem Tb.off {w:World} {t:Nat} {tv:Value} {l:List Pr} (h:Tb w t tv l):tv.ownBlock ≠ some t:=fun e=>by have:=(World.ownsRow.lt h.own t e).1;omega
theorem Tb.lt {w:World} {t:Nat} {tv:Value} {l:List Pr} (h:Tb w t tv l) {j:Nat} (hj:Tf t tv j):j < w.heap.size:=by
 rcases hj with rfl | hj
 ·exact h.blk.lt
 ·exact (World.ownsRow.lt h.own j hj).2
theorem Tb.ge {w:World} {t:Nat} {tv:Value} {l:List Pr} (h:Tb w t tv l) {j:Nat} (hj:Tf t tv j):t ≤ j:=by
 rcases hj with rfl | hj
 ·exact Nat.le_refl _
 ·have:=(World.ownsRow.lt h.own j hj).1;omega
theorem Tb.only {S:Nat → Prop} {w w':World} {t:Nat} {tv:Value} {l:List Pr} (h:Tb w t tv l) (o:Only S w w') (hs:∀ j,Tf t tv j → ¬ S j):Tb w' t tv l:=
 ⟨h.blk.only o (hs t (.inl rfl)),rowv_off h.own o (fun j hj=>hs j (.inr hj))⟩
theorem Tb.below {w w':World} {t:Nat} {tv:Value} {l:List Pr} (h:Tb w t tv l) (hb:Below w.heap.size w w'):Tb w' t tv l:=
 h.only (S:=fun _=>False) ((Only.refl _ w).below hb) (fun _ _ x=>x)
theorem Tb.slice {w:World} {t:Nat} {tv:Value} {l:List Pr} (h:Tb w t tv l):∃ a cap,tv = .slice a l.length cap:=by
 rcases rowv_open h.own with ⟨rfl,h0⟩ | ⟨g,cap,rfl,_⟩
 ·exact ⟨none,0,by rw [h0]⟩
 ·exact ⟨_,cap,rfl⟩
theorem Tb.at {w:World} {t:Nat} {a:Option Addr} {n cap:Nat} {l:List Pr} (h:Tb w t (.slice a n cap) l) (i:Nat) (hi:i < l.length):n = l.length ∧ ∃ g,a = some ⟨g,0,none⟩ ∧ w.cell? ⟨g,i * 2,none⟩ = some (.int .i64 (l[i]?.getD pz).1) ∧ w.cell? ⟨g,i * 2 + 1,none⟩ = some (.int .i64 (l[i]?.getD pz).2):=by
 rcases rowv_open h.own with ⟨_,h0⟩ | ⟨g,cap',he,_,hg,hc,hcells⟩
 ·omega
 ·simp only [Value.slice.injEq] at he
  obtain ⟨rfl,rfl,rfl⟩:=he
  obtain ⟨h1,h2⟩:=ys_at l i hi
  refine ⟨rfl,g,rfl,?_,?_⟩
  ·rw [hcells (i * 2) (by omega),h1];rfl
  ·rw [hcells (i * 2 + 1) (by omega),h2];rfl
set_option maxHeartbeats 1000000 in
theorem is_any (x:Int) (w:World):Calls Tryz.prog 109 #[.int .i64 x] w fun e w'=>e = .returned (.bool (decide (1 ≤ x ∧ x ≤ 256))) ∧ w = w':=by
 by_cases h1:1 ≤ x
 ·by_cases h2:x ≤ 256
  ·rw [decide_eq_true ⟨h1,h2⟩]
   go_enter Tryz.func109,Tryz.ntmps109
   go_wp2
   go_ret
   exact ⟨rfl,rfl⟩
  ·rw [decide_eq_false (fun h=>h2 h.2)]
   have hd:decide (x ≤ 256) = false:=by simpa using h2
   clear h2
   go_enter Tryz.func109,Tryz.ntmps109
   go_wp2
   go_ret
   exact ⟨rfl,rfl⟩
 ·rw [decide_eq_false (fun h=>h1 h.1)]
  have hd:decide (1 ≤ x) = false:=by simpa using h1
  clear h1
  go_enter Tryz.func109,Tryz.ntmps109
  go_wp2
  go_ret
  exact ⟨rfl,rfl⟩
theorem at_out (t:Nat) (tv:Value) (l:List Pr) (p:Int) (w:World) (h:Tb w t tv l) (hp:¬ (0 ≤ p ∧ p < l.length)):Calls Tryz.prog 124 #[.pointer (some ⟨t,0,none⟩),.int .i64 p] w fun e w'=>e = .returned (.pointer none) ∧ w = w':=by
 obtain ⟨a,cap,rfl⟩:=h.slice
 have c0:=h.blk.cell 0
 simp only [List.getElem?_toArray,List.getElem?_cons_zero] at c0
 clear h
 by_cases h0:p < 0
 ·clear hp
  go_enter Tryz.func124,Tryz.ntmps124
  go_wp2
  go_ret
  exact ⟨rfl,rfl⟩
 ·have hd0:decide (p < 0) = false:=by simpa using h0
  have hd1:decide ((l.length:Int) ≤ p) = true:=by simp;omega
  generalize l.length = n at *
  clear hp h0
  go_enter Tryz.func124,Tryz.ntmps124
  go_wp2
  go_ret
  exact ⟨rfl,rfl⟩
theorem at_in (t g n cap:Nat) (l:List Pr) (i:Nat) (w:World) (h:Tb w t (.slice (some ⟨g,0,none⟩) n cap) l) (hi:i < n):Calls Tryz.prog 124 #[.pointer (some ⟨t,0,none⟩),.int .i64 i] w fun e w'=>e = .returned (.pointer (some ⟨g,i * 2,none⟩)) ∧ w = w':=by
 have c0:=h.blk.cell 0
 simp only [List.getElem?_toArray,List.getElem?_cons_zero] at c0
 clear h
 have hd0:decide ((i:Int) < 0) = false:=by simp
 have hd1:decide ((n:Int) ≤ (i:Int)) = false:=by simp;omega
 have hd2:decide (n ≤ i) = false:=by simp;omega
 have hii:(i:Int) < (n:Int):=by omega
 go_enter Tryz.func124,Tryz.ntmps124
 go_wp2
 go_ret
 exact ⟨rfl,rfl⟩
def getL (l:List Pr) (p:Int):Int:=if 0 ≤ p ∧ p < l.length then (l[p.toNat]?.getD pz).1 else 4
def whoL (l:List Pr) (p:Int):Int:=if 0 ≤ p ∧ p < l.length then (l[p.toNat]?.getD pz).2 else -1
set_option maxHeartbeats 1000000 in
theorem get_any (t:Nat) (tv:Value) (l:List Pr) (p:Int) (w:World) (h:Tb w t tv l):Calls Tryz.prog 58 #[.pointer (some ⟨t,0,none⟩),.int .i64 p] w fun e w'=>e = .returned (.int .i64 (getL l p)) ∧ w = w':=by
 unfold getL
 by_cases hp:0 ≤ p ∧ p < l.length
 ·rw [if_pos hp]
  obtain ⟨i,rfl⟩:=Int.eq_ofNat_of_zero_le hp.1
  rw [Int.toNat_natCast]
  have hi:i < l.length:=by omega
  obtain ⟨a,cap,rfl⟩:=h.slice
  obtain ⟨_,g,rfl,c0,c1⟩:=h.at i hi
  have HA:=Lib.hid (at_in t g _ cap l i w h hi)
  clear h hp hi
  generalize (l[i]?.getD pz).1 = y at *
  go_enter Tryz.func58,Tryz.ntmps58
  go_wp2_with fail
  refine HA.out.mono ?_
  rintro e w1 ⟨rfl,rfl⟩
  go_wp2_with fail
  go_ret
  exact ⟨rfl,rfl⟩
 ·rw [if_neg hp]
  have HA:=Lib.hid (at_out t tv l p w h hp)
  clear h hp
  go_enter Tryz.func58,Tryz.ntmps58
  go_wp2_with fail
  refine HA.out.mono ?_
  rintro e w1 ⟨rfl,rfl⟩
  go_wp2_with fail
  go_ret
  exact ⟨rfl,rfl⟩
set_option maxHeartbeats 1000000 in
theorem who_any (t:Nat) (tv:Value) (l:List Pr) (p:Int) (w:World) (h:Tb w t tv l):Calls Tryz.prog 59 #[.pointer (some ⟨t,0,none⟩),.int .i64 p] w fun e w'=>e = .returned (.int .i64 (whoL l p)) ∧ w = w':=by
 unfold whoL
 by_cases hp:0 ≤ p ∧ p < l.length
 ·rw [if_pos hp]
  obtain ⟨i,rfl⟩:=Int.eq_ofNat_of_zero_le hp.1
  rw [Int.toNat_natCast]
  have hi:i < l.length:=by omega
  obtain ⟨a,cap,rfl⟩:=h.slice
  obtain ⟨_,g,rfl,c0,c1⟩:=h.at i hi
  have HA:=Lib.hid (at_in t g _ cap l i w h hi)
  clear h hp hi
  generalize (l[i]?.getD pz).2 = y at *
  go_enter Tryz.func59,Tryz.ntmps59
  go_wp2_with fail
  refine HA.out.mono ?_
  rintro e w1 ⟨rfl,rfl⟩
  go_wp2_with fail
  go_ret
  exact ⟨rfl,rfl⟩
 ·rw [if_neg hp]
  have HA:=Lib.hid (at_out t tv l p w h hp)
  clear h hp
  go_enter Tryz.func59,Tryz.ntmps59
  go_wp2_with fail
  refine HA.out.mono ?_
  rintro e w1 ⟨rfl,rfl⟩
  go_wp2_with fail
  go_ret
  exact ⟨rfl,rfl⟩
def cnt (s:Int) (l:List Pr):Nat:=l.countP (fun x=>x.1 == s)
theorem cnt_take (s:Int) (l:List Pr) (k:Nat) (h:k < l.length):cnt s (l.take (k + 1)) = cnt s (l.take k) + (if (l[k]?.getD pz).1 == s then 1 else 0):=by
 unfold cnt
 rw [List.take_succ_eq_append_getElem h,List.countP_append]
 simp [h,List.countP_cons]
theorem cnt_le (s:Int) (l:List Pr):cnt s l ≤ l.length:=List.countP_le_length
def CntP (x:Int) (w:World) (e:Ending) (w':World):Prop:=e = .returned (.int .i64 x) ∧ Below w.heap.size w w'
set_option maxHeartbeats 2000000 in
theorem count_any (t:Nat) (tv:Value) (l:List Pr) (s:Int) (w:World) (h:Tb w t tv l) (hl:l.length ≤ 100000):Calls Tryz.prog 360 #[.pointer (some ⟨t,0,none⟩),.int .i64 s] w (CntP (cnt s l) w):=by
 obtain ⟨a,cap,rfl⟩:=h.slice
 have c0:=h.blk.cell 0
 simp only [List.getElem?_toArray,List.getElem?_cons_zero] at c0
 have HH:=Lib.hid h
 clear h
 obtain ⟨n,HN⟩:∃ n,Hid (l.length = n):=⟨_,rfl⟩
 rw [HN.out] at HH c0 hl
 go_enter Tryz.func360,Tryz.ntmps360
 go_wp2
 go_loopw [4,14] (fun c i wr=>∃ k:Nat,k ≤ n ∧ i = .int .i64 k ∧ c = .int .i64 (cnt s (l.take k):Nat) ∧ Below w.heap.size w wr) (fun _ i _=>n - (intOf i).toNat)
 case atStart=>exact ⟨0,Nat.zero_le _,rfl,by simp [cnt],Below.refl _ _⟩
 case round=>
  obtain ⟨k,hk,rfl,rfl,hB⟩:=hrel
  have HB:=Lib.hid hB
  by_cases hlt:k < n
  ·have hTr:=HH.out.below hB
   obtain ⟨_,g,rfl,y0,y1⟩:=hTr.at k (by rw [HN.out];exact hlt)
   have hgl:=lt_of_cell y0
   have HC:=Lib.hid (cnt_take s l k (by rw [HN.out];exact hlt))
   have hcl:cnt s (l.take k) ≤ k:=Nat.le_trans (cnt_le _ _) (by rw [List.length_take];omega)
   generalize (l[k]?.getD pz).1 = z0 at *
   generalize (l[k]?.getD pz).2 = z1 at *
   generalize cnt s (l.take k) = c at *
   clear hTr hB
   by_cases hz:z0 = s
   ·have hzb:(z0 == s) = true:=by simpa using hz
    rw [if_pos hzb] at HC
    go_wp2
    go_roundw
    case rel=>exact ⟨k + 1,by omega,by go_num,by rw [HC.out];go_num,below_alloc HB.out _⟩
    case measure=>simp [intOf];omega
   ·have hzb:(z0 == s) = false:=by simpa using hz
    rw [if_neg (by rw [hzb];decide)] at HC
    go_wp2
    go_roundw
    case rel=>exact ⟨k + 1,by omega,by go_num,by rw [HC.out];rfl,below_alloc HB.out _⟩
    case measure=>simp [intOf];omega
  ·obtain rfl:k = n:=by omega
   have HT:Hid (l.take k = l):=List.take_of_length_le (by rw [HN.out];exact Nat.le_refl _)
   rw [HT.out]
   clear hB
   go_wp2
   go_ret
   exact ⟨rfl,HB.out⟩
open Go.RowKit Go.Esc
def MayP (x:Pr) (b:Bool) (w:World) (e:Ending) (w':World):Prop:=e = .returned (.tuple #[.agg #[.int .i64 x.1,.int .i64 x.2],.bool b]) ∧ Below w.heap.size w w'
set_option maxHeartbeats 1000000 in
theorem enter_may (s wh:Int) (w:World):Calls Tryz.prog 337 #[.agg #[.int .i64 s,.int .i64 wh]] w (MayP (2,wh) (s == 1) w):=by
 go_enter Tryz.func337,Tryz.ntmps337
 go_wp2
 go_region
 all_goals
  go_wp2
  refine bodyPost_ret (v:=.tuple #[.agg #[.int .i64 (2),.int .i64 (wh)],.bool (s == 1)]) ?_ rfl ⟨rfl,below_drewN (below_alloc (below_alloc (Below.refl _ _) _) _) 1⟩
  rw [results_cell_tmp rfl]
  simp only [asAddr]
  go_simp
set_option maxHeartbeats 1000000 in
theorem release_may (s wh:Int) (w:World):Calls Tryz.prog 238 #[.agg #[.int .i64 s,.int .i64 wh]] w (MayP (0, -1) (s == 1) w):=by
 go_enter Tryz.func238,Tryz.ntmps238
 go_wp2
 go_region
 all_goals
  go_wp2
  refine bodyPost_ret (v:=.tuple #[.agg #[.int .i64 (0),.int .i64 (-1)],.bool (s == 1)]) ?_ rfl ⟨rfl,below_drewN (below_alloc (below_alloc (Below.refl _ _) _) _) 1⟩
  rw [results_cell_tmp rfl]
  simp only [asAddr]
  go_simp
set_option maxHeartbeats 1000000 in
theorem take_may (b:Nat) (m s wh:Int) (w:World) (hb:Blk w b #[.int .i64 m] 3):Calls Tryz.prog 113 #[.agg #[.int .i64 s,.int .i64 wh],.pointer (some ⟨b,0,none⟩)] w (MayP (1,m) (s == 0) w):=by
 have c0:=hb.cell 0
 have hbl:=hb.lt
 simp only [List.getElem?_toArray,List.getElem?_cons_zero] at c0
 clear hb
 go_enter Tryz.func113,Tryz.ntmps113
 go_wp2
 go_region
 all_goals
  go_wp2
  refine bodyPost_ret (v:=.tuple #[.agg #[.int .i64 (1),.int .i64 (m)],.bool (s == 0)]) ?_ rfl ⟨rfl,below_drewN (below_alloc (below_alloc (Below.refl _ _) _) _) 1⟩
  rw [results_cell_tmp rfl]
  simp only [asAddr]
  go_simp
def stopX (s wh:Int):Pr:=if s = 2 then (3, -1) else if s = 0 ∨ s = 1 then (3,wh) else (s,wh)
def stopB (s:Int):Bool:=decide (s = 2 ∨ s = 0 ∨ s = 1)
set_option maxHeartbeats 1000000 in
theorem stop_may (s wh:Int) (w:World):Calls Tryz.prog 239 #[.agg #[.int .i64 s,.int .i64 wh]] w (MayP (stopX s wh) (stopB s) w):=by
 unfold stopX stopB
 by_cases h2:s = 2
 ·rw [if_pos h2,decide_eq_true (.inl h2)]
  subst h2
  go_enter Tryz.func239,Tryz.ntmps239
  go_wp2
  refine bodyPost_ret (v:=.tuple #[.agg #[.int .i64 (3),.int .i64 (-1)],.bool (true)]) ?_ rfl ⟨rfl,below_alloc (below_alloc (Below.refl _ _) _) _⟩
  rw [results_cell_tmp rfl]
  simp only [asAddr]
  go_simp
 ·rw [if_neg h2]
  have d2:(s == 2) = false:=by rw [beq_eq_false_iff_ne];exact h2
  by_cases h0:s = 0
  ·rw [if_pos (.inl h0),decide_eq_true (.inr (.inl h0))]
   subst h0
   clear h2 d2
   go_enter Tryz.func239,Tryz.ntmps239
   go_wp2
   refine bodyPost_ret (v:=.tuple #[.agg #[.int .i64 (3),.int .i64 (wh)],.bool (true)]) ?_ rfl ⟨rfl,below_alloc (below_alloc (Below.refl _ _) _) _⟩
   rw [results_cell_tmp rfl]
   simp only [asAddr]
   go_simp
  ·have d0:(s == 0) = false:=by rw [beq_eq_false_iff_ne];exact h0
   by_cases h1:s = 1
   ·rw [if_pos (.inr h1),decide_eq_true (.inr (.inr h1))]
    subst h1
    clear h2 d2 h0 d0
    go_enter Tryz.func239,Tryz.ntmps239
    go_wp2
    refine bodyPost_ret (v:=.tuple #[.agg #[.int .i64 (3),.int .i64 (wh)],.bool (true)]) ?_ rfl ⟨rfl,below_alloc (below_alloc (Below.refl _ _) _) _⟩
    rw [results_cell_tmp rfl]
    simp only [asAddr]
    go_simp
   ·rw [if_neg (fun h=>h.elim h0 h1),decide_eq_false (fun h=>h.elim h2 (fun h=>h.elim h0 h1))]
    have d1:(s == 1) = false:=by rw [beq_eq_false_iff_ne];exact h1
    go_enter Tryz.func239,Tryz.ntmps239
    go_wp2
    refine bodyPost_ret (v:=.tuple #[.agg #[.int .i64 (s),.int .i64 (wh)],.bool (false)]) ?_ rfl ⟨rfl,below_alloc (below_alloc (Below.refl _ _) _) _⟩
    rw [results_cell_tmp rfl]
    simp only [asAddr]
    go_simp
def goX (wh:Int):Pr:=if wh = -1 then (0, -1) else (1,wh)
set_option maxHeartbeats 1000000 in
theorem go_may (s wh:Int) (w:World):Calls Tryz.prog 336 #[.agg #[.int .i64 s,.int .i64 wh]] w (MayP (goX wh) (s == 3) w):=by
 unfold goX
 by_cases h:wh = -1
 ·rw [if_pos h]
  subst h
  go_enter Tryz.func336,Tryz.ntmps336
  go_wp2
  go_region
  all_goals
   go_wp2
   refine bodyPost_ret (v:=.tuple #[.agg #[.int .i64 (0),.int .i64 (-1)],.bool (s == 3)]) ?_ rfl ⟨rfl,below_drewN (below_alloc (below_alloc (Below.refl _ _) _) _) 1⟩
   rw [results_cell_tmp rfl]
   simp only [asAddr]
   go_simp
 ·rw [if_neg h]
  have d:(wh == -1) = false:=by rw [beq_eq_false_iff_ne];exact h
  go_enter Tryz.func336,Tryz.ntmps336
  go_wp2
  go_region
  all_goals
   go_wp2
   refine bodyPost_ret (v:=.tuple #[.agg #[.int .i64 (1),.int .i64 (wh)],.bool (s == 3)]) ?_ rfl ⟨rfl,below_drewN (below_alloc (below_alloc (Below.refl _ _) _) _) 1⟩
   rw [results_cell_tmp rfl]
   simp only [asAddr]
   go_simp
open Go.RowKit Go.Esc
theorem ys_set (l:List Pr) (x:Pr):∀ i,i < l.length → ys (l.set i x) = ((ys l).set (i * 2) (.int .i64 x.1)).set (i * 2 + 1) (.int .i64 x.2):=by
 induction l with
 | nil=>intro i hi;simp at hi
 | cons y l ih=>
  intro i hi
  cases i with
  | zero=>simp [ys]
  | succ i=>
   have h:=ih i (by simpa using hi)
   rw [List.set_cons_succ,ys,h,show (i + 1) * 2 = (i * 2) + 1 + 1 by omega]
   simp [ys]
theorem Tb.put {w:World} {t g n cap:Nat} {l:List Pr} (h:Tb w t (.slice (some ⟨g,0,none⟩) n cap) l) (i:Nat) (hi:i < l.length) (x:Pr) :
  Tb ((w.setCell ⟨g,i * 2,none⟩ (.int .i64 x.1)).setCell ⟨g,i * 2 + 1,none⟩ (.int .i64 x.2)) t (.slice (some ⟨g,0,none⟩) n cap) (l.set i x):=by
 have hgt:g ≠ t:=fun e=>h.off (by rw [e];rfl)
 refine ⟨(h.blk.setOther (Ne.symm hgt) _).setOther (Ne.symm hgt) _,?_⟩
 obtain ⟨hl,⟨h0,_⟩ | ⟨g',cap',cur,he,hb,hh,hn,hm,hs,ht⟩⟩:=h.own
 ·cases h0
 ·simp only [Value.slice.injEq,Option.some.injEq,Addr.mk.injEq] at he
  obtain ⟨⟨rfl,_⟩,rfl,rfl⟩:=he
  have hB:Blk w g cur 201:=hh
  refine ⟨by rw [List.length_set,ys_len,List.length_set],.inr ⟨g,cap,_,by rw [List.length_set],hb,(hB.set (i * 2) (.int .i64 x.1)).set (i * 2 + 1) (.int .i64 x.2),by rw [List.length_set];exact hn,hm,by simpa using hs,?_⟩⟩
  rw [List.length_set,ys_set l x i hi,← ht]
  simp [List.take_set]
theorem Tb.free {w:World} {t g n cap:Nat} {l:List Pr} (h:Tb w t (.slice (some ⟨g,0,none⟩) n cap) l) (i:Nat):w.frozen? ⟨g,i,none⟩ = false ∧ g < w.heap.size:=by
 obtain ⟨hl,⟨h0,_⟩ | ⟨g',cap',cur,he,hb,hh,hn,hm,hs,ht⟩⟩:=h.own
 ·cases h0
 ·simp only [Value.slice.injEq,Option.some.injEq,Addr.mk.injEq] at he
  obtain ⟨⟨rfl,_⟩,rfl,rfl⟩:=he
  have hB:Blk w g cur 201:=hh
  exact ⟨hB.free i,hB.lt⟩
def PostT (t:Nat) (tv:Value) (l':List Pr) (f:Int) (w:World) (e:Ending) (w':World):Prop:=
 e = .returned (.int .i64 f) ∧ ∃ tv',Tb w' t tv' l' ∧ Only (Tf t tv) w w' ∧ ∀ j,Tf t tv' j → Tf t tv j ∨ w.heap.size ≤ j
theorem PostT.same {t:Nat} {tv:Value} {l:List Pr} {f:Int} {w w':World} (h:Tb w t tv l) (hb:Below w.heap.size w w'):PostT t tv l f w (.returned (.int .i64 f)) w':=
 ⟨rfl,tv,h.below hb,(Only.refl _ w).below hb,fun j hj=>.inl hj⟩
theorem PostT.put {t g n cap:Nat} {l:List Pr} {i:Nat} {x:Pr} {w w1:World} {o:Obj} (h:Tb w t (.slice (some ⟨g,0,none⟩) n cap) l) (hb:Below w.heap.size w w1) (hi:i < l.length) :
  PostT t (.slice (some ⟨g,0,none⟩) n cap) (l.set i x) 0 w (.returned (.int .i64 0)) (((w1.setCell ⟨g,i * 2,none⟩ (.int .i64 x.1)).setCell ⟨g,i * 2 + 1,none⟩ (.int .i64 x.2)).alloc o):=by
 refine ⟨rfl,_,((h.below hb).put i hi x).below (below_alloc (Below.refl _ _) o),((((Only.refl (Tf t (.slice (some ⟨g,0,none⟩) n cap)) w).below hb).set (.inr (.inr rfl)) _ _).set (.inr (.inr rfl)) _ _).alloc o,fun j hj=>.inl hj⟩
@[reducible] def leaveB (m s wh:Int):Bool:=decide (s = 2 ∧ wh = m)
def turnL (l:List Pr) (p:Int) (X:Int → Int → Pr) (B:Int → Int → Bool):List Pr:=if 0 ≤ p ∧ p < l.length then (if B (l[p.toNat]?.getD pz).1 (l[p.toNat]?.getD pz).2 then l.set p.toNat (X (l[p.toNat]?.getD pz).1 (l[p.toNat]?.getD pz).2) else l) else l
def turnF (l:List Pr) (p:Int) (B:Int → Int → Bool):Int:=if 0 ≤ p ∧ p < l.length then (if B (l[p.toNat]?.getD pz).1 (l[p.toNat]?.getD pz).2 then 0 else 9) else 8
def lenT (l:List Pr):Int:=(l.length:Int) - cnt 4 l
set_option maxRecDepth 100000 in
set_option maxHeartbeats 2000000 in
theorem len_any (t:Nat) (tv:Value) (l:List Pr) (w:World) (h:Tb w t tv l) (hl:l.length ≤ 100000):Calls Tryz.prog 361 #[.pointer (some ⟨t,0,none⟩)] w (CntP (lenT l) w):=by
 obtain ⟨a,cap,rfl⟩:=h.slice
 have c0:=h.blk.cell 0
 have hbl:=h.blk.lt
 simp only [List.getElem?_toArray,List.getElem?_cons_zero] at c0
 have HC:Hid (Calls Tryz.prog 360 #[.pointer (some ⟨t,0,none⟩),.int .i64 4] w.drew (CntP (cnt 4 l) w.drew)):=count_any t _ l 4 w.drew (h.below ⟨rfl,rfl,rfl,Nat.le_refl _,fun _ _=>rfl⟩) hl
 have hc:=cnt_le 4 l
 unfold lenT
 generalize cnt 4 l = c at *
 generalize l.length = n at *
 have e1:IntKind.i64.wrap ((n:Int) - c) = (n:Int) - c:=IntWalk.i64_in _ (by omega)
 clear h hc hl
 go_enter Tryz.func361,Tryz.ntmps361
 go_wp2_with fail
 refine wp_region_any (by kernel_rfl) ?_
 try (change wpAny _ _ _ _ _ _ _ (World.drew _))
 refine wpAny_take (i:=0) (v:=?_) rfl (by kernel_rfl) (by kernel_rfl) (by kernel_rfl) (fun _ _ _ h=>h) (Or.inl ⟨by kernel_rfl,?_⟩) ?_
 rotate_left
 ·intro w';go_simp;try (with_reducible rfl)
 refine wpAny_take (i:=1) (v:=?_) rfl (by kernel_rfl) (by kernel_rfl) (by kernel_rfl) (fun _ _ _ h=>h) (Or.inl ⟨by kernel_rfl,?_⟩) ?_
 rotate_left
 ·intro w';go_simp;try (with_reducible rfl)
 refine wpAny_take (i:=2) (v:=?_) rfl (by kernel_rfl) (by kernel_rfl) (by kernel_rfl) (fun _ _ _ h=>h) (Or.inl ⟨by kernel_rfl,?_⟩) ?_
 rotate_left
 ·intro w';go_simp;try (with_reducible rfl)
 refine wpAny_take (i:=5) (v:=?_) rfl (by kernel_rfl) (by kernel_rfl) (by kernel_rfl) (fun _ _ _ h=>h) (Or.inl ⟨by kernel_rfl,?_⟩) ?_
 rotate_left
 ·intro w';go_simp;try (with_reducible rfl)
 refine wpAny_ready (rs:=[3,6]) (by kernel_rfl) (by simp) ?_
 refine AllReady.cons rfl (fun K hK=>?_) (AllReady.cons rfl (fun K hK=>?_) (AllReady.nil))
 ·go_simp
  refine hK _ _ ?_
  clear hK K
  refine wpAny_take (i:=4) (v:=?_) rfl (by kernel_rfl) (by kernel_rfl) (by kernel_rfl) (fun _ _ _ h=>h) (Or.inl ⟨by kernel_rfl,?_⟩) ?_
  rotate_left
  ·intro w';go_simp;try (with_reducible rfl)
  refine wpAny_ready (rs:=[6]) (by kernel_rfl) (by simp) ?_
  refine AllReady.cons rfl (fun K hK=>?_) (AllReady.nil)
  go_simp
  go_wp2_with (go_at_call 360;(with_reducible refine HC.out.mono ?_);rintro e w1 ⟨rfl,hb1⟩;have HB1:Hid (Below w.heap.size w w1):=⟨hb1.os,hb1.tape,hb1.output,hb1.size,hb1.block⟩;have d0:=(HB1.out.cell (p:=⟨t,0,none⟩) hbl).trans c0;clear hb1)
  refine wpAny_take (i:=7) (v:=?_) rfl (by kernel_rfl) (by kernel_rfl) (by kernel_rfl) (fun _ _ _ h=>h) (Or.inl ⟨by kernel_rfl,?_⟩) ?_
  rotate_left
  ·intro w';go_simp;try (with_reducible rfl)
  refine wpAny_take (i:=8) (v:=?_) rfl (by kernel_rfl) (by kernel_rfl) (by kernel_rfl) (fun _ _ _ h=>h) (Or.inl ⟨by kernel_rfl,?_⟩) ?_
  rotate_left
  ·intro w';go_simp;try (with_reducible rfl)
  refine wpAny_done (by kernel_rfl) ?_ _
  go_wp2
  go_ret
  exact ⟨rfl,HB1.out⟩
 ·go_simp
  go_wp2_with (go_at_call 360;(with_reducible refine HC.out.mono ?_);rintro e w1 ⟨rfl,hb1⟩;have HB1:Hid (Below w.heap.size w w1):=⟨hb1.os,hb1.tape,hb1.output,hb1.size,hb1.block⟩;have d0:=(HB1.out.cell (p:=⟨t,0,none⟩) hbl).trans c0;clear hb1)
  refine wpAny_ready (rs:=[3]) (by kernel_rfl) (by simp) ?_
  refine AllReady.cons rfl (fun K hK=>?_) (AllReady.nil)
  go_simp
  refine hK _ _ ?_
  clear hK K
  refine wpAny_take (i:=4) (v:=?_) rfl (by kernel_rfl) (by kernel_rfl) (by kernel_rfl) (fun _ _ _ h=>h) (Or.inl ⟨by kernel_rfl,?_⟩) ?_
  rotate_left
  ·intro w';go_simp;try (with_reducible rfl)
  refine wpAny_take (i:=7) (v:=?_) rfl (by kernel_rfl) (by kernel_rfl) (by kernel_rfl) (fun _ _ _ h=>h) (Or.inl ⟨by kernel_rfl,?_⟩) ?_
  rotate_left
  ·intro w';go_simp;try (with_reducible rfl)
  refine wpAny_take (i:=8) (v:=?_) rfl (by kernel_rfl) (by kernel_rfl) (by kernel_rfl) (fun _ _ _ h=>h) (Or.inl ⟨by kernel_rfl,?_⟩) ?_
  rotate_left
  ·intro w';go_simp;try (with_reducible rfl)
  refine wpAny_done (by kernel_rfl) ?_ _
  go_wp2
  go_ret
  exact ⟨rfl,HB1.out⟩
set_option maxHeartbeats 2000000 in
theorem turn_enter (t:Nat) (tv:Value) (l:List Pr) (p:Int) (w:World) (h:Tb w t tv l):Calls Tryz.prog 166 #[.pointer (some ⟨t,0,none⟩),.int .i64 p,.func (.func 337) #[] #[]] w (PostT t tv (turnL l p (fun s wh=>(2,wh)) (fun s wh=>s == 1)) (turnF l p (fun s wh=>s == 1)) w):=by
 unfold turnL turnF
 by_cases hp:0 ≤ p ∧ p < l.length
 ·rw [if_pos hp,if_pos hp]
  obtain ⟨i,rfl⟩:=Int.eq_ofNat_of_zero_le hp.1
  rw [Int.toNat_natCast]
  have hi:i < l.length:=by omega
  obtain ⟨a,cap,rfl⟩:=h.slice
  obtain ⟨hz,g,rfl,c0,c1⟩:=h.at i hi
  clear hz
  have HA:=Lib.hid (at_in t g _ cap l i w h hi)
  have hfr:=h.free (i * 2)
  have hfr1:=h.free (i * 2 + 1)
  have HT:=Lib.hid h
  have HI:=Lib.hid hi
  obtain ⟨s,hs⟩:∃ s,(l[i]?.getD pz).1 = s:=⟨_,rfl⟩
  obtain ⟨wh,hwh⟩:∃ wh,(l[i]?.getD pz).2 = wh:=⟨_,rfl⟩
  rw [hs,hwh]
  rw [hs] at c0
  rw [hwh] at c1
  have HM:=Lib.hid (enter_may s wh w)
  clear hp hi h hs hwh
  obtain ⟨bb,HBB⟩:∃ bb,Hid ((fun s wh=>s == 1) s wh = bb):=⟨_,rfl⟩
  obtain ⟨x1,x2,HXX⟩:∃ x1 x2:Int,Hid (((fun s wh=>(2,wh)):Int → Int → Pr) s wh = (x1,x2)):=⟨_,_,rfl⟩
  rw [HBB.out,HXX.out]
  rw [show MayP _ _ _ = MayP (x1,x2) bb w from by rw [← HBB.out,← HXX.out]] at HM
  obtain ⟨n,HL⟩:∃ n,Hid (l.length = n):=⟨_,rfl⟩
  rw [HL.out] at HT ⊢
  cases bb with
  | true=>
   rw [if_pos rfl,if_pos rfl]
   go_enter Tryz.func166,Tryz.ntmps166
   go_wp2_with fail
   refine HA.out.mono ?_
   rintro e w1 ⟨rfl,rfl⟩
   go_wp2_with fail
   refine HM.out.mono ?_
   rintro e w1 ⟨rfl,hB1⟩
   have HB1:=Lib.hid hB1
   have hT1:=HT.out.below hB1
   have hgl:=(hT1.free 0).2
   have hf0:=(hT1.free (i * 2)).1
   have hf1:=(hT1.free (i * 2 + 1)).1
   have e0:=(hB1.cell (p:=⟨g,i * 2,none⟩) hfr.2).trans c0
   have e1:=(hB1.cell (p:=⟨g,i * 2 + 1,none⟩) hfr.2).trans c1
   clear hB1 hT1
   go_wp2_with fail
   go_ret
   exact PostT.put (x:=(x1,x2)) HT.out HB1.out HI.out
  | false=>
   rw [if_neg (by decide),if_neg (by decide)]
   go_enter Tryz.func166,Tryz.ntmps166
   go_wp2_with fail
   refine HA.out.mono ?_
   rintro e w1 ⟨rfl,rfl⟩
   go_wp2_with fail
   refine HM.out.mono ?_
   rintro e w1 ⟨rfl,hB1⟩
   have HB1:=Lib.hid hB1
   clear hB1
   go_wp2_with fail
   go_ret
   exact PostT.same HT.out (below_alloc HB1.out _)
 ·rw [if_neg hp,if_neg hp]
  have HA:=Lib.hid (at_out t tv l p w h hp)
  have HT:=Lib.hid h
  clear h hp
  go_enter Tryz.func166,Tryz.ntmps166
  go_wp2_with fail
  refine HA.out.mono ?_
  rintro e w1 ⟨rfl,rfl⟩
  go_wp2_with fail
  go_ret
  exact PostT.same HT.out (Below.refl _ _)
set_option maxHeartbeats 2000000 in
theorem turn_release (t:Nat) (tv:Value) (l:List Pr) (p:Int) (w:World) (h:Tb w t tv l):Calls Tryz.prog 166 #[.pointer (some ⟨t,0,none⟩),.int .i64 p,.func (.func 238) #[] #[]] w (PostT t tv (turnL l p (fun s wh=>(0, -1)) (fun s wh=>s == 1)) (turnF l p (fun s wh=>s == 1)) w):=by
 unfold turnL turnF
 by_cases hp:0 ≤ p ∧ p < l.length
 ·rw [if_pos hp,if_pos hp]
  obtain ⟨i,rfl⟩:=Int.eq_ofNat_of_zero_le hp.1
  rw [Int.toNat_natCast]
  have hi:i < l.length:=by omega
  obtain ⟨a,cap,rfl⟩:=h.slice
  obtain ⟨hz,g,rfl,c0,c1⟩:=h.at i hi
  clear hz
  have HA:=Lib.hid (at_in t g _ cap l i w h hi)
  have hfr:=h.free (i * 2)
  have hfr1:=h.free (i * 2 + 1)
  have HT:=Lib.hid h
  have HI:=Lib.hid hi
  obtain ⟨s,hs⟩:∃ s,(l[i]?.getD pz).1 = s:=⟨_,rfl⟩
  obtain ⟨wh,hwh⟩:∃ wh,(l[i]?.getD pz).2 = wh:=⟨_,rfl⟩
  rw [hs,hwh]
  rw [hs] at c0
  rw [hwh] at c1
  have HM:=Lib.hid (release_may s wh w)
  clear hp hi h hs hwh
  obtain ⟨bb,HBB⟩:∃ bb,Hid ((fun s wh=>s == 1) s wh = bb):=⟨_,rfl⟩
  obtain ⟨x1,x2,HXX⟩:∃ x1 x2:Int,Hid (((fun s wh=>(0, -1)):Int → Int → Pr) s wh = (x1,x2)):=⟨_,_,rfl⟩
  rw [HBB.out,HXX.out]
  rw [show MayP _ _ _ = MayP (x1,x2) bb w from by rw [← HBB.out,← HXX.out]] at HM
  obtain ⟨n,HL⟩:∃ n,Hid (l.length = n):=⟨_,rfl⟩
  rw [HL.out] at HT ⊢
  cases bb with
  | true=>
   rw [if_pos rfl,if_pos rfl]
   go_enter Tryz.func166,Tryz.ntmps166
   go_wp2_with fail
   refine HA.out.mono ?_
   rintro e w1 ⟨rfl,rfl⟩
   go_wp2_with fail
   refine HM.out.mono ?_
   rintro e w1 ⟨rfl,hB1⟩
   have HB1:=Lib.hid hB1
   have hT1:=HT.out.below hB1
   have hgl:=(hT1.free 0).2
   have hf0:=(hT1.free (i * 2)).1
   have hf1:=(hT1.free (i * 2 + 1)).1
   have e0:=(hB1.cell (p:=⟨g,i * 2,none⟩) hfr.2).trans c0
   have e1:=(hB1.cell (p:=⟨g,i * 2 + 1,none⟩) hfr.2).trans c1
   clear hB1 hT1
   go_wp2_with fail
   go_ret
   exact PostT.put (x:=(x1,x2)) HT.out HB1.out HI.out
  | false=>
   rw [if_neg (by decide),if_neg (by decide)]
   go_enter Tryz.func166,Tryz.ntmps166
   go_wp2_with fail
   refine HA.out.mono ?_
   rintro e w1 ⟨rfl,rfl⟩
   go_wp2_with fail
   refine HM.out.mono ?_
   rintro e w1 ⟨rfl,hB1⟩
   have HB1:=Lib.hid hB1
   clear hB1
   go_wp2_with fail
   go_ret
   exact PostT.same HT.out (below_alloc HB1.out _)
 ·rw [if_neg hp,if_neg hp]
  have HA:=Lib.hid (at_out t tv l p w h hp)
  have HT:=Lib.hid h
  clear h hp
  go_enter Tryz.func166,Tryz.ntmps166
  go_wp2_with fail
  refine HA.out.mono ?_
  rintro e w1 ⟨rfl,rfl⟩
  go_wp2_with fail
  go_ret
  exact PostT.same HT.out (Below.refl _ _)
set_option maxHeartbeats 2000000 in
theorem turn_stop (t:Nat) (tv:Value) (l:List Pr) (p:Int) (w:World) (h:Tb w t tv l):Calls Tryz.prog 166 #[.pointer (some ⟨t,0,none⟩),.int .i64 p,.func (.func 239) #[] #[]] w (PostT t tv (turnL l p stopX (fun s wh=>stopB s)) (turnF l p (fun s wh=>stopB s)) w):=by
 unfold turnL turnF
 by_cases hp:0 ≤ p ∧ p < l.length
 ·rw [if_pos hp,if_pos hp]
  obtain ⟨i,rfl⟩:=Int.eq_ofNat_of_zero_le hp.1
  rw [Int.toNat_natCast]
  have hi:i < l.length:=by omega
  obtain ⟨a,cap,rfl⟩:=h.slice
  obtain ⟨hz,g,rfl,c0,c1⟩:=h.at i hi
  clear hz
  have HA:=Lib.hid (at_in t g _ cap l i w h hi)
  have hfr:=h.free (i * 2)
  have hfr1:=h.free (i * 2 + 1)
  have HT:=Lib.hid h
  have HI:=Lib.hid hi
  obtain ⟨s,hs⟩:∃ s,(l[i]?.getD pz).1 = s:=⟨_,rfl⟩
  obtain ⟨wh,hwh⟩:∃ wh,(l[i]?.getD pz).2 = wh:=⟨_,rfl⟩
  rw [hs,hwh]
  rw [hs] at c0
  rw [hwh] at c1
  have HM:=Lib.hid (stop_may s wh w)
  clear hp hi h hs hwh
  obtain ⟨bb,HBB⟩:∃ bb,Hid ((fun s wh=>stopB s) s wh = bb):=⟨_,rfl⟩
  obtain ⟨x1,x2,HXX⟩:∃ x1 x2:Int,Hid ((stopX:Int → Int → Pr) s wh = (x1,x2)):=⟨_,_,rfl⟩
  rw [HBB.out,HXX.out]
  rw [show MayP _ _ _ = MayP (x1,x2) bb w from by rw [← HBB.out,← HXX.out]] at HM
  obtain ⟨n,HL⟩:∃ n,Hid (l.length = n):=⟨_,rfl⟩
  rw [HL.out] at HT ⊢
  cases bb with
  | true=>
   rw [if_pos rfl,if_pos rfl]
   go_enter Tryz.func166,Tryz.ntmps166
   go_wp2_with fail
   refine HA.out.mono ?_
   rintro e w1 ⟨rfl,rfl⟩
   go_wp2_with fail
   refine HM.out.mono ?_
   rintro e w1 ⟨rfl,hB1⟩
   have HB1:=Lib.hid hB1
   have hT1:=HT.out.below hB1
   have hgl:=(hT1.free 0).2
   have hf0:=(hT1.free (i * 2)).1
   have hf1:=(hT1.free (i * 2 + 1)).1
   have e0:=(hB1.cell (p:=⟨g,i * 2,none⟩) hfr.2).trans c0
   have e1:=(hB1.cell (p:=⟨g,i * 2 + 1,none⟩) hfr.2).trans c1
   clear hB1 hT1
   go_wp2_with fail
   go_ret
   exact PostT.put (x:=(x1,x2)) HT.out HB1.out HI.out
  | false=>
   rw [if_neg (by decide),if_neg (by decide)]
   go_enter Tryz.func166,Tryz.ntmps166
   go_wp2_with fail
   refine HA.out.mono ?_
   rintro e w1 ⟨rfl,rfl⟩
   go_wp2_with fail
   refine HM.out.mono ?_
   rintro e w1 ⟨rfl,hB1⟩
   have HB1:=Lib.hid hB1
   clear hB1
   go_wp2_with fail
   go_ret
   exact PostT.same HT.out (below_alloc HB1.out _)
 ·rw [if_neg hp,if_neg hp]
  have HA:=Lib.hid (at_out t tv l p w h hp)
  have HT:=Lib.hid h
  clear h hp
  go_enter Tryz.func166,Tryz.ntmps166
  go_wp2_with fail
  refine HA.out.mono ?_
  rintro e w1 ⟨rfl,rfl⟩
  go_wp2_with fail
  go_ret
  exact PostT.same HT.out (Below.refl _ _)
set_option maxHeartbeats 2000000 in
theorem turn_go (t:Nat) (tv:Value) (l:List Pr) (p:Int) (w:World) (h:Tb w t tv l):Calls Tryz.prog 166 #[.pointer (some ⟨t,0,none⟩),.int .i64 p,.func (.func 336) #[] #[]] w (PostT t tv (turnL l p (fun s wh=>goX wh) (fun s wh=>s == 3)) (turnF l p (fun s wh=>s == 3)) w):=by
 unfold turnL turnF
 by_cases hp:0 ≤ p ∧ p < l.length
 ·rw [if_pos hp,if_pos hp]
  obtain ⟨i,rfl⟩:=Int.eq_ofNat_of_zero_le hp.1
  rw [Int.toNat_natCast]
  have hi:i < l.length:=by omega
  obtain ⟨a,cap,rfl⟩:=h.slice
  obtain ⟨hz,g,rfl,c0,c1⟩:=h.at i hi
  clear hz
  have HA:=Lib.hid (at_in t g _ cap l i w h hi)
  have hfr:=h.free (i * 2)
  have hfr1:=h.free (i * 2 + 1)
  have HT:=Lib.hid h
  have HI:=Lib.hid hi
  obtain ⟨s,hs⟩:∃ s,(l[i]?.getD pz).1 = s:=⟨_,rfl⟩
  obtain ⟨wh,hwh⟩:∃ wh,(l[i]?.getD pz).2 = wh:=⟨_,rfl⟩
  rw [hs,hwh]
  rw [hs] at c0
  rw [hwh] at c1
  have HM:=Lib.hid (go_may s wh w)
  clear hp hi h hs hwh
  obtain ⟨bb,HBB⟩:∃ bb,Hid ((fun s wh=>s == 3) s wh = bb):=⟨_,rfl⟩
  obtain ⟨x1,x2,HXX⟩:∃ x1 x2:Int,Hid (((fun s wh=>goX wh):Int → Int → Pr) s wh = (x1,x2)):=⟨_,_,rfl⟩
  rw [HBB.out,HXX.out]
  rw [show MayP _ _ _ = MayP (x1,x2) bb w from by rw [← HBB.out,← HXX.out]] at HM
  obtain ⟨n,HL⟩:∃ n,Hid (l.length = n):=⟨_,rfl⟩
  rw [HL.out] at HT ⊢
  cases bb with
  | true=>
   rw [if_pos rfl,if_pos rfl]
   go_enter Tryz.func166,Tryz.ntmps166
   go_wp2_with fail
   refine HA.out.mono ?_
   rintro e w1 ⟨rfl,rfl⟩
   go_wp2_with fail
   refine HM.out.mono ?_
   rintro e w1 ⟨rfl,hB1⟩
   have HB1:=Lib.hid hB1
   have hT1:=HT.out.below hB1
   have hgl:=(hT1.free 0).2
   have hf0:=(hT1.free (i * 2)).1
   have hf1:=(hT1.free (i * 2 + 1)).1
   have e0:=(hB1.cell (p:=⟨g,i * 2,none⟩) hfr.2).trans c0
   have e1:=(hB1.cell (p:=⟨g,i * 2 + 1,none⟩) hfr.2).trans c1
   clear hB1 hT1
   go_wp2_with fail
   go_ret
   exact PostT.put (x:=(x1,x2)) HT.out HB1.out HI.out
  | false=>
   rw [if_neg (by decide),if_neg (by decide)]
   go_enter Tryz.func166,Tryz.ntmps166
   go_wp2_with fail
   refine HA.out.mono ?_
   rintro e w1 ⟨rfl,rfl⟩
   go_wp2_with fail
   refine HM.out.mono ?_
   rintro e w1 ⟨rfl,hB1⟩
   have HB1:=Lib.hid hB1
   clear hB1
   go_wp2_with fail
   go_ret
   exact PostT.same HT.out (below_alloc HB1.out _)
 ·rw [if_neg hp,if_neg hp]
  have HA:=Lib.hid (at_out t tv l p w h hp)
  have HT:=Lib.hid h
  clear h hp
  go_enter Tryz.func166,Tryz.ntmps166
  go_wp2_with fail
  refine HA.out.mono ?_
  rintro e w1 ⟨rfl,rfl⟩
  go_wp2_with fail
  go_ret
  exact PostT.same HT.out (Below.refl _ _)
set_option maxHeartbeats 2000000 in
theorem turn_take (t:Nat) (tv:Value) (l:List Pr) (p:Int) (b:Nat) (m:Int) (w:World) (h:Tb w t tv l) (hb:Blk w b #[.int .i64 m] 3):Calls Tryz.prog 166 #[.pointer (some ⟨t,0,none⟩),.int .i64 p,.func (.func 113) #[] #[.pointer (some ⟨b,0,none⟩)]] w (PostT t tv (turnL l p (fun s wh=>(1,m)) (fun s wh=>s == 0)) (turnF l p (fun s wh=>s == 0)) w):=by
 unfold turnL turnF
 by_cases hp:0 ≤ p ∧ p < l.length
 ·rw [if_pos hp,if_pos hp]
  obtain ⟨i,rfl⟩:=Int.eq_ofNat_of_zero_le hp.1
  rw [Int.toNat_natCast]
  have hi:i < l.length:=by omega
  obtain ⟨a,cap,rfl⟩:=h.slice
  obtain ⟨hz,g,rfl,c0,c1⟩:=h.at i hi
  clear hz
  have HA:=Lib.hid (at_in t g _ cap l i w h hi)
  have hfr:=h.free (i * 2)
  have hfr1:=h.free (i * 2 + 1)
  have HT:=Lib.hid h
  have HI:=Lib.hid hi
  obtain ⟨s,hs⟩:∃ s,(l[i]?.getD pz).1 = s:=⟨_,rfl⟩
  obtain ⟨wh,hwh⟩:∃ wh,(l[i]?.getD pz).2 = wh:=⟨_,rfl⟩
  rw [hs,hwh]
  rw [hs] at c0
  rw [hwh] at c1
  have HM:=Lib.hid (take_may b m s wh w hb)
  clear hp hi h hs hwh hb
  obtain ⟨bb,HBB⟩:∃ bb,Hid ((fun s wh=>s == 0) s wh = bb):=⟨_,rfl⟩
  obtain ⟨x1,x2,HXX⟩:∃ x1 x2:Int,Hid (((fun s wh=>(1,m)):Int → Int → Pr) s wh = (x1,x2)):=⟨_,_,rfl⟩
  rw [HBB.out,HXX.out]
  rw [show MayP _ _ _ = MayP (x1,x2) bb w from by rw [← HBB.out,← HXX.out]] at HM
  obtain ⟨n,HL⟩:∃ n,Hid (l.length = n):=⟨_,rfl⟩
  rw [HL.out] at HT ⊢
  cases bb with
  | true=>
   rw [if_pos rfl,if_pos rfl]
   go_enter Tryz.func166,Tryz.ntmps166
   go_wp2_with fail
   refine HA.out.mono ?_
   rintro e w1 ⟨rfl,rfl⟩
   go_wp2_with fail
   refine HM.out.mono ?_
   rintro e w1 ⟨rfl,hB1⟩
   have HB1:=Lib.hid hB1
   have hT1:=HT.out.below hB1
   have hgl:=(hT1.free 0).2
   have hf0:=(hT1.free (i * 2)).1
   have hf1:=(hT1.free (i * 2 + 1)).1
   have e0:=(hB1.cell (p:=⟨g,i * 2,none⟩) hfr.2).trans c0
   have e1:=(hB1.cell (p:=⟨g,i * 2 + 1,none⟩) hfr.2).trans c1
   clear hB1 hT1
   go_wp2_with fail
   go_ret
   exact PostT.put (x:=(x1,x2)) HT.out HB1.out HI.out
  | false=>
   rw [if_neg (by decide),if_neg (by decide)]
   go_enter Tryz.func166,Tryz.ntmps166
   go_wp2_with fail
   refine HA.out.mono ?_
   rintro e w1 ⟨rfl,rfl⟩
   go_wp2_with fail
   refine HM.out.mono ?_
   rintro e w1 ⟨rfl,hB1⟩
   have HB1:=Lib.hid hB1
   clear hB1
   go_wp2_with fail
   go_ret
   exact PostT.same HT.out (below_alloc HB1.out _)
 ·rw [if_neg hp,if_neg hp]
  have HA:=Lib.hid (at_out t tv l p w h hp)
  have HT:=Lib.hid h
  clear h hp hb
  go_enter Tryz.func166,Tryz.ntmps166
  go_wp2_with fail
  refine HA.out.mono ?_
  rintro e w1 ⟨rfl,rfl⟩
  go_wp2_with fail
  go_ret
  exact PostT.same HT.out (Below.refl _ _)
def mBad (m:Int):Prop:=m < 0 ∨ 64 ≤ m
instance (m:Int):Decidable (mBad m):=by unfold mBad;infer_instance
def byL (l:List Pr) (p m:Int) (X:Int → Int → Pr) (B:Int → Int → Bool):List Pr:=if (0 ≤ p ∧ p < l.length) ∧ mBad m then l else turnL l p X B
def byF (l:List Pr) (p m:Int) (B:Int → Int → Bool):Int:=if (0 ≤ p ∧ p < l.length) ∧ mBad m then 2 else turnF l p B
set_option maxHeartbeats 2000000 in
theorem by_take (t:Nat) (tv:Value) (l:List Pr) (p:Int) (b:Nat) (m:Int) (w:World) (h:Tb w t tv l) (hb:Blk w b #[.int .i64 m] 3):Calls Tryz.prog 112 #[.pointer (some ⟨t,0,none⟩),.int .i64 p,.int .i64 m,.func (.func 113) #[] #[.pointer (some ⟨b,0,none⟩)]] w (PostT t tv (byL l p m (fun s wh=>(1,m)) (fun s wh=>s == 0)) (byF l p m (fun s wh=>s == 0)) w):=by
 have HTu:=Lib.hid (turn_take t tv l p b m w h hb)
 have HT:=Lib.hid h
 unfold byL byF
 by_cases hp:0 ≤ p ∧ p < l.length
 ·obtain ⟨i,rfl⟩:=Int.eq_ofNat_of_zero_le hp.1
  have hi:i < l.length:=by omega
  obtain ⟨a,cap,rfl⟩:=h.slice
  obtain ⟨hz,g,rfl,c0,c1⟩:=h.at i hi
  have HA:=Lib.hid (at_in t g _ cap l i w h hi)
  clear hz c0 c1 h hb hi
  by_cases hm:mBad m
  ·rw [if_pos ⟨hp,hm⟩,if_pos ⟨hp,hm⟩]
   clear hp HTu
   by_cases hm0:m < 0
   ·have hd0:decide (m < 0) = true:=by simpa using hm0
    clear hm
    go_enter Tryz.func112,Tryz.ntmps112
    go_wp2_with fail
    refine HA.out.mono ?_
    rintro e w1 ⟨rfl,rfl⟩
    go_wp2_with fail
    go_ret
    exact PostT.same HT.out (Below.refl _ _)
   ·have hd0:decide (m < 0) = false:=by simpa using hm0
    have hd1:decide (64 ≤ m) = true:=by unfold mBad at hm;simp;omega
    clear hm hm0
    go_enter Tryz.func112,Tryz.ntmps112
    go_wp2_with fail
    refine HA.out.mono ?_
    rintro e w1 ⟨rfl,rfl⟩
    go_wp2_with fail
    go_ret
    exact PostT.same HT.out (Below.refl _ _)
  ·rw [if_neg (fun h=>hm h.2),if_neg (fun h=>hm h.2)]
   have hd0:decide (m < 0) = false:=by unfold mBad at hm;simp;omega
   have hd1:decide (64 ≤ m) = false:=by unfold mBad at hm;simp;omega
   clear hp hm
   go_enter Tryz.func112,Tryz.ntmps112
   go_wp2_with fail
   refine HA.out.mono ?_
   rintro e w1 ⟨rfl,rfl⟩
   go_wp2_with fail
   refine HTu.out.mono ?_
   rintro e w1 ⟨rfl,hP⟩
   have HP:=Lib.hid hP
   clear hP
   go_wp2_with fail
   go_ret
   exact ⟨rfl,HP.out⟩
 ·rw [if_neg (fun h=>hp h.1),if_neg (fun h=>hp h.1)]
  have HA:=Lib.hid (at_out t tv l p w h hp)
  clear h hp hb
  go_enter Tryz.func112,Tryz.ntmps112
  go_wp2_with fail
  refine HA.out.mono ?_
  rintro e w1 ⟨rfl,rfl⟩
  go_wp2_with fail
  refine HTu.out.mono ?_
  rintro e w1 ⟨rfl,hP⟩
  have HP:=Lib.hid hP
  clear hP
  go_wp2_with fail
  go_ret
  exact ⟨rfl,HP.out⟩
theorem enter_any (t:Nat) (tv:Value) (l:List Pr) (p:Int) (w:World) (h:Tb w t tv l):Calls Tryz.prog 301 #[.pointer (some ⟨t,0,none⟩),.int .i64 p] w (PostT t tv (turnL l p (fun s wh=>(2,wh)) (fun s wh=>s == 1)) (turnF l p (fun s wh=>s == 1)) w):=by
 have HTu:=Lib.hid (turn_enter t tv l p w h)
 clear h
 go_enter Tryz.func301,Tryz.ntmps301
 go_wp2_with fail
 refine HTu.out.mono ?_
 rintro e w1 ⟨rfl,hP⟩
 have HP:=Lib.hid hP
 clear hP
 go_wp2_with fail
 go_ret
 exact ⟨rfl,HP.out⟩
theorem release_any (t:Nat) (tv:Value) (l:List Pr) (p:Int) (w:World) (h:Tb w t tv l):Calls Tryz.prog 172 #[.pointer (some ⟨t,0,none⟩),.int .i64 p] w (PostT t tv (turnL l p (fun s wh=>(0, -1)) (fun s wh=>s == 1)) (turnF l p (fun s wh=>s == 1)) w):=by
 have HTu:=Lib.hid (turn_release t tv l p w h)
 clear h
 go_enter Tryz.func172,Tryz.ntmps172
 go_wp2_with fail
 refine HTu.out.mono ?_
 rintro e w1 ⟨rfl,hP⟩
 have HP:=Lib.hid hP
 clear hP
 go_wp2_with fail
 go_ret
 exact ⟨rfl,HP.out⟩
theorem stop_any (t:Nat) (tv:Value) (l:List Pr) (p:Int) (w:World) (h:Tb w t tv l):Calls Tryz.prog 173 #[.pointer (some ⟨t,0,none⟩),.int .i64 p] w (PostT t tv (turnL l p stopX (fun s wh=>stopB s)) (turnF l p (fun s wh=>stopB s)) w):=by
 have HTu:=Lib.hid (turn_stop t tv l p w h)
 clear h
 go_enter Tryz.func173,Tryz.ntmps173
 go_wp2_with fail
 refine HTu.out.mono ?_
 rintro e w1 ⟨rfl,hP⟩
 have HP:=Lib.hid hP
 clear hP
 go_wp2_with fail
 go_ret
 exact ⟨rfl,HP.out⟩
theorem go_any (t:Nat) (tv:Value) (l:List Pr) (p:Int) (w:World) (h:Tb w t tv l):Calls Tryz.prog 299 #[.pointer (some ⟨t,0,none⟩),.int .i64 p] w (PostT t tv (turnL l p (fun s wh=>goX wh) (fun s wh=>s == 3)) (turnF l p (fun s wh=>s == 3)) w):=by
 have HTu:=Lib.hid (turn_go t tv l p w h)
 clear h
 go_enter Tryz.func299,Tryz.ntmps299
 go_wp2_with fail
 refine HTu.out.mono ?_
 rintro e w1 ⟨rfl,hP⟩
 have HP:=Lib.hid hP
 clear hP
 go_wp2_with fail
 go_ret
 exact ⟨rfl,HP.out⟩
theorem post_after {t:Nat} {tv:Value} {l':List Pr} {w w1 w':World} (hb:Below w.heap.size w w1) (h:∃ tv',Tb w' t tv' l' ∧ Only (Tf t tv) w1 w' ∧ ∀ j,Tf t tv' j → Tf t tv j ∨ w1.heap.size ≤ j):∃ tv',Tb w' t tv' l' ∧ Only (Tf t tv) w w' ∧ ∀ j,Tf t tv' j → Tf t tv j ∨ w.heap.size ≤ j:=by
 obtain ⟨tv',h1,h2,h3⟩:=h
 exact ⟨tv',h1,((Only.refl (Tf t tv) w).below hb).andThen h2 (fun j _ hj=>hj),fun j hj=>(h3 j hj).imp id (fun x=>Nat.le_trans hb.size x)⟩
theorem take_any (t:Nat) (tv:Value) (l:List Pr) (p m:Int) (w:World) (h:Tb w t tv l):Calls Tryz.prog 49 #[.pointer (some ⟨t,0,none⟩),.int .i64 p,.int .i64 m] w (PostT t tv (byL l p m (fun s wh=>(1,m)) (fun s wh=>s == 0)) (byF l p m (fun s wh=>s == 0)) w):=by
 have HB:=Lib.hid (by_take t tv l p w.heap.size m (w.alloc (.cells #[.int .i64 m] 3)) (h.below (below_alloc (Below.refl _ _) _)) (Blk.new w _ 3))
 clear h
 go_enter Tryz.func49,Tryz.ntmps49
 go_wp2_with fail
 refine HB.out.mono ?_
 rintro e w1 ⟨rfl,hP⟩
 have HP:=Lib.hid (post_after (below_alloc (Below.refl _ _) _) hP)
 clear hP
 go_wp2_with fail
 go_ret
 exact ⟨rfl,HP.out⟩
end Go.Proofs.YtgadhchejmlfjaaGreatDoor.Pstat
end
section
namespace Go.Proofs.YtgadhchejmlfjaaGreatDoor.Pstat
open Go.RowKit Go.Esc
theorem info201:(Tryz.prog.info? 201).map (fun i=>(i.zero,i.size,i.bytes)) = some (some (.agg #[.int .i64 0,.int .i64 0]),2,16):=by kernel_rfl
theorem new2 (w:World) (x y:Value) (t:TypeId):∀ (j:Nat) (u:Value),[x,y][j]? = some u → (w.alloc (.cells #[x,y] t)).cell? ((⟨w.heap.size,0,none⟩:Addr).add j) = some u:=by
 intro j u hj
 have hj0:j < 2:=by have:=(List.getElem?_eq_some_iff.1 hj).1;simpa using this
 rw [Go.WideShapes.add_plain,(Blk.new w #[x,y] t).cell,Nat.zero_add]
 simpa using hj
theorem one2 (a b:Int):∀ x ∈ ([.int .i64 a,.int .i64 b]:List Value),x.oneCell' = true:=by
 intro x hx
 simp at hx
 rcases hx with rfl | rfl <;> rfl
theorem Tb.more {w w':World} {t:Nat} {tv tv':Value} {l:List Pr} {a b:Int} {tmp:Obj} (h:Tb w t tv l) (hA:AppdV (w.alloc tmp) (t + 1) 201 2 tv l.length (ys l) [.int .i64 a,.int .i64 b] tv' w') :
  Blk w' t #[tv] 199 ∧ Tb (w'.setCell ⟨t,0,none⟩ tv') t tv' (l ++ [(a,b)]) ∧ Only (Tf t tv) w (w'.setCell ⟨t,0,none⟩ tv') ∧ ∀ j,Tf t tv' j → Tf t tv j ∨ w.heap.size ≤ j:=by
 obtain ⟨ho,hg,hx⟩:=hA
 have hb:Blk w' t #[tv] 199:=(h.blk.alloc tmp).kept hg (fun e=>h.off e.symm)
 have hne:tv'.ownBlock ≠ some t:=fun e=>by have:=(World.ownsRow.lt ho t e).1;omega
 refine ⟨hb,⟨hb.set 0 tv',?_⟩,(((Only.refl (Tf t tv) w).alloc tmp).grown hg (fun k e=>.inr (.inr e))).set (.inr (.inl rfl)) _ _,fun j hj=>?_⟩
 ·have:=World.ownsRow.kept ho (grown_set w' t 0 tv') (.inr hne)
  rw [List.length_append,ys_append]
  exact this
 ·rcases hj with hj | hj
  ·exact .inl (.inl hj)
  ·rcases hx j hj with h' | h'
   ·exact .inl (.inr h')
   ·exact .inr (by simp at h';omega)
def NewT (m:Nat) (w:World) (e:Ending) (w':World):Prop:=e = .returned (.pointer (some ⟨w.heap.size,0,none⟩)) ∧ ∃ tv,Tb w' w.heap.size tv (List.replicate m (0, -1)) ∧ Below w.heap.size w w'
set_option maxHeartbeats 2000000 in
theorem new_good (m:Nat) (w:World) (h1:1 ≤ m) (h2:m ≤ 256):Calls Tryz.prog 43 #[.int .i64 m] w (NewT m w):=by
 have HI:=Lib.hid (is_any m w)
 rw [decide_eq_true ⟨by omega,by omega⟩] at HI
 have HT0:Hid (Tb (w.alloc (.cells #[.slice none 0 0] 199)) w.heap.size (.slice none 0 0) []):=⟨Blk.new w _ 199,World.ownsRow_nil _ _ 201 2⟩
 go_enter Tryz.func43,Tryz.ntmps43
 go_wp2_with fail
 refine HI.out.mono ?_
 rintro e w1 ⟨rfl,rfl⟩
 go_wp2_with fail
 go_loopw [10] (fun i wr=>∃ (k:Nat) (tv:Value),k ≤ m ∧ i = .int .i64 k ∧ Tb wr w.heap.size tv (List.replicate k (0, -1)) ∧ Below w.heap.size w wr) (fun i _=>m - (intOf i).toNat)
 case atStart=>exact ⟨0,_,Nat.zero_le _,rfl,HT0.out,below_alloc (Below.refl _ _) _⟩
 case round=>
  obtain ⟨k,tv,hk,rfl,hT,hB⟩:=hrel
  have c0:=hT.blk.cell 0
  have hbl:=hT.blk.lt
  simp only [List.getElem?_toArray,List.getElem?_cons_zero] at c0
  have HT:=Lib.hid hT
  have HB:=Lib.hid hB
  clear hT hB HT0
  by_cases hlt:k < m
  ·have hd:decide (k < m) = true:=by simpa using hlt
   have HLen:Hid ((List.replicate k ((0, -1):Pr)).length = k):=List.length_replicate
   have HOwn:Hid (Rdv (wr.alloc (.cells #[.int .i64 0,.int .i64 (-1)] 201)) (w.heap.size + 1) 201 2 tv (List.replicate k ((0, -1):Pr)).length (ys (List.replicate k (0, -1)))):=.inl (rowv_below HT.out.own (below_alloc (Below.refl _ _) _))
   go_wp2_with (at_builtin;refine appV Tryz.underlying197 info201 rfl (by decide) (by decide) (w.heap.size + 1) _ rfl _ _ rfl tv _ _ ⟨wr.heap.size,0,none⟩ 1 [.int .i64 0,.int .i64 (-1)] rfl rfl HOwn.out rfl (new2 wr _ _ 201) (one2 _ _) (by simp;omega) (by rw [HLen.out];omega) ?_;intro v' w' hA;obtain ⟨g',cap',rfl⟩:=hA.some;obtain ⟨hb',hT',hO',hG'⟩:=HT.out.more hA;have q0:=hb'.cell 0;have qf:=hb'.free 0;have hql:=hb'.lt;simp only [List.getElem?_toArray,List.getElem?_cons_zero] at q0;rw [HLen.out] at hT' hO';have HT':=Lib.hid hT';have HO':=Lib.hid hO';clear hA hb' hT' hO' hG')
   go_roundw
   case rel=>
    refine ⟨k + 1,.slice (some ⟨g',0,none⟩) (k + 1) cap',by omega,by go_num,?_,?_⟩
    ·rw [List.replicate_succ'];exact HT'.out
    ·exact below_only HB.out HO'.out (fun j hj=>HT.out.ge hj)
   case measure=>simp [intOf];omega
  ·have hd:decide (k < m) = false:=by simpa using hlt
   obtain rfl:k = m:=by omega
   go_wp2
   go_ret
   exact ⟨rfl,tv,HT.out,HB.out⟩
end Go.Proofs.YtgadhchejmlfjaaGreatDoor.Pstat
end
section
namespace Go.Proofs.YtgadhchejmlfjaaGreatDoor.Scr
open Go.RowKit Go.Esc
def es (l:List (Int × Int × Int)):List Value:=l.flatMap fun x=>[.int .i64 x.1,.int .i64 x.2.1,.int .i64 x.2.2]
theorem es_snoc (l:List (Int × Int × Int)) (a b c:Int):es (l ++ [(a,b,c)]) = es l ++ [.int .i64 a,.int .i64 b,.int .i64 c]:=by simp [es]
def robinL (n:Nat) (d:Int):List (Int × Int × Int):=(List.range n).map fun (i:Nat)=>((i:Int),d,(i:Int))
theorem robin_succ (n:Nat) (d:Int):robinL (n + 1) d = robinL n d ++ [((n:Int),d,(n:Int))]:=by simp [robinL,List.range_succ]
theorem info36:(Tryz.prog.info? 36).map (fun i=>(i.zero,i.size,i.bytes)) = some (some (.agg #[.int .i64 0,.int .i64 0,.int .i64 0]),3,24):=by kernel_rfl
theorem new3 (w:World) (x y z:Value) (t:TypeId):∀ (j:Nat) (u:Value),[x,y,z][j]? = some u → (w.alloc (.cells #[x,y,z] t)).cell? ((⟨w.heap.size,0,none⟩:Addr).add j) = some u:=by
 have h:=Blk.new w #[x,y,z] t
 intro j u hu
 rw [show ((⟨w.heap.size,0,none⟩:Addr).add j) = ⟨w.heap.size,j,none⟩ from by rw [Go.WideShapes.add_plain,Nat.zero_add]]
 rw [h.cell j,← hu]
 simp
theorem one3 (a b c:Int):∀ x ∈ ([.int .i64 a,.int .i64 b,.int .i64 c]:List Value),x.oneCell' = true:=by
 intro x hx
 simp at hx
 rcases hx with rfl | rfl | rfl <;> rfl
set_option maxHeartbeats 2000000 in
theorem robin_any (n:Nat) (d:Int) (w:World) (hn:n ≤ 65536):Calls Tryz.prog 33 #[.int .i64 n,.int .i64 d] w fun e w'=>∃ v,e = .returned v ∧ w'.ownsRow w.heap.size 36 3 v n (es (robinL n d)) ∧ Below w.heap.size w w':=by
 have h1:¬ ((65536:Int) < (n:Int)):=by omega
 have h2:¬ ((n:Int) < 0):=by omega
 have hL0:Hid (w.heap.size = w.heap.size):=rfl
 go_enter Tryz.func33,Tryz.ntmps33
 go_wp2
 clear h1 h2 hL0
 go_loopw [4,9] (fun t4 t9 wr=>∃ k:Nat,k ≤ n ∧ t9 = .int .i64 k ∧ wr.ownsRow w.heap.size 36 3 t4 k (es (robinL k d)) ∧ Below w.heap.size w wr) (fun _ t _=>n - (intOf t).toNat)
 case atStart=>exact ⟨0,Nat.zero_le _,rfl,World.ownsRow_nil w w.heap.size 36 3,Below.refl _ _⟩
 case round v _ _=>
  obtain ⟨k,hk,rfl,hO,hB⟩:=hrel
  by_cases hlt:k < n
  ·have hd:(k:Int) < (n:Int):=by omega
   have HOwn:Hid (Rdv (wr.alloc (.cells #[.int .i64 k,.int .i64 d,.int .i64 k] 36)) w.heap.size 36 3 _ k (es (robinL k d))):=.inl (rowv_below hO (below_alloc (Below.refl _ _) _))
   have HO:=Lib.hid hO
   have HB:=Lib.hid hB
   clear hO hB
   go_wp2_with (at_builtin;refine appV Tryz.underlying52 info36 rfl (by decide) (by decide) w.heap.size _ rfl _ _ rfl _ _ _ ⟨wr.heap.size,0,none⟩ 1 [.int .i64 k,.int .i64 d,.int .i64 k] rfl rfl HOwn.out rfl (new3 wr _ _ _ 36) (one3 _ _ _) (by have:=HB.out.size;simp;omega) (by omega) ?_;intro v' w' hA;have HA:=Lib.hid hA;clear hA)
   go_roundw
   case rel=>
    refine ⟨k + 1,by omega,by go_num,?_,?_⟩
    ·rw [robin_succ,es_snoc];exact HA.out.1
    ·exact below_grown (below_alloc HB.out _) HA.out.2.1 (fun j hj=>(World.ownsRow.lt HO.out j hj).1)
   case measure=>simp [intOf];omega
  ·obtain rfl:k = n:=by omega
   have HO:=Lib.hid hO
   have HB:=Lib.hid hB
   clear hO hB hlt
   go_wp2
   go_ret
   exact ⟨_,rfl,HO.out,HB.out⟩
end Go.Proofs.YtgadhchejmlfjaaGreatDoor.Scr
end
