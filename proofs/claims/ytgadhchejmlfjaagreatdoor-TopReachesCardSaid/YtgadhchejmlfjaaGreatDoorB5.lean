/- Parts of the proof of TopReaches. -/
import Derived.Test.YtgadhchejmlfjaaGreatDoorB2
import Derived.RegionTactic
import Derived.BigRegion
import Derived.ChangeAlike
import Derived.Deep.RegionHeld3
import Derived.Deep.LoopGhost
set_option linter.unusedVariables false
set_option maxRecDepth 20000
section
namespace Go.Proofs.YtgadhchejmlfjaaGreatDoor.Sig
open Go.RowKit Go.Esc
open Go.Proofs.YtgadhchejmlfjaaGreatDoor.Pstat (Pr ys pz)
structure Bx (w:World) (b:Nat) (v:Value) (l:List Pr) (F:Nat → Int):Prop where
 cs:Cells w b 65 213 (fun i=>if i = 0 then v else .int .i64 (F (i - 1)))
 row:w.ownsRow 0 222 2 v l.length (ys l)
 ne:v.ownBlock ≠ some b
 at_:∀ i,i < l.length → 0 ≤ (l[i]?.getD pz).1 ∧ (l[i]?.getD pz).1 < 64 ∧ F (l[i]?.getD pz).1.toNat = i
 idx:∀ k,k < 64 → F k = -1 ∨ ∃ i:Nat,F k = i ∧ i < l.length ∧ (l[i]?.getD pz).1 = k
def Bf (b:Nat) (v:Value) (j:Nat):Prop:=j = b ∨ v.ownBlock = some j
theorem len_any (b:Nat) (v:Value) (l:List Pr) (F:Nat → Int) (w:World) (h:Bx w b v l F):Calls Tryz.prog 398 #[.pointer (some ⟨b,0,none⟩)] w fun e w'=>e = .returned (.int .i64 l.length) ∧ w = w':=by
 have c0:=h.cs.cell (i:=0) (by decide)
 simp only [if_true] at c0
 obtain ⟨a,cap,rfl⟩:∃ a cap,v = .slice a l.length cap:=by rcases rowv_open h.row with ⟨rfl,h0⟩ | ⟨g,cap,rfl,_⟩;exact ⟨none,0,by rw [h0]⟩;exact ⟨_,cap,rfl⟩
 clear h
 go_enter Tryz.func398,Tryz.ntmps398
 go_wp2
 go_ret
 exact ⟨rfl,rfl⟩
theorem Bx.cell {w:World} {b g n cap:Nat} {l:List Pr} {F:Nat → Int} (h:Bx w b (.slice (some ⟨g,0,none⟩) n cap) l F) (i:Nat) (hi:i < l.length) :
  w.cell? ⟨g,i * 2,none⟩ = some (.int .i64 (l[i]?.getD pz).1) ∧ w.cell? ⟨g,i * 2 + 1,none⟩ = some (.int .i64 (l[i]?.getD pz).2) ∧ g < w.heap.size ∧ n = l.length:=by
 rcases rowv_open h.row with ⟨h0,_⟩ | ⟨g',cap',he,_,hg,hc,hcell⟩
 ·cases h0
 ·cases he
  refine ⟨?_,?_,hg,rfl⟩
  ·rw [hcell _ (by omega),(Pstat.ys_at l i hi).1];rfl
  ·rw [hcell _ (by omega),(Pstat.ys_at l i hi).2];rfl
def cmpZ (a b:Int):Int:=if a < b then -1 else if b < a then 1 else 0
theorem cmp64 (a b:Int) (w:World):Calls Tryz.prog 407 #[.int .i64 a,.int .i64 b] w fun e w'=>e = .returned (.int .i64 (cmpZ a b)) ∧ w = w':=by
 unfold cmpZ
 have na:(a != a) = false:=by simp
 have nb:(b != b) = false:=by simp
 by_cases h1:a < b
 ·rw [if_pos h1]
  have d1:decide (a < b) = true:=by simpa using h1
  clear h1
  go_enter Tryz.func407,Tryz.ntmps407
  go_wp2
  go_ret
  exact ⟨rfl,rfl⟩
 ·rw [if_neg h1]
  have d1:decide (a < b) = false:=by simpa using h1
  by_cases h2:b < a
  ·rw [if_pos h2]
   have d2:decide (b < a) = true:=by simpa using h2
   clear h1 h2
   go_enter Tryz.func407,Tryz.ntmps407
   go_wp2
   go_ret
   exact ⟨rfl,rfl⟩
  ·rw [if_neg h2]
   have d2:decide (b < a) = false:=by simpa using h2
   clear h1 h2
   go_enter Tryz.func407,Tryz.ntmps407
   go_wp2
   go_ret
   exact ⟨rfl,rfl⟩
theorem cmpInt (a b:Int) (w:World):Calls Tryz.prog 408 #[.int .i64 a,.int .i64 b] w fun e w'=>e = .returned (.int .i64 (cmpZ a b)) ∧ w = w':=by
 unfold cmpZ
 have na:(a != a) = false:=by simp
 have nb:(b != b) = false:=by simp
 by_cases h1:a < b
 ·rw [if_pos h1]
  have d1:decide (a < b) = true:=by simpa using h1
  clear h1
  go_enter Tryz.func408,Tryz.ntmps408
  go_wp2
  go_ret
  exact ⟨rfl,rfl⟩
 ·rw [if_neg h1]
  have d1:decide (a < b) = false:=by simpa using h1
  by_cases h2:b < a
  ·rw [if_pos h2]
   have d2:decide (b < a) = true:=by simpa using h2
   clear h1 h2
   go_enter Tryz.func408,Tryz.ntmps408
   go_wp2
   go_ret
   exact ⟨rfl,rfl⟩
  ·rw [if_neg h2]
   have d2:decide (b < a) = false:=by simpa using h2
   clear h1 h2
   go_enter Tryz.func408,Tryz.ntmps408
   go_wp2
   go_ret
   exact ⟨rfl,rfl⟩
def SomeInt (w:World) (e:Ending) (w':World):Prop:=∃ x:Int,e = .returned (.int .i64 x) ∧ Below w.heap.size w w'
def SomeBool (w:World) (e:Ending) (w':World):Prop:=∃ x:Bool,e = .returned (.bool x) ∧ Below w.heap.size w w'
set_option maxHeartbeats 2000000 in
theorem or_any (g:Nat) (x y:Int) (w:World) (c0:w.cell? ⟨g,0,none⟩ = some (.int .i64 x)) (c1:w.cell? ⟨g,1,none⟩ = some (.int .i64 y)):Calls Tryz.prog 406 #[.slice (some ⟨g,0,none⟩) 2 2] w (SomeInt w):=by
 by_cases hx:x = 0
 ·subst hx
  by_cases hy:y = 0
  ·subst hy
   go_enter Tryz.func406,Tryz.ntmps406
   go_wp2
   refine wp_loop_rounds 3 ?_
   rw [rounds_succ]
   go_wp2
   rw [rounds_succ]
   go_wp2
   rw [rounds_succ]
   go_wp2
   go_ret
   exact ⟨0,rfl,Below.refl _ _⟩
  ·have d:(y != 0) = true:=by simpa using hy
   clear hy
   go_enter Tryz.func406,Tryz.ntmps406
   go_wp2
   refine wp_loop_rounds 2 ?_
   rw [rounds_succ]
   go_wp2
   rw [rounds_succ]
   go_wp2
   go_ret
   exact ⟨y,rfl,Below.refl _ _⟩
 ·have d:(x != 0) = true:=by simpa using hx
  clear hx
  go_enter Tryz.func406,Tryz.ntmps406
  go_wp2
  refine wp_loop_rounds 1 ?_
  rw [rounds_succ]
  go_wp2
  go_ret
  exact ⟨x,rfl,Below.refl _ _⟩
theorem or_blk {w:World} {g:Nat} {x y:Int} {t:TypeId} (h:Blk w g #[.int .i64 x,.int .i64 y] t):Calls Tryz.prog 406 #[.slice (some ⟨g,0,none⟩) 2 2] w (SomeInt w):=or_any g x y w (h.cell 0) (h.cell 1)
set_option maxHeartbeats 2000000 in
theorem compare_any (a b c d:Int) (w:World):Calls Tryz.prog 405 #[.agg #[.int .i64 a,.int .i64 b],.agg #[.int .i64 c,.int .i64 d]] w (SomeInt w):=by
 have l1:w.heap.size < w.heap.size + 1 + 1 + 1:=by omega
 have l2:w.heap.size < w.heap.size + 1 + 1:=by omega
 have l3:w.heap.size < w.heap.size + 3:=by omega
 have l4:w.heap.size < w.heap.size + 2:=by omega
 go_enter Tryz.func405,Tryz.ntmps405
 go_wp2
 go_region_held3 (fun w'=>w'.cell? ⟨w.heap.size,0,none⟩ = some (.int .i64 a) ∧ w'.cell? ⟨w.heap.size,1,none⟩ = some (.int .i64 b) ∧ w'.cell? ⟨w.heap.size + 1,0,none⟩ = some (.int .i64 c) ∧ w'.cell? ⟨w.heap.size + 1,1,none⟩ = some (.int .i64 d)) (go_keep) (first | (go_at_call 407;refine (cmp64 _ _ _).mono ?_;rintro e w1 ⟨rfl,rfl⟩) | (go_at_call 408;refine (cmpInt _ _ _).mono ?_;rintro e w1 ⟨rfl,rfl⟩) | (go_at_call 406;refine (or_blk (Blk.drew (Blk.new' #[.int .i64 (cmpZ b d),.int .i64 (cmpZ a c)] 3 (by simp)))).mono ?_;rintro e w1 ⟨x,rfl,hb⟩;obtain ⟨c1,f1⟩:=bcell hb))
 go_wp2
 go_ret
 exact ⟨x,rfl,below_below (below_alloc (below_alloc (below_alloc (Below.refl _ _) _) _) _) (undrew hb)⟩
set_option maxHeartbeats 2000000 in
theorem less_any (b g n cap:Nat) (l:List Pr) (F:Nat → Int) (i j:Nat) (w:World) (h:Bx w b (.slice (some ⟨g,0,none⟩) n cap) l F) (hi:i < l.length) (hj:j < l.length) :
  Calls Tryz.prog 401 #[.pointer (some ⟨b,0,none⟩),.int .i64 i,.int .i64 j] w (SomeBool w):=by
 obtain ⟨i0,i1,hg,rfl⟩:=h.cell i hi
 obtain ⟨j0,j1,_,_⟩:=h.cell j hj
 have c0:=h.cs.cell (i:=0) (by decide)
 simp only [if_true] at c0
 have hb:=h.cs.lt
 have q1:(i:Int) < (l.length:Int):=by omega
 have q2:(j:Int) < (l.length:Int):=by omega
 generalize l[i]?.getD pz = x at *
 generalize l[j]?.getD pz = y at *
 generalize l.length = n at *
 clear h
 go_enter Tryz.func401,Tryz.ntmps401
 go_wp2
 go_region_held3 (fun w'=>w'.cell? ⟨b,0,none⟩ = some (.slice (some ⟨g,0,none⟩) n cap) ∧ w'.cell? ⟨g,i * 2,none⟩ = some (.int .i64 x.1) ∧ w'.cell? ⟨g,i * 2 + 1,none⟩ = some (.int .i64 x.2) ∧ w'.cell? ⟨g,j * 2,none⟩ = some (.int .i64 y.1) ∧ w'.cell? ⟨g,j * 2 + 1,none⟩ = some (.int .i64 y.2)) (go_keep) (first | (go_at_call 405;refine (compare_any _ _ _ _ _).mono ?_;rintro e w1 ⟨z,rfl,hb1⟩;obtain ⟨c1,f1⟩:=bcell (undrew hb1)))
 go_wp2
 go_ret
 exact ⟨_,rfl,undrew hb1⟩
theorem rowSet {w:World} {e:TypeId} {g n cap:Nat} {l:List Pr} (h:w.ownsRow 0 e 2 (.slice (some ⟨g,0,none⟩) n cap) l.length (ys l)) (i:Nat) (hi:i < l.length) (x:Pr) :
  ((w.setCell ⟨g,i * 2,none⟩ (.int .i64 x.1)).setCell ⟨g,i * 2 + 1,none⟩ (.int .i64 x.2)).ownsRow 0 e 2 (.slice (some ⟨g,0,none⟩) n cap) (l.set i x).length (ys (l.set i x)):=by
 obtain ⟨hl,⟨h0,_⟩ | ⟨g',cap',cur,he,hb,hh,hn,hm,hs,ht⟩⟩:=h
 ·cases h0
 ·simp only [Value.slice.injEq,Option.some.injEq,Addr.mk.injEq] at he
  obtain ⟨⟨rfl,_⟩,rfl,rfl⟩:=he
  have hB:Blk w g cur e:=hh
  refine ⟨by rw [List.length_set,Pstat.ys_len,List.length_set],.inr ⟨g,cap,_,by rw [List.length_set],hb,(hB.set (i * 2) (.int .i64 x.1)).set (i * 2 + 1) (.int .i64 x.2),by rw [List.length_set];exact hn,hm,by simpa using hs,?_⟩⟩
  rw [List.length_set,Pstat.ys_set l x i hi,← ht]
  simp [List.take_set]
theorem rowFree {w:World} {e:TypeId} {g n cap:Nat} {l:List Pr} (h:w.ownsRow 0 e 2 (.slice (some ⟨g,0,none⟩) n cap) l.length (ys l)) (i:Nat):w.frozen? ⟨g,i,none⟩ = false:=by
 obtain ⟨hl,⟨h0,_⟩ | ⟨g',cap',cur,he,hb,hh,hn,hm,hs,ht⟩⟩:=h
 ·cases h0
 ·simp only [Value.slice.injEq,Option.some.injEq,Addr.mk.injEq] at he
  obtain ⟨⟨rfl,_⟩,rfl,rfl⟩:=he
  have hB:Blk w g cur e:=hh
  exact hB.free i
def swapL (l:List Pr) (i j:Nat):List Pr:=(l.set i (l[j]?.getD pz)).set j (l[i]?.getD pz)
def swapF (F:Nat → Int) (l:List Pr) (i j:Nat):Nat → Int:=fun k=>if k = (l[i]?.getD pz).1.toNat then j else if k = (l[j]?.getD pz).1.toNat then i else F k
def SwapP (b:Nat) (v:Value) (l:List Pr) (F:Nat → Int) (w:World) (e:Ending) (w':World):Prop:=e = .returned (.tuple #[]) ∧ Bx w' b v l F ∧ Only (Bf b v) w w'
def swapW (b g i j kx ky:Nat) (x2 y2:Int) (w:World):World:=
 (((((w.setCell ⟨g,i * 2,none⟩ (.int .i64 ky)).setCell ⟨g,i * 2 + 1,none⟩ (.int .i64 y2)).setCell ⟨g,j * 2,none⟩ (.int .i64 kx)).setCell ⟨g,j * 2 + 1,none⟩ (.int .i64 x2)).setCell ⟨b,1 + ky,none⟩ (.int .i64 i)).setCell ⟨b,1 + kx,none⟩ (.int .i64 j)
set_option maxHeartbeats 4000000 in
theorem swap_walk (b g n cap i j kx ky:Nat) (x2 y2 ax ay:Int) (w:World) (c0:w.cell? ⟨b,0,none⟩ = some (.slice (some ⟨g,0,none⟩) n cap))
  (i0:w.cell? ⟨g,i * 2,none⟩ = some (.int .i64 kx)) (i1:w.cell? ⟨g,i * 2 + 1,none⟩ = some (.int .i64 x2)) (j0:w.cell? ⟨g,j * 2,none⟩ = some (.int .i64 ky)) (j1:w.cell? ⟨g,j * 2 + 1,none⟩ = some (.int .i64 y2))
  (f1:w.frozen? ⟨g,i * 2,none⟩ = false) (f2:w.frozen? ⟨g,i * 2 + 1,none⟩ = false) (f3:w.frozen? ⟨g,j * 2,none⟩ = false) (f4:w.frozen? ⟨g,j * 2 + 1,none⟩ = false)
  (a1:w.cell? ⟨b,1 + ky,none⟩ = some (.int .i64 ay)) (a2:w.cell? ⟨b,1 + kx,none⟩ = some (.int .i64 ax)) (f5:w.frozen? ⟨b,1 + ky,none⟩ = false) (f6:w.frozen? ⟨b,1 + kx,none⟩ = false)
  (hgb:¬ g = b) (hbg:¬ b = g) (hin:i < n) (hjn:j < n) (hij:i ≠ j) (hx:kx < 64) (hy:ky < 64) (hxy:kx ≠ ky) :
  Calls Tryz.prog 404 #[.pointer (some ⟨b,0,none⟩),.int .i64 i,.int .i64 j] w fun e w'=>e = .returned (.tuple #[]) ∧ w' = (swapW b g i j kx ky x2 y2 w).drew.drew:=by
 have q1:(i:Int) < (n:Int):=by omega
 have q2:(j:Int) < (n:Int):=by omega
 have q3:(kx:Int) < 64:=by omega
 have q4:(ky:Int) < 64:=by omega
 have n1:¬ i * 2 = j * 2:=by omega
 have n2:¬ j * 2 = i * 2:=by omega
 have n3:¬ i * 2 + 1 = j * 2:=by omega
 have n4:¬ j * 2 = i * 2 + 1:=by omega
 have n5:¬ i * 2 = j * 2 + 1:=by omega
 have n6:¬ j * 2 + 1 = i * 2:=by omega
 have n7:¬ i = j:=hij
 have n8:¬ j = i:=fun e=>hij e.symm
 have n9:¬ kx = ky:=hxy
 have n10:¬ ky = kx:=fun e=>hxy e.symm
 clear hin hjn hx hy
 unfold swapW
 go_enter Tryz.func404,Tryz.ntmps404
 go_wp2
 go_region
 go_wp2
 go_region
 go_end0
 exact ⟨rfl,rfl⟩
theorem Bx.drew {w:World} {b:Nat} {v:Value} {l:List Pr} {F:Nat → Int} (h:Bx w b v l F):Bx w.drew b v l F:=⟨h.cs,h.row,h.ne,h.at_,h.idx⟩
theorem swapL_len (l:List Pr) (i j:Nat):(swapL l i j).length = l.length:=by simp [swapL]
theorem swapL_at (l:List Pr) (i j k:Nat) (hi:i < l.length) (hj:j < l.length):(swapL l i j)[k]?.getD pz = if k = j then l[i]?.getD pz else if k = i then l[j]?.getD pz else l[k]?.getD pz:=by
 unfold swapL
 by_cases h1:k = j
 ·subst h1;rw [if_pos rfl,List.getElem?_set_self (by simpa using hj)];rfl
 ·rw [if_neg h1,List.getElem?_set_ne (fun e=>h1 e.symm)]
  by_cases h2:k = i
  ·subst h2;rw [if_pos rfl,List.getElem?_set_self hi];rfl
  ·rw [if_neg h2,List.getElem?_set_ne (fun e=>h2 e.symm)]
theorem Bx.swap {w:World} {b g n cap:Nat} {l:List Pr} {F:Nat → Int} (h:Bx w b (.slice (some ⟨g,0,none⟩) n cap) l F) {i j kx ky:Nat} {x2 y2:Int} (hi:i < l.length) (hj:j < l.length) (hij:i ≠ j)
  (hX:l[i]?.getD pz = ((kx:Int),x2)) (hY:l[j]?.getD pz = ((ky:Int),y2)):Bx (swapW b g i j kx ky x2 y2 w) b (.slice (some ⟨g,0,none⟩) n cap) (swapL l i j) (swapF F l i j):=by
 have hgb:g ≠ b:=fun e=>h.ne (by rw [e];rfl)
 obtain ⟨x0,x1,x3⟩:=h.at_ i hi
 obtain ⟨y0,y1,y3⟩:=h.at_ j hj
 rw [hX] at x0 x1 x3
 rw [hY] at y0 y1 y3
 simp only [Int.toNat_natCast] at x3 y3
 have hxy:kx ≠ ky:=fun e=>hij (by rw [e,y3] at x3;omega)
 unfold swapW
 refine ⟨?_,?_,h.ne,?_,?_⟩
 ·refine (((((((h.cs.setOther (Ne.symm hgb) _).setOther (Ne.symm hgb) _).setOther (Ne.symm hgb) _).setOther (Ne.symm hgb) _).set (i:=1 + ky) (by omega) _).set (i:=1 + kx) (by omega) _)).congr fun k hk=>?_
  simp only [swapF,hX,hY,Int.toNat_natCast]
  by_cases e1:k = 1 + kx
  ·subst e1;simp
  ·rw [if_neg e1]
   by_cases e2:k = 1 + ky
   ·subst e2
    simp [show ¬ ky = kx from fun e=>hxy e.symm]
   ·rw [if_neg e2]
    by_cases e3:k = 0
    ·simp [e3]
    ·have a1:¬ k - 1 = kx:=by omega
     have a2:¬ k - 1 = ky:=by omega
     simp [e3,a1,a2]
 ·have r1:=rowSet h.row i hi ((ky:Int),y2)
  have r2:=rowSet r1 j (by simpa using hj) ((kx:Int),x2)
  have r3:(l.set i ((ky:Int),y2)).set j ((kx:Int),x2) = swapL l i j:=by unfold swapL;rw [hX,hY]
  rw [← r3]
  exact rowv_off (rowv_off r2 ((Only.refl (fun k=>k = b) _).set (.inr rfl) _ _) (fun k hk e=>hgb (by cases hk;exact e))) ((Only.refl (fun k=>k = b) _).set (.inr rfl) _ _) (fun k hk e=>hgb (by cases hk;exact e))
 ·intro k hk
  rw [swapL_len] at hk
  rw [swapL_at l i j k hi hj]
  simp only [swapF,hX,hY,Int.toNat_natCast]
  by_cases e1:k = j
  ·subst e1;rw [if_pos rfl];exact ⟨x0,x1,by simp⟩
  ·rw [if_neg e1]
   by_cases e2:k = i
   ·subst e2;rw [if_pos rfl];exact ⟨y0,y1,by simp [show ¬ ky = kx from fun e=>hxy e.symm]⟩
   ·rw [if_neg e2]
    obtain ⟨z0,z1,z2⟩:=h.at_ k hk
    refine ⟨z0,z1,?_⟩
    have a1:¬ (l[k]?.getD pz).1.toNat = kx:=fun e=>by rw [e,x3] at z2;omega
    have a2:¬ (l[k]?.getD pz).1.toNat = ky:=fun e=>by rw [e,y3] at z2;omega
    rw [if_neg a1,if_neg a2];exact z2
 ·intro k hk
  simp only [swapF,hX,hY,Int.toNat_natCast,swapL_len]
  by_cases e1:k = kx
  ·subst e1;exact .inr ⟨j,by simp,hj,by rw [swapL_at l i j j hi hj,if_pos rfl,hX]⟩
  ·rw [if_neg e1]
   by_cases e2:k = ky
   ·subst e2;exact .inr ⟨i,by simp,hi,by rw [swapL_at l i j i hi hj,if_neg hij,if_pos rfl,hY]⟩
   ·rw [if_neg e2]
    rcases h.idx k hk with h0 | ⟨m,h1,h2,h3⟩
    ·exact .inl h0
    ·refine .inr ⟨m,h1,h2,?_⟩
     have a1:¬ m = j:=fun e=>e2 (by subst e;rw [hY] at h3;simp at h3;omega)
     have a2:¬ m = i:=fun e=>e1 (by subst e;rw [hX] at h3;simp at h3;omega)
     rw [swapL_at l i j m hi hj,if_neg a1,if_neg a2];exact h3
theorem swap_any (b g n cap:Nat) (l:List Pr) (F:Nat → Int) (i j:Nat) (w:World) (h:Bx w b (.slice (some ⟨g,0,none⟩) n cap) l F) (hi:i < l.length) (hj:j < l.length) (hij:i ≠ j) :
  Calls Tryz.prog 404 #[.pointer (some ⟨b,0,none⟩),.int .i64 i,.int .i64 j] w (SwapP b (.slice (some ⟨g,0,none⟩) n cap) (swapL l i j) (swapF F l i j) w):=by
 obtain ⟨x0,x1,x3⟩:=h.at_ i hi
 obtain ⟨y0,y1,y3⟩:=h.at_ j hj
 obtain ⟨kx,x2,hX⟩:∃ (k:Nat) (x2:Int),l[i]?.getD pz = ((k:Int),x2):=⟨(l[i]?.getD pz).1.toNat,(l[i]?.getD pz).2,Prod.ext (by simp;omega) rfl⟩
 obtain ⟨ky,y2,hY⟩:∃ (k:Nat) (x2:Int),l[j]?.getD pz = ((k:Int),x2):=⟨(l[j]?.getD pz).1.toNat,(l[j]?.getD pz).2,Prod.ext (by simp;omega) rfl⟩
 obtain ⟨i0,i1,hg,hn⟩:=h.cell i hi
 obtain ⟨j0,j1,_,_⟩:=h.cell j hj
 rw [hX] at i0 i1 x0 x1 x3
 rw [hY] at j0 j1 y0 y1 y3
 simp only [Int.toNat_natCast] at x3 y3
 have hxy:kx ≠ ky:=fun e=>hij (by rw [e,y3] at x3;omega)
 have hgb:¬ g = b:=fun e=>h.ne (by rw [e];rfl)
 have c0:=h.cs.cell (i:=0) (by decide)
 simp only [if_true] at c0
 have a1:=h.cs.cell (i:=1 + ky) (by omega)
 have a2:=h.cs.cell (i:=1 + kx) (by omega)
 simp only [show ¬ 1 + ky = 0 by omega,show ¬ 1 + kx = 0 by omega,if_false] at a1 a2
 refine (swap_walk b g n cap i j kx ky x2 y2 _ _ w c0 i0 i1 j0 j1 (rowFree h.row _) (rowFree h.row _) (rowFree h.row _) (rowFree h.row _) a1 a2 (h.cs.free _) (h.cs.free _) hgb (fun e=>hgb e.symm) (by omega) (by omega) hij (by omega) (by omega) hxy).mono ?_
 rintro e w' ⟨rfl,rfl⟩
 refine ⟨rfl,((h.swap hi hj hij hX hY).drew).drew,?_⟩
 unfold swapW
 exact ((((((((Only.refl (Bf b (.slice (some ⟨g,0,none⟩) n cap)) w).set (.inr (.inr rfl)) _ _).set (.inr (.inr rfl)) _ _).set (.inr (.inr rfl)) _ _).set (.inr (.inr rfl)) _ _).set (.inr (.inl rfl)) _ _).set (.inr (.inl rfl)) _ _).drew).drew
end Go.Proofs.YtgadhchejmlfjaaGreatDoor.Sig
end
section
namespace Go.Proofs.YtgadhchejmlfjaaGreatDoor.Sig
open Go.RowKit Go.Esc
open Go.Proofs.YtgadhchejmlfjaaGreatDoor.Pstat (Pr ys pz)
theorem mLen (a : Addr) (w : World) : (method 571 224 (.pointer (some a)) "Len").run Tryz.prog w = .ok (398, .pointer (some a)) w := by kernel_rfl
theorem mLess (a : Addr) (w : World) : (method 571 224 (.pointer (some a)) "Less").run Tryz.prog w = .ok (401, .pointer (some a)) w := by kernel_rfl
theorem mSwap (a : Addr) (w : World) : (method 571 224 (.pointer (some a)) "Swap").run Tryz.prog w = .ok (404, .pointer (some a)) w := by kernel_rfl
theorem mPush (a : Addr) (w : World) : (method 571 224 (.pointer (some a)) "Push").run Tryz.prog w = .ok (403, .pointer (some a)) w := by kernel_rfl
theorem mPop (a : Addr) (w : World) : (method 571 224 (.pointer (some a)) "Pop").run Tryz.prog w = .ok (402, .pointer (some a)) w := by kernel_rfl
structure Hx (b:Nat) (v:Value) (D:Nat → Option Int) (n m:Nat) (q:Pr) (w:World):Prop where
 bx:∃ l F,Bx w b v l F ∧ l.length = n ∧ (∀ i,i < n → D (l[i]?.getD pz).1.toNat = some (l[i]?.getD pz).2) ∧ (∀ k,k < 64 → F k = -1 → D k = none) ∧ (m < n → l[m]?.getD pz = q)
theorem Hx.only {S:Nat → Prop} {b:Nat} {v:Value} {D:Nat → Option Int} {n m:Nat} {q:Pr} {w w':World} (h:Hx b v D n m q w) (o:Only S w w') (hs:∀ j,Bf b v j → ¬ S j):Hx b v D n m q w':=by
 obtain ⟨l,F,hb,r⟩:=h.bx
 exact ⟨l,F,⟨hb.cs.only o (hs b (.inl rfl)),rowv_off hb.row o (fun j hj=>hs j (.inr hj)),hb.ne,hb.at_,hb.idx⟩,r⟩
theorem Hx.below {b:Nat} {v:Value} {D:Nat → Option Int} {n m:Nat} {q:Pr} {w w':World} (h:Hx b v D n m q w) (o:Below w.heap.size w w'):Hx b v D n m q w':=
 h.only (S:=fun _=>False) ((Only.refl _ w).below o) (fun _ _ x=>x)
theorem Hx.less {b g c cap:Nat} {D:Nat → Option Int} {n m:Nat} {q:Pr} {w:World} (h:Hx b (.slice (some ⟨g,0,none⟩) c cap) D n m q w) (i j:Nat) (hi:i < n) (hj:j < n):Calls Tryz.prog 401 #[.pointer (some ⟨b,0,none⟩),.int .i64 i,.int .i64 j] w (SomeBool w):=by
 obtain ⟨l,F,hb,hl,r⟩:=h.bx
 exact less_any b g c cap l F i j w hb (by omega) (by omega)
def SwapH (b:Nat) (v:Value) (D:Nat → Option Int) (n m:Nat) (q:Pr) (w:World) (e:Ending) (w':World):Prop:=e = .returned (.tuple #[]) ∧ Hx b v D n m q w' ∧ Only (Bf b v) w w'
theorem Hx.swap {b g c cap:Nat} {D:Nat → Option Int} {n m:Nat} {q:Pr} {w:World} (h:Hx b (.slice (some ⟨g,0,none⟩) c cap) D n m q w) (i j:Nat) (hi:i < n) (hj:j < n) (hij:i ≠ j) (him:i ≠ m) (hjm:j ≠ m) :
  Calls Tryz.prog 404 #[.pointer (some ⟨b,0,none⟩),.int .i64 i,.int .i64 j] w (SwapH b (.slice (some ⟨g,0,none⟩) c cap) D n m q w):=by
 obtain ⟨l,F,hb,hl,h1,h2,h3⟩:=h.bx
 have hi':i < l.length:=by omega
 have hj':j < l.length:=by omega
 refine (swap_any b g c cap l F i j w hb hi' hj' hij).mono ?_
 rintro e w' ⟨rfl,hb',ho⟩
 refine ⟨rfl,⟨swapL l i j,swapF F l i j,hb',by rw [swapL_len];exact hl,?_,?_,?_⟩,ho⟩
 ·intro k hk
  rw [swapL_at l i j k hi' hj']
  by_cases e1:k = j
  ·rw [if_pos e1];exact h1 i hi
  ·rw [if_neg e1]
   by_cases e2:k = i
   ·rw [if_pos e2];exact h1 j hj
   ·rw [if_neg e2];exact h1 k hk
 ·intro k hk hF
  unfold swapF at hF
  by_cases e1:k = (l[i]?.getD pz).1.toNat
  ·rw [if_pos e1] at hF;omega
  ·rw [if_neg e1] at hF
   by_cases e2:k = (l[j]?.getD pz).1.toNat
   ·rw [if_pos e2] at hF;omega
   ·rw [if_neg e2] at hF;exact h2 k hk hF
 ·intro hm
  rw [swapL_at l i j m hi' hj',if_neg (fun e=>hjm e.symm),if_neg (fun e=>him e.symm)]
  exact h3 hm
set_option maxHeartbeats 4000000 in
theorem up_any (b g c cap:Nat) (D:Nat → Option Int) (n m:Nat) (q:Pr) (j:Nat) (w:World) (h:Hx b (.slice (some ⟨g,0,none⟩) c cap) D n m q w) (hj:j < n) (hm:j < m) (hn:n ≤ 64) :
  Calls Tryz.prog 195 #[.iface 224 (.pointer (some ⟨b,0,none⟩)),.int .i64 j] w (SwapH b (.slice (some ⟨g,0,none⟩) c cap) D n m q w):=by
 have hML:=mLess ⟨b,0,none⟩
 have hMS:=mSwap ⟨b,0,none⟩
 go_enter Tryz.func195,Tryz.ntmps195
 go_wp2
 go_loopw [1] (fun t wr=>∃ k:Nat,k ≤ j ∧ t = .int .i64 k ∧ Hx b (.slice (some ⟨g,0,none⟩) c cap) D n m q wr ∧ Only (Bf b (.slice (some ⟨g,0,none⟩) c cap)) w wr) (fun t _=>(intOf t).toNat)
 case atStart=>exact ⟨j,Nat.le_refl _,rfl,h,Only.refl _ _⟩
 case round=>
  obtain ⟨k,hk,rfl,hH,hO⟩:=hrel
  have HH:=Lib.hid hH
  have HO:=Lib.hid hO
  clear hH hO h
  by_cases h0:k = 0
  ·subst h0
   go_wp2
   go_end0
   exact ⟨rfl,HH.out,HO.out⟩
  ·obtain ⟨i,hi⟩:∃ i:Nat,i = (k - 1) / 2:=⟨_,rfl⟩
   have hik:i < k:=by omega
   have hd:((k:Int) - 1) / 2 = i:=by omega
   have hne:((i:Int) == (k:Int)) = false:=by rw [beq_eq_false_iff_ne];omega
   have hL:=Lib.hid (HH.out.less k i (by omega) (by omega))
   have q1:(1:Int) ≤ k:=by omega
   clear hi
   go_wp2_with (first | (go_at_call 401;refine hL.out.mono ?_;rintro e w1 ⟨x,rfl,hb1⟩))
   ·go_end0
    exact ⟨rfl,HH.out.below hb1,HO.out.below hb1⟩
   ·refine ((HH.out.below hb1).swap i k (by omega) (by omega) (by omega) (by omega) (by omega)).mono ?_
    rintro e w2 ⟨rfl,hH2,hO2⟩
    have HR:Hid (i ≤ j ∧ Hx b (.slice (some ⟨g,0,none⟩) c cap) D n m q w2 ∧ Only (Bf b (.slice (some ⟨g,0,none⟩) c cap)) w w2):=⟨by omega,hH2,(HO.out.below hb1).trans hO2⟩
    clear hH2 hO2 hb1
    go_wp2
    go_roundw
    case rel=>exact ⟨i,HR.out.1,rfl,HR.out.2.1,HR.out.2.2⟩
    case measure=>simp [intOf];omega
def DownP (b:Nat) (v:Value) (D:Nat → Option Int) (n m:Nat) (q:Pr) (w:World) (e:Ending) (w':World):Prop:=∃ x:Bool,e = .returned (.bool x) ∧ Hx b v D n m q w' ∧ Only (Bf b v) w w'
set_option maxHeartbeats 4000000 in
theorem down_any (b g c cap:Nat) (D:Nat → Option Int) (n m:Nat) (q:Pr) (i0 n0:Nat) (w:World) (h:Hx b (.slice (some ⟨g,0,none⟩) c cap) D n m q w) (hi0:i0 < n0) (hn0:n0 ≤ n) (hm:n0 ≤ m) (hn:n ≤ 64) :
  Calls Tryz.prog 194 #[.iface 224 (.pointer (some ⟨b,0,none⟩)),.int .i64 i0,.int .i64 n0] w (DownP b (.slice (some ⟨g,0,none⟩) c cap) D n m q w):=by
 have hML:=mLess ⟨b,0,none⟩
 have hMS:=mSwap ⟨b,0,none⟩
 go_enter Tryz.func194,Tryz.ntmps194
 go_wp2
 go_loopw [7] (fun t wr=>∃ k:Nat,k < n0 ∧ t = .int .i64 k ∧ Hx b (.slice (some ⟨g,0,none⟩) c cap) D n m q wr ∧ Only (Bf b (.slice (some ⟨g,0,none⟩) c cap)) w wr) (fun t _=>n0 - (intOf t).toNat)
 case atStart=>exact ⟨i0,hi0,rfl,h,Only.refl _ _⟩
 case round=>
  obtain ⟨k,hk,rfl,hH,hO⟩:=hrel
  have HH:=Lib.hid hH
  have HO:=Lib.hid hO
  clear hH hO h
  obtain ⟨j1,hj1⟩:∃ j:Nat,j = 2 * k + 1:=⟨_,rfl⟩
  obtain ⟨j2,hj2⟩:∃ j:Nat,j = 2 * k + 2:=⟨_,rfl⟩
  have e1:2 * (k:Int) + 1 = j1:=by omega
  have e2:(j1:Int) + 1 = j2:=by omega
  have d0:decide ((j1:Int) < 0) = false:=by simp
  by_cases h1:j1 < n0
  ·have d1:decide (n0 ≤ j1) = false:=by simp;omega
   have HLa:=Lib.hid (fun W (hW:Hx b (.slice (some ⟨g,0,none⟩) c cap) D n m q W)=>hW.less j1 k (by omega) (by omega))
   have HSa:=Lib.hid (fun W (hW:Hx b (.slice (some ⟨g,0,none⟩) c cap) D n m q W)=>hW.swap k j1 (by omega) (by omega) (by omega) (by omega) (by omega))
   by_cases h2:j2 < n0
   ·have d2:decide (j2 < n0) = true:=by simpa using h2
    have HL1:=Lib.hid (HH.out.less j2 j1 (by omega) (by omega))
    have HLb:=Lib.hid (fun W (hW:Hx b (.slice (some ⟨g,0,none⟩) c cap) D n m q W)=>hW.less j2 k (by omega) (by omega))
    have HSb:=Lib.hid (fun W (hW:Hx b (.slice (some ⟨g,0,none⟩) c cap) D n m q W)=>hW.swap k j2 (by omega) (by omega) (by omega) (by omega) (by omega))
    have HK:=Lib.hid (show (k < j1 ∧ k < j2) ∧ j1 < n0 ∧ j2 < n0 by omega)
    clear hj1 hj2 h1 h2
    go_wp2_with (first | (go_at_call 401;refine HL1.out.mono ?_;rintro e w1 ⟨x,rfl,hb1⟩;have HH1:=Lib.hid (HH.out.below hb1);have HO1:=Lib.hid (HO.out.below hb1);clear hb1 HL1))
    ·skip
     refine (HLb.out _ HH1.out).mono ?_
     rintro e w2 ⟨y,rfl,hb2⟩
     have HH2:=Lib.hid (HH1.out.below hb2)
     have HO2:=Lib.hid (HO1.out.below hb2)
     clear hb2
     cases y
     ·go_wp2
      go_ret
      exact ⟨_,rfl,HH2.out,HO2.out⟩
     ·go_wp2_with (first | (go_at_call 404;refine (HSb.out _ HH2.out).mono ?_;rintro e w3 ⟨rfl,hH3,hO3⟩;have HR3:=Lib.hid hH3;have HR4:=Lib.hid (HO2.out.trans hO3);clear hH3 hO3))
      go_roundw
      case rel=>exact ⟨j2,by have:=HK.out;omega,rfl,HR3.out,HR4.out⟩
      case measure=>have:=HK.out;simp [intOf];omega
    ·skip
     refine (HLa.out _ HH1.out).mono ?_
     rintro e w2 ⟨y,rfl,hb2⟩
     have HH2:=Lib.hid (HH1.out.below hb2)
     have HO2:=Lib.hid (HO1.out.below hb2)
     clear hb2
     cases y
     ·go_wp2
      go_ret
      exact ⟨_,rfl,HH2.out,HO2.out⟩
     ·go_wp2_with (first | (go_at_call 404;refine (HSa.out _ HH2.out).mono ?_;rintro e w3 ⟨rfl,hH3,hO3⟩;have HR3:=Lib.hid hH3;have HR4:=Lib.hid (HO2.out.trans hO3);clear hH3 hO3))
      go_roundw
      case rel=>exact ⟨j1,by have:=HK.out;omega,rfl,HR3.out,HR4.out⟩
      case measure=>have:=HK.out;simp [intOf];omega
   ·have d2:decide (j2 < n0) = false:=by simpa using h2
    have HK:=Lib.hid (show k < j1 ∧ j1 < n0 by omega)
    have HLc:=Lib.hid (HLa.out _ HH.out)
    clear hj1 hj2 h1 h2 HLa
    go_wp2_with (first | (go_at_call 401;refine HLc.out.mono ?_;rintro e w2 ⟨y,rfl,hb2⟩;have HH2:=Lib.hid (HH.out.below hb2);have HO2:=Lib.hid (HO.out.below hb2);clear hb2 HLc))
    ·go_ret
     exact ⟨_,rfl,HH2.out,HO2.out⟩
    ·refine (HSa.out _ HH2.out).mono ?_
     rintro e w3 ⟨rfl,hH3,hO3⟩
     have HR3:=Lib.hid hH3
     have HR4:=Lib.hid (HO2.out.trans hO3)
     clear hH3 hO3
     go_wp2
     go_roundw
     case rel=>exact ⟨j1,by have:=HK.out;omega,rfl,HR3.out,HR4.out⟩
     case measure=>have:=HK.out;simp [intOf];omega
  ·have d1:decide (n0 ≤ j1) = true:=by simp;omega
   clear hj1 hj2 e2 h1
   go_wp2
   go_ret
   exact ⟨_,rfl,HH.out,HO.out⟩
theorem Hx.len {b:Nat} {v:Value} {D:Nat → Option Int} {n m:Nat} {q:Pr} {w:World} (h:Hx b v D n m q w):Calls Tryz.prog 398 #[.pointer (some ⟨b,0,none⟩)] w fun e w'=>e = .returned (.int .i64 n) ∧ w = w':=by
 obtain ⟨l,F,hb,hl,r⟩:=h.bx
 have:=len_any b v l F w hb
 rwa [hl] at this
set_option maxHeartbeats 4000000 in
theorem fix_any (b g c cap:Nat) (D:Nat → Option Int) (n m:Nat) (q:Pr) (i:Nat) (w:World) (h:Hx b (.slice (some ⟨g,0,none⟩) c cap) D n m q w) (hi:i < n) (hm:n ≤ m) (hn:n ≤ 64) :
  Calls Tryz.prog 346 #[.iface 224 (.pointer (some ⟨b,0,none⟩)),.int .i64 i] w (SwapH b (.slice (some ⟨g,0,none⟩) c cap) D n m q w):=by
 have hML:=mLen ⟨b,0,none⟩
 have HL:=Lib.hid h.len
 have HD:=Lib.hid (down_any b g c cap D n m q i n w h hi (Nat.le_refl _) hm hn)
 have HU:=Lib.hid (fun W (hW:Hx b (.slice (some ⟨g,0,none⟩) c cap) D n m q W)=>up_any b g c cap D n m q i W hW hi (by omega) hn)
 clear h hi hm hn
 go_enter Tryz.func346,Tryz.ntmps346
 go_wp2_with (first | (go_at_call 398;refine HL.out.mono ?_;rintro e w1 ⟨rfl,rfl⟩) | (go_at_call 194;refine HD.out.mono ?_;rintro e w2 ⟨x,rfl,hH,hO⟩;have HH:=Lib.hid hH;have HO:=Lib.hid hO;clear hH hO))
 ·refine (HU.out _ HH.out).mono ?_
  rintro e w3 ⟨rfl,hH3,hO3⟩
  have HR3:=Lib.hid hH3
  have HR4:=Lib.hid (HO.out.trans hO3)
  clear hH3 hO3
  go_wp2
  go_end0
  exact ⟨rfl,HR3.out,HR4.out⟩
 ·go_end0
  exact ⟨rfl,HH.out,HO.out⟩
end Go.Proofs.YtgadhchejmlfjaaGreatDoor.Sig
end
section
namespace Go.Proofs.YtgadhchejmlfjaaGreatDoor.Sig
open Go.RowKit Go.Esc
open Go.Proofs.YtgadhchejmlfjaaGreatDoor.Pstat (Pr ys pz)
set_option maxHeartbeats 4000000 in
theorem pop_walk (b g n cap kx:Nat) (x2 ax:Int) (w:World) (c0:w.cell? ⟨b,0,none⟩ = some (.slice (some ⟨g,0,none⟩) (n + 1) cap)) (f0:w.frozen? ⟨b,0,none⟩ = false)
  (i0:w.cell? ⟨g,n * 2,none⟩ = some (.int .i64 kx)) (i1:w.cell? ⟨g,n * 2 + 1,none⟩ = some (.int .i64 x2))
  (a1:w.cell? ⟨b,1 + kx,none⟩ = some (.int .i64 ax)) (f1:w.frozen? ⟨b,1 + kx,none⟩ = false) (hgb:¬ g = b) (hbg:¬ b = g) (hb:b < w.heap.size) (hg:g < w.heap.size) (hx:kx < 64) (hn:n < 64) (hc:n + 1 ≤ cap) :
  Calls Tryz.prog 402 #[.pointer (some ⟨b,0,none⟩)] w fun e w'=>e = .returned (.iface 222 (.agg #[.int .i64 kx,.int .i64 x2])) ∧ w' = (((w.setCell ⟨b,0,none⟩ (.slice (some ⟨g,0,none⟩) n cap)).setCell ⟨b,1 + kx,none⟩ (.int .i64 (-1))).alloc (.cells #[.int .i64 kx,.int .i64 x2] 222)).drew:=by
 have q3:(kx:Int) < 64:=by omega
 have q4:(n:Int) ≤ (cap:Int):=by omega
 have q5:(n:Int) + 1 - 1 = n:=by omega
 have q6:(n:Int) < (n:Int) + 1:=by omega
 have n1:¬ b = w.heap.size:=by omega
 have n2:¬ g = w.heap.size:=by omega
 go_enter Tryz.func402,Tryz.ntmps402
 go_wp2
 go_region
 go_wp2
 go_ret
 exact ⟨rfl,rfl⟩
theorem rowPop {w:World} {e:TypeId} {g n cap:Nat} {l:List Pr} {q:Pr} (h:w.ownsRow 0 e 2 (.slice (some ⟨g,0,none⟩) n cap) (l ++ [q]).length (ys (l ++ [q]))):w.ownsRow 0 e 2 (.slice (some ⟨g,0,none⟩) l.length cap) l.length (ys l):=by
 obtain ⟨hl,⟨h0,_⟩ | ⟨g',cap',cur,he,hb,hh,hn,hm,hs,ht⟩⟩:=h
 ·cases h0
 ·simp only [Value.slice.injEq,Option.some.injEq,Addr.mk.injEq] at he
  obtain ⟨⟨rfl,_⟩,rfl,rfl⟩:=he
  simp only [List.length_append,List.length_cons,List.length_nil] at hn hm ht
  refine ⟨Pstat.ys_len l,.inr ⟨g,cap,cur,rfl,hb,hh,by omega,hm,hs,?_⟩⟩
  have:=congrArg (List.take (l.length * 2)) ht
  rw [List.take_take,Pstat.ys_append,List.take_left' (Pstat.ys_len l)] at this
  rw [← this]
  congr 1
  omega
theorem get_init (l:List Pr) (q:Pr) (i:Nat) (h:i < l.length):(l ++ [q])[i]?.getD pz = l[i]?.getD pz:=by rw [List.getElem?_append_left h]
theorem get_last (l:List Pr) (q:Pr):(l ++ [q])[l.length]?.getD pz = q:=by simp
theorem Bx.pop {w:World} {b g n cap:Nat} {l:List Pr} {q:Pr} {F:Nat → Int} {kx:Nat} (h:Bx w b (.slice (some ⟨g,0,none⟩) n cap) (l ++ [q]) F) (hq:q.1 = kx) :
  Bx ((w.setCell ⟨b,0,none⟩ (.slice (some ⟨g,0,none⟩) l.length cap)).setCell ⟨b,1 + kx,none⟩ (.int .i64 (-1))) b (.slice (some ⟨g,0,none⟩) l.length cap) l (fun k=>if k = kx then -1 else F k):=by
 have hgb:g ≠ b:=fun e=>h.ne (by rw [e];rfl)
 obtain ⟨x0,x1,x3⟩:=h.at_ l.length (by simp)
 rw [get_last,hq] at x0 x1 x3
 simp only [Int.toNat_natCast] at x3
 refine ⟨?_,?_,h.ne,?_,?_⟩
 ·refine ((h.cs.set (i:=0) (by decide) _).set (i:=1 + kx) (by omega) _).congr fun k hk=>?_
  by_cases e1:k = 1 + kx
  ·subst e1;simp
  ·rw [if_neg e1]
   by_cases e3:k = 0
   ·simp [e3]
   ·have a1:¬ k - 1 = kx:=by omega
    simp [e3,a1]
 ·exact rowv_off (rowv_off (rowPop h.row) ((Only.refl (fun k=>k = b) _).set (.inr rfl) _ _) (fun k hk e=>hgb (by cases hk;exact e))) ((Only.refl (fun k=>k = b) _).set (.inr rfl) _ _) (fun k hk e=>hgb (by cases hk;exact e))
 ·intro i hi
  obtain ⟨z0,z1,z2⟩:=h.at_ i (by simp;omega)
  rw [get_init l q i hi] at z0 z1 z2
  refine ⟨z0,z1,?_⟩
  rw [if_neg (fun e=>by rw [e,x3] at z2;omega)]
  exact z2
 ·intro k hk
  by_cases e1:k = kx
  ·exact .inl (if_pos e1)
  ·simp only [if_neg e1]
   rcases h.idx k hk with h0 | ⟨m,h1,h2,h3⟩
   ·exact .inl h0
   ·have hm:m < l.length:=by
     rcases Nat.lt_or_ge m l.length with hm | hm
     ·exact hm
     ·obtain rfl:m = l.length:=by simp at h2;omega
      rw [get_last,hq] at h3
      exact absurd (by omega) e1
    exact .inr ⟨m,h1,hm,by rw [← get_init l q m hm];exact h3⟩
theorem Bx.only {S:Nat → Prop} {w w':World} {b:Nat} {v:Value} {l:List Pr} {F:Nat → Int} (h:Bx w b v l F) (o:Only S w w') (hs:∀ j,Bf b v j → ¬ S j):Bx w' b v l F:=
 ⟨h.cs.only o (hs b (.inl rfl)),rowv_off h.row o (fun j hj=>hs j (.inr hj)),h.ne,h.at_,h.idx⟩
theorem split_last (l:List Pr) (n:Nat) (q:Pr) (hl:l.length = n + 1) (hq:l[n]?.getD pz = q):l = l.take n ++ [q]:=by
 have h1:l.take (n + 1) = l.take n ++ [l[n]'(by omega)]:=List.take_succ_eq_append_getElem (by omega)
 rw [List.take_of_length_le (by omega)] at h1
 have h2:l[n]'(by omega) = q:=by rw [← hq,List.getElem?_eq_getElem (by omega)];rfl
 rw [h2] at h1
 exact h1
def PopP (b g cap:Nat) (c:Nat) (D:Nat → Option Int) (n:Nat) (q:Pr) (w:World) (e:Ending) (w':World):Prop:=
 (∃ v,e = .returned v) ∧ Hx b (.slice (some ⟨g,0,none⟩) n cap) (fun k=>if k = q.1.toNat then none else D k) n n q w' ∧ Only (Bf b (.slice (some ⟨g,0,none⟩) c cap)) w w'
theorem Hx.pop {b g c cap:Nat} {D:Nat → Option Int} {n:Nat} {q:Pr} {w:World} (h:Hx b (.slice (some ⟨g,0,none⟩) c cap) D (n + 1) n q w) (hn:n < 64):Calls Tryz.prog 402 #[.pointer (some ⟨b,0,none⟩)] w (PopP b g cap c D n q w):=by
 obtain ⟨l,F,hb,hl,h1,h2,h3⟩:=h.bx
 have hq:=h3 (by omega)
 obtain ⟨L,hL⟩:∃ L,L = l.take n:=⟨_,rfl⟩
 have hs:=split_last l n q hl hq
 rw [← hL] at hs
 have hLn:L.length = n:=by rw [hL,List.length_take];omega
 subst hs
 obtain ⟨x0,x1,x3⟩:=hb.at_ n (by omega)
 rw [hq] at x0 x1 x3
 obtain ⟨kx,hkx⟩:∃ k:Nat,q.1 = k:=⟨q.1.toNat,by omega⟩
 obtain ⟨i0,i1,hg,hc⟩:=hb.cell n (by omega)
 rw [hq,hkx] at i0
 rw [hq] at i1
 have hgb:¬ g = b:=fun e=>hb.ne (by rw [e];rfl)
 have c0:=hb.cs.cell (i:=0) (by decide)
 simp only [if_true] at c0
 have a1:=hb.cs.cell (i:=1 + kx) (by omega)
 simp only [show ¬ 1 + kx = 0 by omega,if_false] at a1
 have hcap:n + 1 ≤ cap:=by
  obtain ⟨_,⟨h0,_⟩ | ⟨g',cap',cur,he,_,_,hn',_⟩⟩:=hb.row
  ·cases h0
  ·simp only [Value.slice.injEq] at he;omega
 obtain rfl:c = n + 1:=by omega
 refine (pop_walk b g n cap kx q.2 _ w c0 (hb.cs.free _) i0 i1 a1 (hb.cs.free _) hgb (fun e=>hgb e.symm) hb.cs.lt hg (by omega) hn hcap).mono ?_
 rintro e w' ⟨rfl,rfl⟩
 have hP:=hb.pop (kx:=kx) hkx
 rw [hLn] at hP
 refine ⟨⟨_,rfl⟩,⟨L,_,hP.only (((Only.refl (fun _=>False) _).alloc _).drew) (fun _ _ x=>x),hLn,?_,?_,fun x=>absurd x (Nat.lt_irrefl _)⟩,?_⟩
 ·intro i hi
  have:=h1 i (by omega)
  rw [get_init L q i (by omega)] at this
  obtain ⟨z0,z1,z2⟩:=hb.at_ i (by omega)
  rw [get_init L q i (by omega)] at z2
  rw [if_neg (fun e=>by rw [e,x3] at z2;omega)]
  exact this
 ·intro k hk hF
  by_cases e1:k = kx
  ·rw [if_pos (by omega)]
  ·rw [if_neg e1] at hF
   rw [if_neg (by omega)]
   exact h2 k hk hF
 ·exact ((((Only.refl (Bf b (.slice (some ⟨g,0,none⟩) (n + 1) cap)) w).set (.inr (.inl rfl)) _ _).set (.inr (.inl rfl)) _ _).alloc _).drew
end Go.Proofs.YtgadhchejmlfjaaGreatDoor.Sig
end
section
namespace Go.Proofs.YtgadhchejmlfjaaGreatDoor.Sig
open Go.RowKit Go.Esc
theorem zero213:Tryz.zeroCells213.toList = .slice none 0 0 :: List.replicate 64 (.int .i64 0):=by kernel_rfl
def bxF (k i:Nat):Value:=if i = 0 then .slice none 0 0 else .int .i64 (if i - 1 < k then -1 else 0)
theorem cells213 (w:World):Cells (w.alloc (.cells Tryz.zeroCells213 213)) w.heap.size 65 213 (bxF 0):=by
 have hs:Tryz.zeroCells213.size = 65:=by kernel_rfl
 refine ⟨_,Blk.new w Tryz.zeroCells213 213,hs,fun i hi=>?_⟩
 rw [← Array.getElem?_toList,zero213]
 unfold bxF
 cases i with
 | zero=>rfl
 | succ i=>
  have h1:i < 64:=by omega
  show (List.replicate 64 (Value.int .i64 0))[i]? = _
  rw [List.getElem?_replicate,if_pos h1,if_neg (Nat.succ_ne_zero i),if_neg (by omega)]
set_option maxHeartbeats 2000000 in
theorem snew_any (w:World):Calls Tryz.prog 47 #[] w fun e w'=>∃ b,e = .returned (.pointer (some ⟨b,0,none⟩)) ∧ w.heap.size ≤ b ∧ Bx w' b (.slice none 0 0) [] (fun _=>-1) ∧ Below w.heap.size w w':=by
 have HC:=Lib.hid (cells213 w)
 have HB:=Lib.hid (below_alloc (Below.refl w.heap.size w) (.cells Tryz.zeroCells213 213))
 go_enter Tryz.func47,Tryz.ntmps47
 go_wp2
 generalize hL:w.heap.size = L at *
 generalize w.alloc (.cells Tryz.zeroCells213 213) = W0 at *
 have HL:=Lib.hid hL
 clear hL
 go_loopw [5] (fun t wr=>∃ k:Nat,k ≤ 64 ∧ t = .int .i64 k ∧ Cells wr L 65 213 (bxF k) ∧ Below L w wr) (fun t _=>64 - (intOf t).toNat)
 case atStart=>exact ⟨0,Nat.zero_le _,rfl,HC.out,HB.out⟩
 case round=>
  obtain ⟨k,hk,rfl,hC,hB⟩:=hrel
  by_cases hlt:k < 64
  ·have hkn:(k:Int) < 64:=by omega
   have c1:=hC.cell (i:=1 + k) (by omega)
   have f1:=hC.free (1 + k)
   have hk1:¬ (1 + k = 0):=by omega
   unfold bxF at c1
   rw [if_neg hk1,if_neg (by omega)] at c1
   have HC2:=Lib.hid (hC.set (i:=1 + k) (by omega) (.int .i64 (-1)))
   have HB2:=Lib.hid (hB.setCell (p:=⟨L,1 + k,none⟩) (Nat.le_refl _) (.int .i64 (-1)))
   clear hC hB
   go_wp2
   go_roundw
   case rel=>exact ⟨k + 1,by omega,by go_num,HC2.out.congr (fun i hi=>by
     unfold bxF
     by_cases h0:i = 1 + k
     ·rw [if_pos h0,if_neg (by omega),if_pos (by omega)]
     ·rw [if_neg h0]
      by_cases h1:i = 0
      ·rw [if_pos h1,if_pos h1]
      ·rw [if_neg h1,if_neg h1]
       by_cases h2:i - 1 < k
       ·rw [if_pos h2,if_pos (by omega)]
       ·rw [if_neg h2,if_neg (by omega)]),HB2.out⟩
   case measure=>simp [intOf];omega
  ·obtain rfl:k = 64:=by omega
   have HC2:=Lib.hid hC
   have HB2:=Lib.hid hB
   clear hC hB hlt hk
   go_wp2
   go_ret
   refine ⟨L,rfl,by rw [HL.out];exact Nat.le_refl _,?_,by rw [HL.out];exact HB2.out⟩
   refine ⟨HC2.out.congr (fun i hi=>?_),?_,by simp [Value.ownBlock],fun i hi=>by simp at hi,fun k hk=>.inl rfl⟩
   ·unfold bxF
    by_cases h1:i = 0
    ·rw [if_pos h1,if_pos h1]
    ·rw [if_neg h1,if_neg h1,if_pos (by omega)]
   ·exact World.ownsRow_nil wr 0 222 2
end Go.Proofs.YtgadhchejmlfjaaGreatDoor.Sig
end
