/- Contracts ported from other seats by program (tod.py): Ring RingTake RingPut RingFill. -/
import Derived.Test.YtgadhchejmlfjaaGreatDoorA5
set_option linter.unusedVariables false
set_option maxRecDepth 20000
namespace Go.Proofs.YtgadhchejmlfjaaGreatDoor.Ring
open Go.RowKit Go.Esc
structure Rg (w:World) (b g size:Nat) (nx:Int) (hd tl:Nat) (F:Nat → Int):Prop where
 blk:Blk w b #[.int .i64 nx,.slice (some ⟨g,0,none⟩) size size,.int .u32 hd,.int .u32 tl] 219
 cells:Cells w g size 3 (fun i=>.int .i64 (F i))
 ne:b ≠ g
 hlt:hd < size
 hle:hd ≤ tl
 tle:tl ≤ hd + size
 lo:2 ≤ size
 hi:size ≤ 256
 nx0:0 ≤ nx
theorem Rg.cell0 {w:World} {b g size:Nat} {nx:Int} {hd tl:Nat} {F:Nat → Int} (h:Rg w b g size nx hd tl F):w.cell? ⟨b,0,none⟩ = some (.int .i64 nx):=h.blk.cell 0
theorem Rg.cell1 {w:World} {b g size:Nat} {nx:Int} {hd tl:Nat} {F:Nat → Int} (h:Rg w b g size nx hd tl F):w.cell? ⟨b,1,none⟩ = some (.slice (some ⟨g,0,none⟩) size size):=h.blk.cell 1
theorem Rg.cell2 {w:World} {b g size:Nat} {nx:Int} {hd tl:Nat} {F:Nat → Int} (h:Rg w b g size nx hd tl F):w.cell? ⟨b,2,none⟩ = some (.int .u32 hd):=h.blk.cell 2
theorem Rg.cell3 {w:World} {b g size:Nat} {nx:Int} {hd tl:Nat} {F:Nat → Int} (h:Rg w b g size nx hd tl F):w.cell? ⟨b,3,none⟩ = some (.int .u32 tl):=h.blk.cell 3
theorem Rg.drewN {w:World} {b g size:Nat} {nx:Int} {hd tl:Nat} {F:Nat → Int} (h:Rg w b g size nx hd tl F) (n:Nat):Rg (w.drewN n) b g size nx hd tl F:=⟨h.blk,h.cells,h.ne,h.hlt,h.hle,h.tle,h.lo,h.hi,h.nx0⟩
def IntQ (x:Int) (w:World) (e:Ending) (w':World):Prop:=e = .returned (.int .i64 x) ∧ ∃ n,w' = w.drewN n
set_option maxHeartbeats 1000000 in
theorem row_any (b g size:Nat) (nx:Int) (hd tl:Nat) (F:Nat → Int) (w:World) (h:Rg w b g size nx hd tl F):Calls Tryz.prog 167 #[.pointer (some ⟨b,0,none⟩)] w (IntQ ((tl - hd:Nat):Int) w):=by
 have c2:=h.cell2
 have c3:=h.cell3
 have h1:=h.hlt
 have h2:=h.hle
 have h3:=h.tle
 have h4:=h.hi
 clear h
 obtain ⟨n,hn⟩:∃ n,n = tl - hd:=⟨_,rfl⟩
 have e1:IntKind.u32.wrap ((tl:Int) - hd) = n:=by rw [IntWalk.u32_in _ (by omega)];omega
 have e2:IntKind.i64.wrap (n:Int) = n:=IntWalk.i64_in _ (by omega)
 rw [← hn]
 have HN:=Lib.hid hn
 clear hn h1 h2 h3
 go_enter Tryz.func167,Tryz.ntmps167
 go_wp2
 go_quiet (fail)
 go_wp2
 go_ret
 exact ⟨rfl,_,rfl⟩
set_option maxHeartbeats 1000000 in
theorem at_any (b g size:Nat) (nx:Int) (hd tl:Nat) (F:Nat → Int) (k:Nat) (w:World) (h:Rg w b g size nx hd tl F) (hk:k ≤ size):Calls Tryz.prog 197 #[.pointer (some ⟨b,0,none⟩),.int .i64 k] w fun e w'=>e = .returned (.pointer (some ⟨g,(hd + k) % size,none⟩)) ∧ ∃ n,w' = w.drewN n:=by
 have c1:=h.cell1
 have c2:=h.cell2
 have h1:=h.hlt
 have h4:=h.hi
 have h5:=h.lo
 clear h
 obtain ⟨j,hj⟩:∃ j,j = (hd + k) % size:=⟨_,rfl⟩
 have hjs:j < size:=by rw [hj];exact Nat.mod_lt _ (by omega)
 have e1:IntKind.i64.wrap ((hd:Int) + k) = (hd:Int) + k:=IntWalk.i64_in _ (by omega)
 have e0:IntKind.i64.wrap (hd:Int) = (hd:Int):=IntWalk.i64_in _ (by omega)
 have e2:((hd:Int) + k).tmod size = (j:Int):=by rw [hj];norm_cast
 have hz:((size:Int) == 0) = false:=by rw [beq_eq_false_iff_ne];omega
 rw [← hj]
 have HJ:=Lib.hid hj
 have hjz:(j:Int) < (size:Int):=by omega
 clear hj
 go_enter Tryz.func197,Tryz.ntmps197
 go_wp2
 go_quiet (fail)
 go_wp2
 go_ret
 exact ⟨rfl,_,rfl⟩
set_option maxHeartbeats 1000000 in
theorem next_any (b g size:Nat) (nx:Int) (hd tl:Nat) (F:Nat → Int) (w:World) (h:Rg w b g size nx hd tl F):Calls Tryz.prog 196 #[.pointer (some ⟨b,0,none⟩)] w fun e w'=>e = .returned (.int .i64 nx) ∧ w = w':=by
 have c0:=h.cell0
 clear h
 go_enter Tryz.func196,Tryz.ntmps196
 go_wp2
 go_ret
 exact ⟨rfl,rfl⟩
def rowL (size hd tl:Nat) (F:Nat → Int):List Int:=(List.range (tl - hd)).map fun k=>F ((hd + k) % size)
def allL (nx:Int) (row:List Int):List Int:=(if 0 < nx then [nx] else []) ++ row
theorem rowL_len (size hd tl:Nat) (F:Nat → Int):(rowL size hd tl F).length = tl - hd:=by simp [rowL]
set_option maxHeartbeats 1000000 in
theorem len_any (b g size:Nat) (nx:Int) (hd tl:Nat) (F:Nat → Int) (w:World) (h:Rg w b g size nx hd tl F):Calls Tryz.prog 333 #[.pointer (some ⟨b,0,none⟩)] w (IntQ ((allL nx (rowL size hd tl F)).length) w):=by
 have HL:Hid ((allL nx (rowL size hd tl F)).length = (if 0 < nx then 1 else 0) + (tl - hd)):=by show _ = _;rw [allL,List.length_append,rowL_len];split <;> rfl
 have HN:=Lib.hid (next_any b g size nx hd tl F w h)
 have HR:=Lib.hid (row_any b g size nx hd tl F w h)
 have h3:=h.tle
 have h4:=h.hi
 clear h
 obtain ⟨n,hn⟩:∃ n,n = tl - hd:=⟨_,rfl⟩
 rw [HL.out]
 rw [← hn] at HR ⊢
 have hnb:n ≤ 256:=by omega
 clear hn h3
 by_cases hx:0 < nx
 ·rw [if_pos hx]
  go_enter Tryz.func333,Tryz.ntmps333
  go_wp2_with fail
  refine HN.out.mono ?_
  rintro e w1 ⟨rfl,rfl⟩
  go_wp2_with fail
  refine HR.out.mono ?_
  rintro e w1 ⟨rfl,m,rfl⟩
  go_wp2_with fail
  go_ret
  exact ⟨ret_int (by omega),m,rfl⟩
 ·rw [if_neg hx]
  have hd:decide (0 < nx) = false:=by simpa using hx
  go_enter Tryz.func333,Tryz.ntmps333
  go_wp2_with fail
  refine HN.out.mono ?_
  rintro e w1 ⟨rfl,rfl⟩
  go_wp2_with fail
  refine HR.out.mono ?_
  rintro e w1 ⟨rfl,m,rfl⟩
  go_wp2_with fail
  go_ret
  exact ⟨ret_int (by omega),m,rfl⟩
open Go.RowKit Go.Esc
def Sg (b g:Nat) (j:Nat):Prop:=j = b ∨ j = g
theorem Rg.only {S:Nat → Prop} {w w':World} {b g size:Nat} {nx:Int} {hd tl:Nat} {F:Nat → Int} (h:Rg w b g size nx hd tl F) (o:Only S w w') (hb:¬ S b) (hg:¬ S g):Rg w' b g size nx hd tl F:=
 ⟨h.blk.only o hb,h.cells.only o hg,h.ne,h.hlt,h.hle,h.tle,h.lo,h.hi,h.nx0⟩
theorem Rg.below {w w':World} {b g size:Nat} {nx:Int} {hd tl:Nat} {F:Nat → Int} (h:Rg w b g size nx hd tl F) (o:Below w.heap.size w w'):Rg w' b g size nx hd tl F:=
 h.only (S:=fun _=>False) ((Only.refl _ w).below o) (fun x=>x) (fun x=>x)
def Rw (w:World) (b g size:Nat) (nx:Int) (row:List Int):Prop:=∃ hd tl F,Rg w b g size nx hd tl F ∧ rowL size hd tl F = row
theorem Rw.only {S:Nat → Prop} {w w':World} {b g size:Nat} {nx:Int} {row:List Int} (h:Rw w b g size nx row) (o:Only S w w') (hs:∀ j,Sg b g j → ¬ S j):Rw w' b g size nx row:=by
 obtain ⟨hd,tl,F,h,hr⟩:=h
 exact ⟨hd,tl,F,h.only o (hs b (.inl rfl)) (hs g (.inr rfl)),hr⟩
theorem Rw.below {w w':World} {b g size:Nat} {nx:Int} {row:List Int} (h:Rw w b g size nx row) (o:Below w.heap.size w w'):Rw w' b g size nx row:=
 h.only (S:=fun _=>False) ((Only.refl _ w).below o) (fun _ _ x=>x)
theorem Rw.drewN {w:World} {b g size:Nat} {nx:Int} {row:List Int} (h:Rw w b g size nx row) (n:Nat):Rw (w.drewN n) b g size nx row:=by
 obtain ⟨hd,tl,F,h,hr⟩:=h
 exact ⟨hd,tl,F,h.drewN n,hr⟩
theorem Rw.lt {w:World} {b g size:Nat} {nx:Int} {row:List Int} (h:Rw w b g size nx row):b < w.heap.size ∧ g < w.heap.size:=by
 obtain ⟨hd,tl,F,h,hr⟩:=h
 exact ⟨h.blk.lt,h.cells.lt⟩
theorem Rw.nums {w:World} {b g size:Nat} {nx:Int} {row:List Int} (h:Rw w b g size nx row):row.length ≤ size ∧ 2 ≤ size ∧ size ≤ 256 ∧ 0 ≤ nx ∧ b ≠ g:=by
 obtain ⟨hd,tl,F,h,rfl⟩:=h
 rw [rowL_len]
 have:=h.tle
 exact ⟨by omega,h.lo,h.hi,h.nx0,h.ne⟩
theorem rowL_take (size hd tl:Nat) (F:Nat → Int) (k:Nat) (h:k < tl - hd):(rowL size hd tl F).take (k + 1) = (rowL size hd tl F).take k ++ [F ((hd + k) % size)]:=by
 rw [List.take_succ_eq_append_getElem (by rw [rowL_len];exact h)]
 simp [rowL]
theorem rowL_drop (size hd tl:Nat) (F:Nat → Int) (n:Nat) (h:n ≤ tl - hd):rowL size (hd + n) tl F = (rowL size hd tl F).drop n:=by
 apply List.ext_getElem
 ·simp [rowL];omega
 ·intro i h1 h2
  simp [rowL,Nat.add_assoc]
theorem rowL_round (size hd tl:Nat) (F:Nat → Int) (h:size ≤ hd) (ht:hd ≤ tl):rowL size (hd - size) (tl - size) F = rowL size hd tl F:=by
 apply List.ext_getElem
 ·simp [rowL];omega
 ·intro i h1 h2
  simp only [rowL,List.getElem_map,List.getElem_range]
  congr 1
  rw [show hd + i = (hd - size + i) + size by omega,Nat.add_mod_right]
theorem rowL_push (size hd tl:Nat) (F:Nat → Int) (x:Int) (hle:hd ≤ tl) (h:tl < hd + size):rowL size hd (tl + 1) (fun i=>if i = (hd + (tl - hd)) % size then x else F i) = rowL size hd tl F ++ [x]:=by
 unfold rowL
 rw [show tl + 1 - hd = (tl - hd) + 1 by omega,List.range_succ,List.map_append]
 congr 1
 ·apply List.map_congr_left
  intro k hk
  have hk':k < tl - hd:=List.mem_range.1 hk
  show (if (hd + k) % size = (hd + (tl - hd)) % size then x else F ((hd + k) % size)) = F ((hd + k) % size)
  rw [if_neg]
  intro e
  have h1:=Nat.sub_mod_eq_zero_of_mod_eq e.symm
  rw [show hd + (tl - hd) - (hd + k) = tl - hd - k by omega,Nat.mod_eq_of_lt (by omega)] at h1
  omega
 ·simp
def RoundPost (b g size:Nat) (nx:Int) (hd tl:Nat) (w:World) (e:Ending) (w':World):Prop:=
 (∃ v,e = .returned v) ∧ Blk w' b #[.int .i64 nx,.slice (some ⟨g,0,none⟩) size size,.int .u32 ((if size ≤ hd then hd - size else hd:Nat):Int),.int .u32 ((if size ≤ hd then tl - size else tl:Nat):Int)] 219 ∧ Only (fun j=>j = b) w w'
set_option maxHeartbeats 1000000 in
theorem round_any (b g size:Nat) (nx:Int) (hd tl:Nat) (w:World) (h:Blk w b #[.int .i64 nx,.slice (some ⟨g,0,none⟩) size size,.int .u32 hd,.int .u32 tl] 219) (hle:hd ≤ tl) (htl:tl ≤ 100000) (hs:size ≤ 256):Calls Tryz.prog 236 #[.pointer (some ⟨b,0,none⟩)] w (RoundPost b g size nx hd tl w):=by
 have c1:=h.cell 1
 have c2:=h.cell 2
 have c3:=h.cell 3
 have f2:=h.free 2
 have f3:=h.free 3
 have hlt:=h.lt
 simp only [List.getElem?_toArray,List.getElem?_cons_zero,List.getElem?_cons_succ] at c1 c2 c3
 have HB:=Lib.hid h
 clear h
 have e1:IntKind.u32.wrap (size:Int) = size:=IntWalk.u32_in _ (by omega)
 by_cases hc:size ≤ hd
 ·have hdec:decide ((size:Int) ≤ (hd:Int)) = true:=by simp;omega
  unfold RoundPost
  rw [if_pos hc,if_pos hc]
  obtain ⟨p,hp⟩:∃ p,p = hd - size:=⟨_,rfl⟩
  obtain ⟨q,hq⟩:∃ q,q = tl - size:=⟨_,rfl⟩
  have e2:IntKind.u32.wrap ((hd:Int) - size) = p:=by rw [IntWalk.u32_in _ (by omega)];omega
  have e3:IntKind.u32.wrap ((tl:Int) - size) = q:=by rw [IntWalk.u32_in _ (by omega)];omega
  rw [← hp,← hq]
  clear hp hq
  go_enter Tryz.func236,Tryz.ntmps236
  go_wp2
  go_region
  all_goals
   go_end0
   exact ⟨⟨_,rfl⟩,(HB.out.set 2 (.int .u32 p)).set 3 (.int .u32 q),(((Only.refl (fun j=>j = b) w).set (.inr rfl) _ _).set (.inr rfl) _ _).drew⟩
 ·have hdec:decide ((size:Int) ≤ (hd:Int)) = false:=by simp;omega
  unfold RoundPost
  rw [if_neg hc,if_neg hc]
  go_enter Tryz.func236,Tryz.ntmps236
  go_wp2
  go_end0
  exact ⟨⟨_,rfl⟩,HB.out,Only.refl _ _⟩
def OutPost (b g size:Nat) (nx:Int) (row out:List Int) (w:World) (e:Ending) (w':World):Prop:=
 ∃ v,e = .returned v ∧ OwnI w' w.heap.size v out ∧ Rw w' b g size nx row ∧ Only (Sg b g) w w'
set_option maxHeartbeats 2000000 in
theorem take_any (b g size:Nat) (nx:Int) (row:List Int) (n:Nat) (w:World) (h:Rw w b g size nx row) (hn:n ≤ row.length):Calls Tryz.prog 168 #[.pointer (some ⟨b,0,none⟩),.int .i64 n] w (OutPost b g size nx (row.drop n) (row.take n) w):=by
 obtain ⟨hd,tl,F,h,rfl⟩:=h
 rw [rowL_len] at hn
 have h1:=h.hlt
 have h2:=h.hle
 have h3:=h.tle
 have h4:=h.hi
 have h5:=h.lo
 have hbl:=h.blk.lt
 have hgl:=h.cells.lt
 have HG:=Lib.hid h
 clear h
 go_enter Tryz.func168,Tryz.ntmps168
 go_wp2
 go_loopw [4,7] (fun v i wr=>∃ k:Nat,k ≤ n ∧ i = .int .i64 k ∧ OwnI wr w.heap.size v ((rowL size hd tl F).take k) ∧ Below w.heap.size w wr) (fun _ i _=>n - (intOf i).toNat)
 case atStart=>exact ⟨0,Nat.zero_le _,rfl,by simpa using OwnI.nil _ _,Below.refl _ _⟩
 case round=>
  obtain ⟨k,hk,rfl,hown,hB⟩:=hrel
  have hG:=HG.out.below hB
  have hBs:=hB.size
  by_cases hlt:k < n
  ·have HR:=Lib.hid (rowL_take size hd tl F k (by omega))
   have hm:(hd + k) % size < size:=Nat.mod_lt _ (by omega)
   have cx:=hG.cells.cell hm
   have hlen:((rowL size hd tl F).take k).length + [F ((hd + k) % size)].length < 100000000:=by simp [rowL_len];omega
   have HLen:=Lib.hid hlen
   generalize (rowL size hd tl F).take k = l at *
   have HA:=Lib.hid (at_any b g size nx hd tl F k wr hG (by omega))
   generalize (hd + k) % size = j at *
   generalize F j = x at *
   have HO:=Lib.hid hown
   have HG1:=Lib.hid hG
   have HB:=Lib.hid hB
   clear hlen hown hG hB
   go_wp2_with fail
   refine HA.out.mono ?_
   rintro e w1 ⟨rfl,m,rfl⟩
   go_wp2_with (at_builtin;refine appX Tryz.underlying22 Glob.info3 w.heap.size _ rfl _ _ rfl _ _ _ [x] rfl rfl ((HO.out.drewN m).alloc _) (Slw.new1 (wr.drewN m) x) (by simp;omega) HLen.out ?_;intro v' w2 hA)
   go_roundw
   case rel=>exact ⟨k + 1,by omega,by go_num,by rw [HR.out];exact hA.1,below_grown (below_alloc (below_drewN HB.out m) _) hA.2.1 (fun j hj=>(HO.out.lt j hj).1)⟩
   case measure=>simp [intOf];omega
  ·obtain rfl:k = n:=by omega
   have c2:=hG.cell2
   have f2:=hG.blk.free 2
   have e1:IntKind.u32.wrap (k:Int) = k:=IntWalk.u32_in _ (by omega)
   obtain ⟨p,hp⟩:∃ p,p = hd + k:=⟨_,rfl⟩
   have e2:IntKind.u32.wrap ((hd:Int) + k) = (p:Int):=by rw [IntWalk.u32_in _ (by omega)];omega
   have HG1:=Lib.hid hG
   have HB:=Lib.hid hB
   have HO:=Lib.hid hown
   have HP:=Lib.hid hp
   have hlt2:b < wr.heap.size:=hG.blk.lt
   clear hG hB hown hp
   go_wp2_with fail
   have hb2:Blk (wr.setCell ⟨b,2,none⟩ (.int .u32 p)) b #[.int .i64 nx,.slice (some ⟨g,0,none⟩) size size,.int .u32 p,.int .u32 tl] 219:=HG1.out.blk.set 2 _
   refine (round_any _ _ _ _ _ _ _ hb2 (by have:=HP.out;omega) (by omega) (by omega)).mono ?_
   rintro e w2 ⟨⟨v,rfl⟩,hb3,hO3⟩
   have HO1:Hid (Only (fun j=>j = b) wr w2):=((Only.refl (fun j=>j = b) wr).set (.inr rfl) _ _).trans hO3
   have HB3:=Lib.hid hb3
   clear hb2 hb3 hO3
   go_wp2_with fail
   go_ret
   have hp:=HP.out
   refine ⟨_,rfl,HO.out.only HO1.out (fun j hj e=>by omega),⟨_,_,F,⟨HB3.out,HG1.out.cells.only HO1.out (fun e=>HG1.out.ne e.symm),HG1.out.ne,?_,?_,?_,h5,h4,HG1.out.nx0⟩,?_⟩,((Only.refl (Sg b g) w).below HB.out).andThen HO1.out (fun j _ hj=>.inl hj)⟩
   ·split <;> omega
   ·split <;> omega
   ·split <;> omega
   ·rw [← rowL_drop size hd tl F k (by omega),← hp]
    split
    ·exact rowL_round size p tl F (by omega) (by omega)
    ·rfl
def UnitPost (b g size:Nat) (nx:Int) (row:List Int) (w:World) (e:Ending) (w':World):Prop:=
 (∃ v,e = .returned v) ∧ Rw w' b g size nx row ∧ Only (Sg b g) w w'
set_option maxHeartbeats 2000000 in
theorem push_any (b g size:Nat) (nx:Int) (row:List Int) (x:Int) (w:World) (h:Rw w b g size nx row) (hn:row.length < size):Calls Tryz.prog 169 #[.pointer (some ⟨b,0,none⟩),.int .i64 x] w (UnitPost b g size nx (row ++ [x]) w):=by
 obtain ⟨hd,tl,F,h,rfl⟩:=h
 rw [rowL_len] at hn
 have h1:=h.hlt
 have h2:=h.hle
 have h3:=h.tle
 have h4:=h.hi
 have h5:=h.lo
 have hbl:=h.blk.lt
 have hgl:=h.cells.lt
 have HG:=Lib.hid h
 have HR:=Lib.hid (row_any b g size nx hd tl F w h)
 have HA:=Lib.hid (fun m=>at_any b g size nx hd tl F (tl - hd) (w.drewN m) (h.drewN m) (by omega))
 have HP:=Lib.hid (rowL_push size hd tl F x h2 (by omega))
 have hm:(hd + (tl - hd)) % size < size:=Nat.mod_lt _ (by omega)
 have cx:=h.cells.cell hm
 have fx:=h.cells.free ((hd + (tl - hd)) % size)
 have c3:=h.cell3
 have f3:=h.blk.free 3
 have hne:=h.ne
 have hne2:(b = g) = False:=by simp [hne]
 obtain ⟨n,hn⟩:∃ n,n = tl - hd:=⟨_,rfl⟩
 rw [← hn] at HR HA HP hm cx fx
 obtain ⟨j,hj⟩:∃ j,j = (hd + n) % size:=⟨_,rfl⟩
 have e1:IntKind.u32.wrap ((tl:Int) + 1) = (tl:Int) + 1:=IntWalk.u32_in _ (by omega)
 rw [← hj] at HA HP hm cx fx
 have HS:Hid (∀ n,Rg (((w.drewN n).setCell ⟨g,j,none⟩ (.int .i64 x)).setCell ⟨b,3,none⟩ (.int .u32 ((tl:Int) + 1))) b g size nx hd (tl + 1) (fun i=>if i = j then x else F i)):=by
  intro n
  replace h:=h.drewN n
  refine ⟨((h.blk.setOther hne _).set 3 _),?_,hne,h1,by omega,by omega,h5,h4,h.nx0⟩
  refine ((h.cells.set hm (.int .i64 x)).setOther (Ne.symm hne) _).congr (fun i hi=>?_)
  show (if i = j then _ else _) = _
  split <;> rfl
 clear hn hj h
 go_enter Tryz.func169,Tryz.ntmps169
 go_wp2_with fail
 refine HR.out.mono ?_
 rintro e w1 ⟨rfl,m,rfl⟩
 go_wp2_with fail
 refine (HA.out m).mono ?_
 rintro e w1 ⟨rfl,m',rfl⟩
 go_wp2_with fail
 go_end0
 refine ⟨⟨_,rfl⟩,⟨hd,tl + 1,_,HS.out _,HP.out⟩,(((Only.refl (Sg b g) w).drewN _).set (.inr (.inr rfl)) _ _).set (.inr (.inl rfl)) _ _⟩
def behindR (size:Nat) (row:List Int) (x:Int):List Int:=if row.length < size then row ++ [x] else row.drop (row.length / 2)
def behindO (size:Nat) (row:List Int) (x:Int):List Int:=if row.length < size then [] else row.take (row.length / 2) ++ [x]
theorem row_w (b g size:Nat) (nx:Int) (row:List Int) (w:World) (h:Rw w b g size nx row):Calls Tryz.prog 167 #[.pointer (some ⟨b,0,none⟩)] w (IntQ row.length w):=by
 obtain ⟨hd,tl,F,h,rfl⟩:=h
 rw [rowL_len]
 exact row_any b g size nx hd tl F w h
theorem row_same (b g size:Nat) (nx:Int) (row:List Int) (w:World) (h:Rw w b g size nx row):Calls Tryz.prog 167 #[.pointer (some ⟨b,0,none⟩)] w fun e w'=>e = .returned (.int .i64 row.length) ∧ ∃ n,w' = w.drewN n:=row_w b g size nx row w h
theorem Rw.cell1 {w:World} {b g size:Nat} {nx:Int} {row:List Int} (h:Rw w b g size nx row):w.cell? ⟨b,1,none⟩ = some (.slice (some ⟨g,0,none⟩) size size):=by
 obtain ⟨hd,tl,F,h,rfl⟩:=h;exact h.cell1
theorem Rw.cell0 {w:World} {b g size:Nat} {nx:Int} {row:List Int} (h:Rw w b g size nx row):w.cell? ⟨b,0,none⟩ = some (.int .i64 nx) ∧ w.frozen? ⟨b,0,none⟩ = false:=by
 obtain ⟨hd,tl,F,h,rfl⟩:=h;exact ⟨h.cell0,h.blk.free 0⟩
set_option maxHeartbeats 2000000 in
theorem behind_any (b g size:Nat) (nx:Int) (row:List Int) (x:Int) (w:World) (h:Rw w b g size nx row):Calls Tryz.prog 114 #[.pointer (some ⟨b,0,none⟩),.int .i64 x] w (OutPost b g size nx (behindR size row x) (behindO size row x) w):=by
 have c1:=h.cell1
 obtain ⟨hrl,hlo,hhi,hnx,hne⟩:=h.nums
 obtain ⟨hbl,hgl⟩:=h.lt
 have HR:=Lib.hid (fun m=>row_same b g size nx row _ (h.drewN m))
 unfold behindR behindO
 by_cases hc:row.length < size
 ·rw [if_pos hc,if_pos hc]
  have hd:((row.length:Int) == (size:Int)) = false:=by rw [beq_eq_false_iff_ne];omega
  have HP:=Lib.hid (fun m=>push_any b g size nx row x _ (h.drewN m) hc)
  clear h hnx
  go_enter Tryz.func114,Tryz.ntmps114
  go_wp2_with fail
  go_quiet ((go_at_call 167;exact Calls.quiet_of (HR.out _)))
  go_wp2_with fail
  refine (HP.out _).mono ?_
  rintro e w1 ⟨⟨v,rfl⟩,hR,hO⟩
  go_wp2_with fail
  go_ret
  exact ⟨_,rfl,OwnI.nil _ _,hR,⟨hO.os,hO.tape,hO.output,hO.size,hO.block⟩⟩
 ·rw [if_neg hc,if_neg hc]
  obtain rfl:size = row.length:=by omega
  have hd:((row.length:Int) == (row.length:Int)) = true:=by simp
  have HT:=Lib.hid (fun m=>take_any b g row.length nx row (row.length / 2) _ (h.drewN m) (by omega))
  obtain ⟨k,HK⟩:∃ k,Hid (k = row.length / 2):=⟨_,rfl⟩
  have hq:((row.length:Int)).tdiv 2 = (k:Int):=by rw [HK.out];norm_cast
  have hq2:(row.length:Int) / 2 = (k:Int):=by rw [HK.out];norm_cast
  have hk:k ≤ 256:=by rw [HK.out];omega
  rw [← HK.out] at HT ⊢
  have hlen:(row.take k).length + [x].length < 100000000:=by simp;omega
  have HLen:=Lib.hid hlen
  have HS:=Lib.hid (show w.heap.size ≤ w.heap.size from Nat.le_refl _)
  generalize row.take k = l at *
  generalize row.drop k = r' at *
  generalize row.length = size at *
  clear h hnx hlen hc
  go_enter Tryz.func114,Tryz.ntmps114
  go_wp2_with fail
  go_quiet ((go_at_call 167;exact Calls.quiet_of (HR.out _)))
  go_wp2_with fail
  refine (HT.out _).mono ?_
  rintro e w1 ⟨v,rfl,hown,hR,hO⟩
  have HOwn:Hid (OwnI w1 w.heap.size v l):=hown
  have HO:Hid (Only (Sg b g) w w1):=⟨hO.os,hO.tape,hO.output,hO.size,hO.block⟩
  have HRw:=Lib.hid hR
  have hsz:w.heap.size ≤ w1.heap.size:=hO.size
  clear hown hR hO
  go_wp2_with (at_builtin;refine appX Tryz.underlying22 Glob.info3 w.heap.size _ rfl _ _ rfl _ _ _ [x] rfl rfl (HOwn.out.alloc _) (Slw.new1 w1 x) (by simp;omega) HLen.out ?_;intro v' w2 hA;have HA:=Lib.hid hA;clear hA)
  go_ret
  have hO2:Only (fun j=>v.ownBlock = some j) w1 w2:=((Only.refl _ w1).alloc _).grown HA.out.2.1 (fun j hj=>.inr hj)
  exact ⟨_,rfl,HA.out.1,HRw.out.only hO2 (fun j hj hs=>by have:=(HOwn.out.lt j hs).1;rcases hj with rfl | rfl <;> omega),HO.out.andThen hO2 (fun j hj hs=>by have:=(HOwn.out.lt j hs).1;omega)⟩
open Go.RowKit Go.Esc
theorem Rg.setNx {w:World} {b g size:Nat} {nx:Int} {hd tl:Nat} {F:Nat → Int} (h:Rg w b g size nx hd tl F) (x:Int) (hx:0 ≤ x):Rg (w.setCell ⟨b,0,none⟩ (.int .i64 x)) b g size x hd tl F:=
 ⟨h.blk.set 0 _,h.cells.setOther (Ne.symm h.ne) _,h.ne,h.hlt,h.hle,h.tle,h.lo,h.hi,hx⟩
theorem Rw.setNx {w:World} {b g size:Nat} {nx:Int} {row:List Int} (h:Rw w b g size nx row) (x:Int) (hx:0 ≤ x):Rw (w.setCell ⟨b,0,none⟩ (.int .i64 x)) b g size x row:=by
 obtain ⟨hd,tl,F,h,hr⟩:=h
 exact ⟨hd,tl,F,h.setNx x hx,hr⟩
def putN (nx g:Int) (next:Bool):Int:=if g < 1 then nx else if next then g else nx
def putR (size:Nat) (nx:Int) (row:List Int) (g:Int) (next:Bool):List Int:=if g < 1 then row else if next then (if nx = 0 then row else behindR size row nx) else behindR size row g
def putO (size:Nat) (nx:Int) (row:List Int) (g:Int) (next:Bool):List Int:=if g < 1 then [] else if next then (if nx = 0 then [] else behindO size row nx) else behindO size row g
theorem OutPost.undrew {b g size:Nat} {nx:Int} {row out:List Int} {w:World} {n:Nat} {e:Ending} {w':World} (h:OutPost b g size nx row out (w.drewN n) e w'):OutPost b g size nx row out w e w':=by
 obtain ⟨v,h1,h2,h3,h4⟩:=h
 exact ⟨v,h1,h2,h3,⟨h4.os,h4.tape,h4.output,h4.size,h4.block⟩⟩
set_option maxHeartbeats 2000000 in
theorem put_any (b g size:Nat) (nx:Int) (row:List Int) (x:Int) (next:Bool) (w:World) (h:Rw w b g size nx row):Calls Tryz.prog 51 #[.pointer (some ⟨b,0,none⟩),.int .i64 x,.bool next] w (OutPost b g size (putN nx x next) (putR size nx row x next) (putO size nx row x next) w):=by
 unfold putN putR putO
 by_cases hx:x < 1
 ·rw [if_pos hx,if_pos hx,if_pos hx]
  have hdx:decide (x < 1) = true:=by simpa using hx
  have HH:=Lib.hid h
  clear h
  go_enter Tryz.func51,Tryz.ntmps51
  go_wp2
  go_ret
  exact ⟨_,rfl,OwnI.nil _ _,HH.out,Only.refl _ _⟩
 ·rw [if_neg hx,if_neg hx,if_neg hx]
  have hdx:decide (x < 1) = false:=by simpa using hx
  cases next with
  | false=>
   rw [if_neg (by simp),if_neg (by simp),if_neg (by simp)]
   have HB:=Lib.hid (behind_any b g size nx row x w h)
   clear h
   go_enter Tryz.func51,Tryz.ntmps51
   go_wp2_with fail
   refine HB.out.mono ?_
   rintro e w1 ⟨v,rfl,hown,hR,hO⟩
   go_wp2_with fail
   go_ret
   exact ⟨_,rfl,hown,hR,hO⟩
  | true=>
   rw [if_pos rfl,if_pos rfl,if_pos rfl]
   obtain ⟨c0,f0⟩:=h.cell0
   have hbl:=h.lt.1
   have HS:=Lib.hid (h.setNx x (by omega))
   have HO:Hid (Only (Sg b g) w (w.setCell ⟨b,0,none⟩ (.int .i64 x))):=(Only.refl (Sg b g) w).set (.inr (.inl rfl)) _ _
   by_cases hn:nx = 0
   ·subst hn
    rw [if_pos rfl,if_pos rfl]
    clear h
    go_enter Tryz.func51,Tryz.ntmps51
    go_wp2_with fail
    go_ret
    exact ⟨_,rfl,OwnI.nil _ _,HS.out,HO.out⟩
   ·rw [if_neg hn,if_neg hn]
    have hnb:(nx == 0) = false:=by rw [beq_eq_false_iff_ne];exact hn
    have HB:=Lib.hid (behind_any b g size x row nx _ HS.out)
    clear h
    go_enter Tryz.func51,Tryz.ntmps51
    go_wp2_with fail
    refine HB.out.mono ?_
    rintro e w1 ⟨v,rfl,hown,hR,hO⟩
    have HW:Hid (OwnI w1 w.heap.size v (behindO size row nx)):=by show OwnI w1 w.heap.size v (behindO size row nx);simpa using hown
    have HO1:=Lib.hid (HO.out.trans hO)
    have HR:=Lib.hid hR
    clear hown hO hR
    go_wp2_with fail
    go_ret
    exact ⟨_,rfl,HW.out,HR.out,HO1.out⟩
def getV (nx:Int) (row:List Int):Int:=if 0 < nx then nx else row.headD 0
def getB (nx:Int) (row:List Int):Bool:=if 0 < nx then true else !row.isEmpty
def getR (nx:Int) (row:List Int):List Int:=if 0 < nx then row else row.tail
def GetPost (b g size:Nat) (nx:Int) (row:List Int) (w:World) (e:Ending) (w':World):Prop:=
 e = .returned (.tuple #[.int .i64 (getV nx row),.bool (getB nx row)]) ∧ Rw w' b g size 0 (getR nx row) ∧ Only (Sg b g) w w'
theorem next_w (b g size:Nat) (nx:Int) (row:List Int) (w:World) (h:Rw w b g size nx row):Calls Tryz.prog 196 #[.pointer (some ⟨b,0,none⟩)] w fun e w'=>e = .returned (.int .i64 nx) ∧ w = w':=by
 obtain ⟨hd,tl,F,h,rfl⟩:=h
 exact next_any b g size nx hd tl F w h
theorem len_w (b g size:Nat) (nx:Int) (row:List Int) (w:World) (h:Rw w b g size nx row):Calls Tryz.prog 333 #[.pointer (some ⟨b,0,none⟩)] w (IntQ (allL nx row).length w):=by
 obtain ⟨hd,tl,F,h,rfl⟩:=h
 exact len_any b g size nx hd tl F w h
set_option maxHeartbeats 2000000 in
theorem get_any (b g size:Nat) (nx:Int) (row:List Int) (w:World) (h:Rw w b g size nx row):Calls Tryz.prog 241 #[.pointer (some ⟨b,0,none⟩)] w (GetPost b g size nx row w):=by
 have HN:=Lib.hid (next_w b g size nx row w h)
 have HR:=Lib.hid (row_w b g size nx row w h)
 obtain ⟨hrl,hlo,hhi,hnx,hne⟩:=h.nums
 unfold GetPost getV getB getR
 by_cases hx:0 < nx
 ·rw [if_pos hx,if_pos hx,if_pos hx]
  have hdx:decide (0 < nx) = true:=by simpa using hx
  obtain ⟨c0,f0⟩:=h.cell0
  have hbl:=h.lt.1
  have HS:=Lib.hid (h.setNx 0 (by omega))
  clear h
  go_enter Tryz.func241,Tryz.ntmps241
  go_wp2_with fail
  refine HN.out.mono ?_
  rintro e w1 ⟨rfl,rfl⟩
  go_wp2_with fail
  go_ret2
  exact ⟨rfl,HS.out,(Only.refl (Sg b g) w).set (.inr (.inl rfl)) _ _⟩
 ·rw [if_neg hx,if_neg hx,if_neg hx]
  obtain rfl:nx = 0:=by omega
  cases row with
  | nil=>
   have HH:=Lib.hid h
   clear h
   go_enter Tryz.func241,Tryz.ntmps241
   go_wp2_with fail
   refine HN.out.mono ?_
   rintro e w1 ⟨rfl,rfl⟩
   go_wp2_with fail
   refine HR.out.mono ?_
   rintro e w1 ⟨rfl,n,rfl⟩
   go_wp2_with fail
   go_ret2
   exact ⟨rfl,HH.out.drewN n,(Only.refl _ _).drewN n⟩
  | cons x r=>
   have hl:(((x :: r).length:Int) == 0) = false:=by rw [beq_eq_false_iff_ne];simp;omega
   have HT:=Lib.hid (fun m=>take_any b g size 0 (x :: r) 1 _ (h.drewN m) (by simp))
   generalize (x :: r).length = len at *
   clear h
   go_enter Tryz.func241,Tryz.ntmps241
   go_wp2_with fail
   refine HN.out.mono ?_
   rintro e w1 ⟨rfl,rfl⟩
   go_wp2_with fail
   refine HR.out.mono ?_
   rintro e w1 ⟨rfl,n,rfl⟩
   go_wp2_with fail
   refine (HT.out n).mono ?_
   rintro e w1 ⟨v,rfl,hown,hR,hO⟩
   obtain ⟨g',cap,rfl,hcx⟩:∃ g' cap,v = .slice (some ⟨g',0,none⟩) 1 cap ∧ w1.cell? ⟨g',0,none⟩ = some (.int .i64 x):=by
    rcases hown.open with ⟨_,h0⟩ | ⟨g',cap,h0,_,_,_,hc⟩
    ·simp at h0
    ·exact ⟨g',cap,by simpa using h0,by simpa using hc 0 (by simp)⟩
   have HRw:Hid (Rw w1 b g size 0 r):=by show Rw w1 b g size 0 r;simpa using hR
   have HO:Hid (Only (Sg b g) w w1):=⟨hO.os,hO.tape,hO.output,hO.size,hO.block⟩
   clear hown hR hO
   go_wp2_with fail
   go_ret2
   exact ⟨rfl,HRw.out,HO.out⟩
def grabN (nx:Int) (row:List Int):Int:=if row = [] then 0 else nx
def grabO (nx:Int) (row:List Int):List Int:=if row = [] then allL nx [] else row.take (row.length - row.length / 2)
def grabR (row:List Int):List Int:=row.drop (row.length - row.length / 2)
set_option maxHeartbeats 2000000 in
theorem grab_any (b g size:Nat) (nx:Int) (row:List Int) (w:World) (h:Rw w b g size nx row):Calls Tryz.prog 246 #[.pointer (some ⟨b,0,none⟩)] w (OutPost b g size (grabN nx row) (grabR row) (grabO nx row) w):=by
 have HR:=Lib.hid (row_w b g size nx row w h)
 obtain ⟨hrl,hlo,hhi,hnx,hne⟩:=h.nums
 unfold grabN grabO grabR
 by_cases hr:row = []
 ·subst hr
  rw [if_pos rfl,if_pos rfl]
  have HG:=Lib.hid (fun m=>get_any b g size nx [] _ (h.drewN m))
  clear h
  unfold GetPost getV getB getR at HG
  by_cases hx:0 < nx
  ·rw [if_pos hx,if_pos hx,if_pos hx] at HG
   have hall:allL nx [] = [nx]:=by simp [allL,hx]
   rw [hall]
   clear hall
   go_enter Tryz.func246,Tryz.ntmps246
   go_wp2_with fail
   refine HR.out.mono ?_
   rintro e w1 ⟨rfl,n,rfl⟩
   go_wp2_with fail
   refine (HG.out n).mono ?_
   rintro e w1 ⟨rfl,hR,hO⟩
   have HRw:=Lib.hid hR
   have HO:Hid (Only (Sg b g) w w1):=⟨hO.os,hO.tape,hO.output,hO.size,hO.block⟩
   clear hR hO
   go_wp2_with fail
   go_ret
   exact ⟨_,rfl,(OwnI.new (w:=w1) (l:=[nx]) (by simp [maxLen])).mono HO.out.size,HRw.out.below (below_alloc (Below.refl _ _) _),HO.out.alloc _⟩
  ·rw [if_neg hx,if_neg hx,if_neg hx] at HG
   have hall:allL nx [] = []:=by simp [allL,hx]
   rw [hall]
   clear hall
   go_enter Tryz.func246,Tryz.ntmps246
   go_wp2_with fail
   refine HR.out.mono ?_
   rintro e w1 ⟨rfl,n,rfl⟩
   go_wp2_with fail
   refine (HG.out n).mono ?_
   rintro e w1 ⟨rfl,hR,hO⟩
   have HRw:=Lib.hid hR
   have HO:Hid (Only (Sg b g) w w1):=⟨hO.os,hO.tape,hO.output,hO.size,hO.block⟩
   clear hR hO
   go_wp2_with fail
   go_ret
   exact ⟨_,rfl,OwnI.nil _ _,HRw.out,HO.out⟩
 ·rw [if_neg hr,if_neg hr]
  have hlp:0 < row.length:=List.length_pos_iff.2 hr
  have hd:decide ((0:Int) < (row.length:Int)) = true:=by simp;omega
  obtain ⟨k,HK⟩:∃ k,Hid (k = row.length - row.length / 2):=⟨_,rfl⟩
  have hq:(row.length:Int) - (row.length:Int) / 2 = (k:Int):=by rw [HK.out];omega
  have hk:k ≤ row.length:=by rw [HK.out];omega
  have HT:=Lib.hid (fun m=>take_any b g size nx row k _ (h.drewN m) hk)
  rw [← HK.out]
  generalize row.take k = l at *
  generalize row.drop k = r' at *
  generalize row.length = len at *
  clear h hr HK
  go_enter Tryz.func246,Tryz.ntmps246
  go_wp2_with fail
  refine HR.out.mono ?_
  rintro e w1 ⟨rfl,n,rfl⟩
  go_wp2_with fail
  refine (HT.out n).mono ?_
  rintro e w1 h1
  have h2:=h1.undrew
  obtain ⟨v,rfl,hown,hR,hO⟩:=h2
  clear h1
  go_wp2_with fail
  go_ret
  exact ⟨_,rfl,hown,hR,hO⟩
def ListPost (L:List Int) (w:World) (e:Ending) (w':World):Prop:=∃ v,e = .returned v ∧ OwnI w' w.heap.size v L ∧ Below w.heap.size w w'
set_option maxHeartbeats 4000000 in
theorem list_any (b g size:Nat) (nx:Int) (row:List Int) (w:World) (h:Rw w b g size nx row):Calls Tryz.prog 125 #[.pointer (some ⟨b,0,none⟩)] w (ListPost (allL nx row) w):=by
 have HN:=Lib.hid (next_w b g size nx row w h)
 have HRow:=Lib.hid (fun w1 hb=>row_w b g size nx row w1 (h.below (w':=w1) hb))
 obtain ⟨hd,tl,F,h,rfl⟩:=h
 have h1:=h.hlt
 have h2:=h.hle
 have h3:=h.tle
 have h4:=h.hi
 have h5:=h.lo
 have hbl:=h.blk.lt
 have hgl:=h.cells.lt
 have HG:=Lib.hid h
 rw [rowL_len] at HRow
 clear h
 obtain ⟨n,HNn⟩:∃ n,Hid (n = tl - hd):=⟨_,rfl⟩
 rw [← HNn.out] at HRow
 have hn:n ≤ 256:=by rw [HNn.out];omega
 have hn2:n ≤ size:=by rw [HNn.out];omega
 by_cases hx:0 < nx
 ·have hdx:decide (0 < nx) = true:=by simpa using hx
  have HAll:Hid (∀ l,allL nx l = nx :: l):=by intro l;simp [allL,hx]
  go_enter Tryz.func125,Tryz.ntmps125
  go_wp2_with fail
  refine HN.out.mono ?_
  rintro e w1 ⟨rfl,rfl⟩
  go_wp2_with (at_builtin;refine appX Tryz.underlying22 Glob.info3 w.heap.size _ rfl _ _ rfl (.slice none 0 0) [] _ [nx] rfl rfl (OwnI.nil _ _) (Slw.new1 w nx) (by simp) (by simp) ?_;intro v' w2 hA;have HA:=Lib.hid hA;clear hA)
  have hB2:Below w.heap.size w w2:=below_grown (below_alloc (Below.refl _ _) _) HA.out.2.1 (fun j hj=>by simp [Value.ownBlock] at hj)
  refine (HRow.out _ hB2).mono ?_
  rintro e w1 ⟨rfl,m,rfl⟩
  go_wp2_with fail
  go_loopw [2,15] (fun v i wr=>∃ k:Nat,k ≤ n ∧ i = .int .i64 k ∧ OwnI wr w.heap.size v (nx :: (rowL size hd tl F).take k) ∧ Below w.heap.size w wr) (fun _ i _=>n - (intOf i).toNat)
  case atStart=>exact ⟨0,Nat.zero_le _,rfl,HA.out.1.drewN m,below_drewN hB2 m⟩
  case round=>
   clear hB2 HA
   obtain ⟨k,hk,rfl,hown,hB⟩:=hrel
   have hG:=HG.out.below hB
   have hBs:=hB.size
   by_cases hlt:k < n
   ·have HR:=Lib.hid (rowL_take size hd tl F k (by rw [← HNn.out];exact hlt))
    have hm:(hd + k) % size < size:=Nat.mod_lt _ (by omega)
    have cx:=hG.cells.cell hm
    have hlen:(nx :: (rowL size hd tl F).take k).length + [F ((hd + k) % size)].length < 100000000:=by simp [rowL_len];omega
    have HLen:=Lib.hid hlen
    have HA:=Lib.hid (at_any b g size nx hd tl F k wr hG (by omega))
    obtain ⟨l,HLL⟩:∃ l,Hid (l = nx :: (rowL size hd tl F).take k):=⟨_,rfl⟩
    rw [← HLL.out] at hown HLen
    generalize (hd + k) % size = j at *
    generalize F j = x at *
    have HO:=Lib.hid hown
    have HG1:=Lib.hid hG
    have HB:=Lib.hid hB
    clear hlen hown hG hB
    go_wp2_with fail
    refine HA.out.mono ?_
    rintro e w1 ⟨rfl,m',rfl⟩
    go_wp2_with (at_builtin;refine appX Tryz.underlying22 Glob.info3 w.heap.size _ rfl _ _ rfl _ _ _ [x] rfl rfl ((HO.out.drewN m').alloc _) (Slw.new1 (wr.drewN m') x) (by simp;omega) HLen.out ?_;intro v' w2 hA)
    go_roundw
    case rel=>exact ⟨k + 1,by omega,by go_num,by rw [HR.out,← List.cons_append,← HLL.out];exact hA.1,below_grown (below_alloc (below_drewN HB.out m') _) hA.2.1 (fun j hj=>(HO.out.lt j hj).1)⟩
    case measure=>simp [intOf];omega
   ·obtain rfl:k = n:=by omega
    have HB:=Lib.hid hB
    have HO:Hid (OwnI wr w.heap.size u2 (allL nx (rowL size hd tl F))):=by
     show OwnI wr w.heap.size u2 (allL nx (rowL size hd tl F))
     rw [HAll.out]
     rwa [List.take_of_length_le (by rw [rowL_len,← HNn.out];exact Nat.le_refl _)] at hown
    clear hG hB hown
    go_wp2_with fail
    go_ret
    exact ⟨_,rfl,HO.out,HB.out⟩
 ·have hdx:decide (0 < nx) = false:=by simpa using hx
  have HAll:Hid (∀ l,allL nx l = l):=by intro l;simp [allL,hx]
  go_enter Tryz.func125,Tryz.ntmps125
  go_wp2_with fail
  refine HN.out.mono ?_
  rintro e w1 ⟨rfl,rfl⟩
  go_wp2_with fail
  refine (HRow.out _ (Below.refl _ _)).mono ?_
  rintro e w1 ⟨rfl,m,rfl⟩
  go_wp2_with fail
  go_loopw [2,15] (fun v i wr=>∃ k:Nat,k ≤ n ∧ i = .int .i64 k ∧ OwnI wr w.heap.size v ((rowL size hd tl F).take k) ∧ Below w.heap.size w wr) (fun _ i _=>n - (intOf i).toNat)
  case atStart=>exact ⟨0,Nat.zero_le _,rfl,by simpa using OwnI.nil _ _,below_drewN (Below.refl _ _) m⟩
  case round=>
   obtain ⟨k,hk,rfl,hown,hB⟩:=hrel
   have hG:=HG.out.below hB
   have hBs:=hB.size
   by_cases hlt:k < n
   ·have HR:=Lib.hid (rowL_take size hd tl F k (by rw [← HNn.out];exact hlt))
    have hm:(hd + k) % size < size:=Nat.mod_lt _ (by omega)
    have cx:=hG.cells.cell hm
    have hlen:((rowL size hd tl F).take k).length + [F ((hd + k) % size)].length < 100000000:=by simp [rowL_len];omega
    have HLen:=Lib.hid hlen
    have HA:=Lib.hid (at_any b g size nx hd tl F k wr hG (by omega))
    generalize (rowL size hd tl F).take k = l at *
    generalize (hd + k) % size = j at *
    generalize F j = x at *
    have HO:=Lib.hid hown
    have HG1:=Lib.hid hG
    have HB:=Lib.hid hB
    clear hlen hown hG hB
    go_wp2_with fail
    refine HA.out.mono ?_
    rintro e w1 ⟨rfl,m',rfl⟩
    go_wp2_with (at_builtin;refine appX Tryz.underlying22 Glob.info3 w.heap.size _ rfl _ _ rfl _ _ _ [x] rfl rfl ((HO.out.drewN m').alloc _) (Slw.new1 (wr.drewN m') x) (by simp;omega) HLen.out ?_;intro v' w2 hA)
    go_roundw
    case rel=>exact ⟨k + 1,by omega,by go_num,by rw [HR.out];exact hA.1,below_grown (below_alloc (below_drewN HB.out m') _) hA.2.1 (fun j hj=>(HO.out.lt j hj).1)⟩
    case measure=>simp [intOf];omega
   ·obtain rfl:k = n:=by omega
    have HB:=Lib.hid hB
    have HO:Hid (OwnI wr w.heap.size u2 (allL nx (rowL size hd tl F))):=by
     show OwnI wr w.heap.size u2 (allL nx (rowL size hd tl F))
     rw [HAll.out]
     rwa [List.take_of_length_le (by rw [rowL_len,← HNn.out];exact Nat.le_refl _)] at hown
    clear hG hB hown
    go_wp2_with fail
    go_ret
    exact ⟨_,rfl,HO.out,HB.out⟩
set_option maxHeartbeats 2000000 in
theorem drain_any (b g size:Nat) (nx:Int) (row:List Int) (w:World) (h:Rw w b g size nx row):Calls Tryz.prog 300 #[.pointer (some ⟨b,0,none⟩)] w (OutPost b g size 0 [] (allL nx row) w):=by
 have HL:=Lib.hid (list_any b g size nx row w h)
 have HH:=Lib.hid h
 have hlt:=h.lt
 clear h
 go_enter Tryz.func300,Tryz.ntmps300
 go_wp2_with fail
 refine HL.out.mono ?_
 rintro e w1 ⟨v,rfl,hown,hB⟩
 have HOwn:=Lib.hid hown
 have HB:=Lib.hid hB
 have h1:=HH.out.below hB
 have hlt1:=h1.lt.1
 obtain ⟨hd,tl,F,h1,hr⟩:=h1
 have c0:=h1.cell0
 have c2:=h1.cell2
 have c3:=h1.cell3
 have f0:=h1.blk.free 0
 have f2:=h1.blk.free 2
 have f3:=h1.blk.free 3
 have HR:Hid (Rg (((w1.setCell ⟨b,0,none⟩ (.int .i64 0)).setCell ⟨b,2,none⟩ (.int .u32 0)).setCell ⟨b,3,none⟩ (.int .u32 0)) b g size 0 0 0 F):=
  ⟨((h1.blk.set 0 _).set 2 _).set 3 _,((h1.cells.setOther (Ne.symm h1.ne) _).setOther (Ne.symm h1.ne) _).setOther (Ne.symm h1.ne) _,h1.ne,by have:=h1.lo;omega,Nat.le_refl _,by omega,h1.lo,h1.hi,Int.le_refl _⟩
 clear hown hB h1 hr
 go_wp2_with fail
 go_ret
 have hO:Only (Sg b g) w1 (((w1.setCell ⟨b,0,none⟩ (.int .i64 0)).setCell ⟨b,2,none⟩ (.int .u32 0)).setCell ⟨b,3,none⟩ (.int .u32 0)):=(((Only.refl (Sg b g) w1).set (.inr (.inl rfl)) _ _).set (.inr (.inl rfl)) _ _).set (.inr (.inl rfl)) _ _
 exact ⟨_,rfl,HOwn.out.only hO (fun j hj hs=>by rcases hs with rfl | rfl <;> omega),⟨0,0,F,HR.out,by simp [rowL]⟩,((Only.refl (Sg b g) w).below HB.out).trans hO⟩
theorem makeInts (m:Nat) (hm:m ≤ 100000) (w:World):(Instr.makeSlice 22 (.int .i64 (m:Int)) (.int .i64 (m:Int))).run Tryz.prog w = .ok (.slice (some ⟨w.heap.size,0,none⟩) m m) (w.alloc (.cells (madeCells #[.int .i64 0] m) 3)):=
 run_make_row' 22 3 (.int .i64 0) 8 Tryz.underlying22 Glob.info3 rfl .i64 .i64 m (by omega) (by omega) w
def ringBad (n:Int):Prop:=n < 2 ∨ 256 < n ∨ n % 2 = 1
instance (n:Int):Decidable (ringBad n):=by unfold ringBad;infer_instance
def NewPost (m:Nat) (w:World) (e:Ending) (w':World):Prop:=e = .returned (.pointer (some ⟨w.heap.size + 1,0,none⟩)) ∧ Rw w' (w.heap.size + 1) w.heap.size m 0 [] ∧ Below w.heap.size w w'
set_option maxHeartbeats 2000000 in
theorem new_good (m:Nat) (w:World) (h:¬ ringBad m):Calls Tryz.prog 165 #[.int .i64 m] w (NewPost m w):=by
 unfold ringBad at h
 have h1:2 ≤ m:=by omega
 have h2:m ≤ 256:=by omega
 have hd1:decide ((m:Int) < 2) = false:=by simp;omega
 have hd2:decide ((256:Int) < (m:Int)) = false:=by simp;omega
 have hd3:((m:Int) % 2 == 1) = false:=by rw [beq_eq_false_iff_ne];omega
 have hmk:=makeInts m (by omega)
 clear h
 go_enter Tryz.func165,Tryz.ntmps165
 go_wp2
 go_ret
 refine ⟨by simp,⟨0,0,fun _=>0,⟨Blk.new' _ _ (by simp),(Cells.made w m 3 (.int .i64 0)).alloc _,by omega,by omega,Nat.le_refl _,by omega,h1,h2,Int.le_refl _⟩,by simp [rowL]⟩,below_alloc (below_alloc (Below.refl _ _) _) _⟩
end Go.Proofs.YtgadhchejmlfjaaGreatDoor.Ring
namespace Go.Esc
open Go.RowKit
theorem Slw.only' {S:Nat → Prop} {w w':World} {v:Value} {l:List Int} (h:Slw w v l) (k:Only S w w') (hs:l ≠ [] → Off S v):Slw w' v l:=by
 by_cases hl:l = []
 ·obtain ⟨a,cap,hv,hn,hm,_⟩:=h
  exact ⟨a,cap,hv,hn,hm,.inl hl⟩
 ·exact h.only k (hs hl)
end Go.Esc
namespace Go.Proofs.YtgadhchejmlfjaaGreatDoor.Ring
open Go.RowKit Go.Esc
set_option maxHeartbeats 1000000 in
theorem clone_any (u:Value) (l:List Int) (w:World) (h:Slw w u l) (hl:l.length < 10000000):Calls Tryz.prog 288 #[u] w (ListPost l w):=by
 have hlen:([]:List Int).length + l.length < 100000000:=by simp;omega
 have HLen:=Lib.hid hlen
 have HS:=Lib.hid h
 have hnil:=fun (w:World) (a:Option Addr) (n c n' c':Nat)=>Lib.run_eql_slice_nil (P:=Tryz.prog) w 22 3 a n c n' c' Tryz.underlying22
 clear hlen
 rcases h.open with ⟨rfl,rfl⟩ | ⟨ad,cap,rfl,rfl⟩ | ⟨bu,off,cap,rfl,hne,hcap,hbu,hcells⟩
 ·clear h
  go_enter Tryz.func288,Tryz.ntmps288
  go_wp2
  go_ret
  exact ⟨_,rfl,OwnI.nil _ _,Below.refl _ _⟩
 ·clear h
  go_enter Tryz.func288,Tryz.ntmps288
  go_wp2_with (at_builtin;refine appX Tryz.underlying22 Glob.info3 w.heap.size _ rfl _ _ rfl _ [] _ [] rfl rfl (OwnI.new (w:=w) (l:=[]) (by simp)) (HS.out.alloc _) (by simp) (by simp) ?_;intro v' w2 hA;have HA:=Lib.hid hA;clear hA)
  go_ret
  exact ⟨_,rfl,HA.out.1,below_grown (below_alloc (Below.refl _ _) _) HA.out.2.1 (fun j hj=>by simp [Act.eval,Value.ownBlock] at hj;omega)⟩
 ·clear h hcells
  go_enter Tryz.func288,Tryz.ntmps288
  go_wp2_with (at_builtin;refine appX Tryz.underlying22 Glob.info3 w.heap.size _ rfl _ _ rfl _ [] _ l rfl rfl (OwnI.new (w:=w) (l:=[]) (by simp)) (HS.out.alloc _) (by simp) HLen.out ?_;intro v' w2 hA;have HA:=Lib.hid hA;clear hA)
  go_ret
  exact ⟨_,rfl,HA.out.1,below_grown (below_alloc (Below.refl _ _) _) HA.out.2.1 (fun j hj=>by simp [Act.eval,Value.ownBlock] at hj;omega)⟩
theorem low_any (x:Int) (w:World):Calls Tryz.prog 287 #[.int .i64 x] w fun e w'=>e = .returned (.bool (decide (x < 1))) ∧ w = w':=by
 go_enter Tryz.func287,Tryz.ntmps287
 go_wp2
 go_ret
 exact ⟨rfl,rfl⟩
def IdxPost (l:List Int) (w:World) (e:Ending) (w':World):Prop:=∃ k:Int,e = .returned (.int .i64 k) ∧ w = w' ∧ (decide (0 ≤ k) = l.any (fun x=>decide (x < 1)))
theorem any_take (l:List Int) (k:Nat) (h:k < l.length):(l.take (k + 1)).any (fun x=>decide (x < 1)) = ((l.take k).any (fun x=>decide (x < 1)) || decide (l[k]?.getD 0 < 1)):=by
 rw [List.take_succ_eq_append_getElem h,List.any_append]
 simp [h]
theorem any_of_take (l:List Int) (k:Nat) (h:(l.take k).any (fun x=>decide (x < 1)) = true):l.any (fun x=>decide (x < 1)) = true:=by
 rw [List.any_eq_true] at h ⊢
 obtain ⟨x,hx,h⟩:=h
 exact ⟨x,List.mem_of_mem_take hx,h⟩
set_option maxHeartbeats 1000000 in
theorem idx_any (u:Value) (l:List Int) (w:World) (h:Slw w u l) (hl:l.length < 10000000):Calls Tryz.prog 219 #[u,.func (.func 287) #[] #[]] w (IdxPost l w):=by
 obtain ⟨a,cap,rfl⟩:=h.len
 have HS:=Lib.hid h
 clear h
 go_enter Tryz.func219,Tryz.ntmps219
 go_wp2
 go_loop [8] (fun i=>∃ k:Nat,k ≤ l.length ∧ i = .int .i64 k ∧ Hid ((l.take k).any (fun x=>decide (x < 1)) = false)) (fun i=>l.length - (intOf i).toNat)
 case atStart=>exact ⟨0,Nat.zero_le _,rfl,by show _ = _;simp⟩
 case round=>
  obtain ⟨k,hk,rfl,HF⟩:=hrel
  by_cases hlt:k < l.length
  ·rcases HS.out.open with ⟨_,h0⟩ | ⟨_,_,_,h0⟩ | ⟨bu,off,cap',he,_,_,hbu,hcells⟩
   ·simp [h0] at hlt
   ·simp [h0] at hlt
   simp only [Value.slice.injEq] at he
   obtain ⟨rfl,_,rfl⟩:=he
   have cu:=hcells k hlt
   have HT:=Lib.hid (any_take l k hlt)
   have HU:=Lib.hid (any_of_take l (k + 1))
   generalize l[k]?.getD 0 = x at *
   clear hcells
   by_cases hx:x < 1
   ·have hdx:decide (x < 1) = true:=by simpa using hx
    go_wp2_with (go_at_call 287;refine (low_any _ _).mono ?_;rintro e w' ⟨rfl,rfl⟩)
    go_ret
    exact ⟨k,rfl,rfl,by rw [HU.out (by rw [HT.out,hdx];simp)];simp⟩
   ·have hdx:decide (x < 1) = false:=by simpa using hx
    go_wp2_with (go_at_call 287;refine (low_any _ _).mono ?_;rintro e w' ⟨rfl,rfl⟩)
    go_round
    case rel=>exact ⟨k + 1,by omega,by go_num,by show _ = _;rw [HT.out,HF.out,hdx];rfl⟩
    case measure=>simp [intOf];omega
  ·obtain rfl:k = l.length:=by omega
   rw [List.take_length] at HF
   go_wp2
   go_ret
   exact ⟨-1,rfl,rfl,by rw [HF.out];rfl⟩
theorem contains_any (u:Value) (l:List Int) (w:World) (h:Slw w u l) (hl:l.length < 10000000):Calls Tryz.prog 150 #[u,.func (.func 287) #[] #[]] w fun e w'=>e = .returned (.bool (l.any (fun x=>decide (x < 1)))) ∧ w = w':=by
 have HI:=Lib.hid (idx_any u l w h hl)
 clear h
 go_enter Tryz.func150,Tryz.ntmps150
 go_wp2_with fail
 refine HI.out.mono ?_
 rintro e w1 ⟨k,rfl,rfl,hk⟩
 have HK:=Lib.hid hk
 clear hk
 go_wp2_with fail
 go_ret
 exact ⟨ret_bool HK.out,rfl⟩
def fillR (size:Nat) (row l:List Int):List Int:=if l.any (fun x=>decide (x < 1)) then row else row ++ l.take (size - row.length)
def fillO (size:Nat) (row l:List Int):List Int:=if l.any (fun x=>decide (x < 1)) then [] else l.drop (size - row.length)
theorem fill_take (l:List Int) (k:Nat) (h:k < l.length):l.take (k + 1) = l.take k ++ [l[k]?.getD 0]:=by
 rw [List.take_succ_eq_append_getElem h];simp [h]
set_option maxHeartbeats 4000000 in
theorem fill_any (b g size:Nat) (nx:Int) (row:List Int) (u:Value) (l:List Int) (w:World) (h:Rw w b g size nx row) (hu:Slw w u l) (ho:l ≠ [] → Off (Sg b g) u) (hl:l.length < 10000000) :
  Calls Tryz.prog 244 #[.pointer (some ⟨b,0,none⟩),u] w (OutPost b g size nx (fillR size row l) (fillO size row l) w):=by
 have HC:=Lib.hid (contains_any u l w hu hl)
 obtain ⟨a,cap,rfl⟩:=hu.len
 have HU:=Lib.hid hu
 have HO:=Lib.hid ho
 obtain ⟨hrl,hlo,hhi,hnx,hne⟩:=h.nums
 have HH:=Lib.hid h
 unfold fillR fillO
 clear hu ho h
 by_cases hc:l.any (fun x=>decide (x < 1)) = true
 ·rw [if_pos hc,if_pos hc]
  rw [hc] at HC
  clear hc
  go_enter Tryz.func244,Tryz.ntmps244
  go_wp2
  go_step3
  go_wp2_with fail
  refine HC.out.mono ?_
  rintro e w1 ⟨rfl,rfl⟩
  go_wp2_with fail
  rw [Exit.noGoto_ret]
  go_ret
  exact ⟨_,rfl,OwnI.nil _ _,HH.out,Only.refl _ _⟩
 ·rw [if_neg hc,if_neg hc]
  rw [Bool.not_eq_true] at hc
  rw [hc] at HC
  clear hc
  go_enter Tryz.func244,Tryz.ntmps244
  go_wp2
  go_step3
  go_wp2_with fail
  refine HC.out.mono ?_
  rintro e w1 ⟨rfl,rfl⟩
  go_wp2_with fail
  go_step3
  go_wp2_with fail
  go_loopw [18] (fun i wr=>∃ k:Nat,k ≤ l.length ∧ row.length + k ≤ size ∧ i = .int .i64 k ∧ Rw wr b g size nx (row ++ l.take k) ∧ Only (Sg b g) w wr) (fun i _=>l.length - (intOf i).toNat)
  case atStart=>exact ⟨0,Nat.zero_le _,by omega,rfl,by simpa using HH.out,Only.refl _ _⟩
  case round=>
   obtain ⟨k,hk,hks,rfl,hR,hO⟩:=hrel
   by_cases hlt:k < l.length
   ·have hu2:=HU.out.only' hO HO.out
    have HU2:=Lib.hid hu2
    rcases hu2.open with ⟨_,h0⟩ | ⟨_,_,_,h0⟩ | ⟨bu,off,cap',he,_,hcap,hbu,hcells⟩
    ·simp [h0] at hlt
    ·simp [h0] at hlt
    simp only [Value.slice.injEq] at he
    obtain ⟨rfl,_,rfl⟩:=he
    have cu:=hcells k hlt
    have HT:=Lib.hid (fill_take l k hlt)
    have hrlen:(row ++ l.take k).length = row.length + k:=by simp;omega
    have HRow:=Lib.hid (fun m=>row_same b g size nx _ _ (hR.drewN m))
    rw [hrlen] at HRow
    have c1:=hR.cell1
    generalize l[k]?.getD 0 = x at *
    obtain ⟨p,HP⟩:∃ p,Hid (p = row.length + k):=⟨_,rfl⟩
    rw [← HP.out] at HRow
    have hps:p ≤ size:=by rw [HP.out];exact hks
    by_cases hfull:p = size
    ·have hd:((p:Int) == (size:Int)) = true:=by simp [hfull]
     have HE:Hid (k = size - row.length):=by have:=HP.out;show k = size - row.length;omega
     have HR:=Lib.hid hR
     have HON:=Lib.hid hO
     have HSl:=Lib.hid (HU2.out.drop (cap':=cap - k) k (by omega) rfl (by omega))
     have hkl:(k:Int) ≤ (l.length:Int):=by omega
     have hkc:(k:Int) ≤ (cap:Int):=by omega
     clear hcells hu2 hrlen hR hO hfull
     go_wp2_with fail
     go_quiet ((go_at_call 167;exact Calls.quiet_of (HRow.out _)))
     go_wp2_with fail
     refine (clone_any _ (l.drop k) _ (HSl.out.drewN _) (by simp;omega)).mono ?_
     rintro e w2 ⟨v,rfl,hown,hB⟩
     have HOwn:Hid (OwnI w2 wr.heap.size v (l.drop k)):=hown
     have HB:Hid (Below wr.heap.size wr w2):=⟨hB.os,hB.tape,hB.output,hB.size,hB.block⟩
     clear hown hB
     go_wp2_with fail
     rw [Exit.noGoto_ret]
     go_ret
     exact ⟨_,rfl,by rw [← HE.out];exact HOwn.out.mono HON.out.size,by rw [← HE.out];exact HR.out.below HB.out,HON.out.below HB.out⟩
    ·have hd:((p:Int) == (size:Int)) = false:=by rw [beq_eq_false_iff_ne];omega
     have HPush:=Lib.hid (fun m=>push_any b g size nx _ x _ (hR.drewN m) (by rw [hrlen,← HP.out];omega))
     have HON:=Lib.hid hO
     clear hcells hu2 hrlen hR hO
     go_wp2_with fail
     go_quiet ((go_at_call 167;exact Calls.quiet_of (HRow.out _)))
     go_wp2_with fail
     refine (HPush.out _).mono ?_
     rintro e w2 ⟨⟨v,rfl⟩,hR2,hO2⟩
     have HO2:Hid (Only (Sg b g) wr w2):=⟨hO2.os,hO2.tape,hO2.output,hO2.size,hO2.block⟩
     have HR2:=Lib.hid hR2
     clear hR2 hO2
     go_wp2_with fail
     go_roundw
     case rel=>exact ⟨k + 1,by omega,by have:=HP.out;omega,by go_num,by rw [HT.out,← List.append_assoc];exact HR2.out,HON.out.trans HO2.out⟩
     case measure=>simp [intOf];omega
   ·obtain rfl:k = l.length:=by omega
    rw [List.take_length] at hR
    have HR:=Lib.hid hR
    have HON:=Lib.hid hO
    have HT:Hid (l.take (size - row.length) = l):=List.take_of_length_le (by omega)
    have HD:Hid (l.drop (size - row.length) = []):=List.drop_eq_nil_of_le (by omega)
    clear hR hO
    go_wp2_with fail
    rw [Exit.noGoto_ret]
    go_ret
    exact ⟨_,rfl,by rw [HD.out];exact OwnI.nil _ _,by rw [HT.out];exact HR.out,HON.out⟩
end Go.Proofs.YtgadhchejmlfjaaGreatDoor.Ring
