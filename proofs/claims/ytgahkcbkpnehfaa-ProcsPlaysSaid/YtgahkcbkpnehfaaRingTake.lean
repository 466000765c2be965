/- Chapter 13: the ring: the contracts of round, take, push, behind. -/
import Derived.Test.YtgahkcbkpnehfaaRing
namespace Go.Proofs.Ytgahkcbkpnehfaa.Ring
open Go.RowKit Go.Esc
set_option linter.unusedVariables false

/-- The ring's blocks. -/
def Sg (b g : Nat) (j : Nat) : Prop := j = b ∨ j = g

theorem Rg.only {S : Nat → Prop} {w w' : World} {b g size : Nat} {nx : Int} {hd tl : Nat} {F : Nat → Int} (h : Rg w b g size nx hd tl F) (o : Only S w w') (hb : ¬ S b) (hg : ¬ S g) : Rg w' b g size nx hd tl F :=
  ⟨h.blk.only o hb, h.cells.only o hg, h.ne, h.hlt, h.hle, h.tle, h.lo, h.hi, h.nx0⟩
theorem Rg.below {w w' : World} {b g size : Nat} {nx : Int} {hd tl : Nat} {F : Nat → Int} (h : Rg w b g size nx hd tl F) (o : Below w.heap.size w w') : Rg w' b g size nx hd tl F :=
  h.only (S := fun _ => False) ((Only.refl _ w).below o) (fun x => x) (fun x => x)

/-- The ring, as who waits there. -/
def Rw (w : World) (b g size : Nat) (nx : Int) (row : List Int) : Prop := ∃ hd tl F, Rg w b g size nx hd tl F ∧ rowL size hd tl F = row
theorem Rw.only {S : Nat → Prop} {w w' : World} {b g size : Nat} {nx : Int} {row : List Int} (h : Rw w b g size nx row) (o : Only S w w') (hs : ∀ j, Sg b g j → ¬ S j) : Rw w' b g size nx row := by
  obtain ⟨hd, tl, F, h, hr⟩ := h
  exact ⟨hd, tl, F, h.only o (hs b (.inl rfl)) (hs g (.inr rfl)), hr⟩
theorem Rw.below {w w' : World} {b g size : Nat} {nx : Int} {row : List Int} (h : Rw w b g size nx row) (o : Below w.heap.size w w') : Rw w' b g size nx row :=
  h.only (S := fun _ => False) ((Only.refl _ w).below o) (fun _ _ x => x)
theorem Rw.drewN {w : World} {b g size : Nat} {nx : Int} {row : List Int} (h : Rw w b g size nx row) (n : Nat) : Rw (w.drewN n) b g size nx row := by
  obtain ⟨hd, tl, F, h, hr⟩ := h
  exact ⟨hd, tl, F, h.drewN n, hr⟩
theorem Rw.lt {w : World} {b g size : Nat} {nx : Int} {row : List Int} (h : Rw w b g size nx row) : b < w.heap.size ∧ g < w.heap.size := by
  obtain ⟨hd, tl, F, h, hr⟩ := h
  exact ⟨h.blk.lt, h.cells.lt⟩
theorem Rw.nums {w : World} {b g size : Nat} {nx : Int} {row : List Int} (h : Rw w b g size nx row) : row.length ≤ size ∧ 2 ≤ size ∧ size ≤ 256 ∧ 0 ≤ nx ∧ b ≠ g := by
  obtain ⟨hd, tl, F, h, rfl⟩ := h
  rw [rowL_len]
  have := h.tle
  exact ⟨by omega, h.lo, h.hi, h.nx0, h.ne⟩

theorem rowL_take (size hd tl : Nat) (F : Nat → Int) (k : Nat) (h : k < tl - hd) : (rowL size hd tl F).take (k + 1) = (rowL size hd tl F).take k ++ [F ((hd + k) % size)] := by
  rw [List.take_succ_eq_append_getElem (by rw [rowL_len]; exact h)]
  simp [rowL]
theorem rowL_drop (size hd tl : Nat) (F : Nat → Int) (n : Nat) (h : n ≤ tl - hd) : rowL size (hd + n) tl F = (rowL size hd tl F).drop n := by
  apply List.ext_getElem
  · simp [rowL]; omega
  · intro i h1 h2
    simp [rowL, Nat.add_assoc]
theorem rowL_round (size hd tl : Nat) (F : Nat → Int) (h : size ≤ hd) (ht : hd ≤ tl) : rowL size (hd - size) (tl - size) F = rowL size hd tl F := by
  apply List.ext_getElem
  · simp [rowL]; omega
  · intro i h1 h2
    simp only [rowL, List.getElem_map, List.getElem_range]
    congr 1
    rw [show hd + i = (hd - size + i) + size by omega, Nat.add_mod_right]
theorem rowL_push (size hd tl : Nat) (F : Nat → Int) (x : Int) (hle : hd ≤ tl) (h : tl < hd + size) : rowL size hd (tl + 1) (fun i => if i = (hd + (tl - hd)) % size then x else F i) = rowL size hd tl F ++ [x] := by
  unfold rowL
  rw [show tl + 1 - hd = (tl - hd) + 1 by omega, List.range_succ, List.map_append]
  congr 1
  · apply List.map_congr_left
    intro k hk
    have hk' : k < tl - hd := List.mem_range.1 hk
    show (if (hd + k) % size = (hd + (tl - hd)) % size then x else F ((hd + k) % size)) = F ((hd + k) % size)
    rw [if_neg]
    intro e
    have h1 := Nat.sub_mod_eq_zero_of_mod_eq e.symm
    rw [show hd + (tl - hd) - (hd + k) = tl - hd - k by omega, Nat.mod_eq_of_lt (by omega)] at h1
    omega
  · simp

def RoundPost (b g size : Nat) (nx : Int) (hd tl : Nat) (w : World) (e : Ending) (w' : World) : Prop :=
  (∃ v, e = .returned v) ∧ Blk w' b #[.int .i64 nx, .slice (some ⟨g, 0, none⟩) size size, .int .u32 ((if size ≤ hd then hd - size else hd : Nat) : Int), .int .u32 ((if size ≤ hd then tl - size else tl : Nat) : Int)] 81 ∧ Only (fun j => j = b) w w'

set_option maxHeartbeats 1000000 in
theorem round_any (b g size : Nat) (nx : Int) (hd tl : Nat) (w : World) (h : Blk w b #[.int .i64 nx, .slice (some ⟨g, 0, none⟩) size size, .int .u32 hd, .int .u32 tl] 81) (hle : hd ≤ tl) (htl : tl ≤ 100000) (hs : size ≤ 256) : Calls Try.prog 82 #[.pointer (some ⟨b, 0, none⟩)] w (RoundPost b g size nx hd tl w) := by
  have c1 := h.cell 1
  have c2 := h.cell 2
  have c3 := h.cell 3
  have f2 := h.free 2
  have f3 := h.free 3
  have hlt := h.lt
  simp only [List.getElem?_toArray, List.getElem?_cons_zero, List.getElem?_cons_succ] at c1 c2 c3
  have HB := Lib.hid h
  clear h
  have e1 : IntKind.u32.wrap (size : Int) = size := IntWalk.u32_in _ (by omega)
  by_cases hc : size ≤ hd
  · have hdec : decide ((size : Int) ≤ (hd : Int)) = true := by simp; omega
    unfold RoundPost
    rw [if_pos hc, if_pos hc]
    obtain ⟨p, hp⟩ : ∃ p, p = hd - size := ⟨_, rfl⟩
    obtain ⟨q, hq⟩ : ∃ q, q = tl - size := ⟨_, rfl⟩
    have e2 : IntKind.u32.wrap ((hd : Int) - size) = p := by rw [IntWalk.u32_in _ (by omega)]; omega
    have e3 : IntKind.u32.wrap ((tl : Int) - size) = q := by rw [IntWalk.u32_in _ (by omega)]; omega
    rw [← hp, ← hq]
    clear hp hq
    go_enter Try.func82, Try.ntmps82
    go_wp2
    go_region
    all_goals
      go_end0
      exact ⟨⟨_, rfl⟩, (HB.out.set 2 (.int .u32 p)).set 3 (.int .u32 q), (((Only.refl (fun j => j = b) w).set (.inr rfl) _ _).set (.inr rfl) _ _).drew⟩
  · have hdec : decide ((size : Int) ≤ (hd : Int)) = false := by simp; omega
    unfold RoundPost
    rw [if_neg hc, if_neg hc]
    go_enter Try.func82, Try.ntmps82
    go_wp2
    go_end0
    exact ⟨⟨_, rfl⟩, HB.out, Only.refl _ _⟩

/-- The row is a row of one's own; nothing else has turned but the ring. -/
def OutPost (b g size : Nat) (nx : Int) (row out : List Int) (w : World) (e : Ending) (w' : World) : Prop :=
  ∃ v, e = .returned v ∧ OwnI w' w.heap.size v out ∧ Rw w' b g size nx row ∧ Only (Sg b g) w w'

set_option maxHeartbeats 2000000 in
theorem take_any (b g size : Nat) (nx : Int) (row : List Int) (n : Nat) (w : World) (h : Rw w b g size nx row) (hn : n ≤ row.length) : Calls Try.prog 59 #[.pointer (some ⟨b, 0, none⟩), .int .i64 n] w (OutPost b g size nx (row.drop n) (row.take n) w) := by
  obtain ⟨hd, tl, F, h, rfl⟩ := h
  rw [rowL_len] at hn
  have h1 := h.hlt
  have h2 := h.hle
  have h3 := h.tle
  have h4 := h.hi
  have h5 := h.lo
  have hbl := h.blk.lt
  have hgl := h.cells.lt
  have HG := Lib.hid h
  clear h
  go_enter Try.func59, Try.ntmps59
  go_wp2
  go_loopw [4, 7] (fun v i wr => ∃ k : Nat, k ≤ n ∧ i = .int .i64 k ∧ OwnI wr w.heap.size v ((rowL size hd tl F).take k) ∧ Below w.heap.size w wr) (fun _ i _ => n - (intOf i).toNat)
  case atStart => exact ⟨0, Nat.zero_le _, rfl, by simpa using OwnI.nil _ _, Below.refl _ _⟩
  case round =>
    obtain ⟨k, hk, rfl, hown, hB⟩ := hrel
    have hG := HG.out.below hB
    have hBs := hB.size
    by_cases hlt : k < n
    · have HR := Lib.hid (rowL_take size hd tl F k (by omega))
      have hm : (hd + k) % size < size := Nat.mod_lt _ (by omega)
      have cx := hG.cells.cell hm
      have hlen : ((rowL size hd tl F).take k).length + [F ((hd + k) % size)].length < 100000000 := by simp [rowL_len]; omega
      have HLen := Lib.hid hlen
      generalize (rowL size hd tl F).take k = l at *
      have HA := Lib.hid (at_any b g size nx hd tl F k wr hG (by omega))
      generalize (hd + k) % size = j at *
      generalize F j = x at *
      have HO := Lib.hid hown
      have HG1 := Lib.hid hG
      have HB := Lib.hid hB
      clear hlen hown hG hB
      go_wp2_with fail
      refine HA.out.mono ?_
      rintro e w1 ⟨rfl, m, rfl⟩
      go_wp2_with (at_builtin; refine appX Try.underlying25 Glob.info3 w.heap.size _ rfl _ _ rfl _ _ _ [x] rfl rfl ((HO.out.drewN m).alloc _) (Slw.new1 (wr.drewN m) x) (by simp; omega) HLen.out ?_; intro v' w2 hA)
      go_roundw
      case rel => exact ⟨k + 1, by omega, by go_num, by rw [HR.out]; exact hA.1, below_grown (below_alloc (below_drewN HB.out m) _) hA.2.1 (fun j hj => (HO.out.lt j hj).1)⟩
      case measure => simp [intOf]; omega
    · obtain rfl : k = n := by omega
      have c2 := hG.cell2
      have f2 := hG.blk.free 2
      have e1 : IntKind.u32.wrap (k : Int) = k := IntWalk.u32_in _ (by omega)
      obtain ⟨p, hp⟩ : ∃ p, p = hd + k := ⟨_, rfl⟩
      have e2 : IntKind.u32.wrap ((hd : Int) + k) = (p : Int) := by rw [IntWalk.u32_in _ (by omega)]; omega
      have HG1 := Lib.hid hG
      have HB := Lib.hid hB
      have HO := Lib.hid hown
      have HP := Lib.hid hp
      have hlt2 : b < wr.heap.size := hG.blk.lt
      clear hG hB hown hp
      go_wp2_with fail
      have hb2 : Blk (wr.setCell ⟨b, 2, none⟩ (.int .u32 p)) b #[.int .i64 nx, .slice (some ⟨g, 0, none⟩) size size, .int .u32 p, .int .u32 tl] 81 := HG1.out.blk.set 2 _
      refine (round_any _ _ _ _ _ _ _ hb2 (by have := HP.out; omega) (by omega) (by omega)).mono ?_
      rintro e w2 ⟨⟨v, rfl⟩, hb3, hO3⟩
      have HO1 : Hid (Only (fun j => j = b) wr w2) := ((Only.refl (fun j => j = b) wr).set (.inr rfl) _ _).trans hO3
      have HB3 := Lib.hid hb3
      clear hb2 hb3 hO3
      go_wp2_with fail
      go_ret
      have hp := HP.out
      refine ⟨_, rfl, HO.out.only HO1.out (fun j hj e => by omega), ⟨_, _, F, ⟨HB3.out, HG1.out.cells.only HO1.out (fun e => HG1.out.ne e.symm), HG1.out.ne, ?_, ?_, ?_, h5, h4, HG1.out.nx0⟩, ?_⟩, ((Only.refl (Sg b g) w).below HB.out).andThen HO1.out (fun j _ hj => .inl hj)⟩
      · split <;> omega
      · split <;> omega
      · split <;> omega
      · rw [← rowL_drop size hd tl F k (by omega), ← hp]
        split
        · exact rowL_round size p tl F (by omega) (by omega)
        · rfl

def UnitPost (b g size : Nat) (nx : Int) (row : List Int) (w : World) (e : Ending) (w' : World) : Prop :=
  (∃ v, e = .returned v) ∧ Rw w' b g size nx row ∧ Only (Sg b g) w w'

set_option maxHeartbeats 2000000 in
theorem push_any (b g size : Nat) (nx : Int) (row : List Int) (x : Int) (w : World) (h : Rw w b g size nx row) (hn : row.length < size) : Calls Try.prog 73 #[.pointer (some ⟨b, 0, none⟩), .int .i64 x] w (UnitPost b g size nx (row ++ [x]) w) := by
  obtain ⟨hd, tl, F, h, rfl⟩ := h
  rw [rowL_len] at hn
  have h1 := h.hlt
  have h2 := h.hle
  have h3 := h.tle
  have h4 := h.hi
  have h5 := h.lo
  have hbl := h.blk.lt
  have hgl := h.cells.lt
  have HG := Lib.hid h
  have HR := Lib.hid (row_any b g size nx hd tl F w h)
  have HA := Lib.hid (fun m => at_any b g size nx hd tl F (tl - hd) (w.drewN m) (h.drewN m) (by omega))
  have HP := Lib.hid (rowL_push size hd tl F x h2 (by omega))
  have hm : (hd + (tl - hd)) % size < size := Nat.mod_lt _ (by omega)
  have cx := h.cells.cell hm
  have fx := h.cells.free ((hd + (tl - hd)) % size)
  have c3 := h.cell3
  have f3 := h.blk.free 3
  have hne := h.ne
  have hne2 : (b = g) = False := by simp [hne]
  obtain ⟨n, hn⟩ : ∃ n, n = tl - hd := ⟨_, rfl⟩
  rw [← hn] at HR HA HP hm cx fx
  obtain ⟨j, hj⟩ : ∃ j, j = (hd + n) % size := ⟨_, rfl⟩
  have e1 : IntKind.u32.wrap ((tl : Int) + 1) = (tl : Int) + 1 := IntWalk.u32_in _ (by omega)
  rw [← hj] at HA HP hm cx fx
  have HS : Hid (∀ n, Rg (((w.drewN n).setCell ⟨g, j, none⟩ (.int .i64 x)).setCell ⟨b, 3, none⟩ (.int .u32 ((tl : Int) + 1))) b g size nx hd (tl + 1) (fun i => if i = j then x else F i)) := by
    intro n
    replace h := h.drewN n
    refine ⟨((h.blk.setOther hne _).set 3 _), ?_, hne, h1, by omega, by omega, h5, h4, h.nx0⟩
    refine ((h.cells.set hm (.int .i64 x)).setOther (Ne.symm hne) _).congr (fun i hi => ?_)
    show (if i = j then _ else _) = _
    split <;> rfl
  clear hn hj h
  go_enter Try.func73, Try.ntmps73
  go_wp2_with fail
  refine HR.out.mono ?_
  rintro e w1 ⟨rfl, m, rfl⟩
  go_wp2_with fail
  refine (HA.out m).mono ?_
  rintro e w1 ⟨rfl, m', rfl⟩
  go_wp2_with fail
  go_end0
  refine ⟨⟨_, rfl⟩, ⟨hd, tl + 1, _, HS.out _, HP.out⟩, (((Only.refl (Sg b g) w).drewN _).set (.inr (.inr rfl)) _ _).set (.inr (.inl rfl)) _ _⟩

/-- One is put behind the row: the row then, and who goes. -/
def behindR (size : Nat) (row : List Int) (x : Int) : List Int := if row.length < size then row ++ [x] else row.drop (row.length / 2)
def behindO (size : Nat) (row : List Int) (x : Int) : List Int := if row.length < size then [] else row.take (row.length / 2) ++ [x]

theorem row_w (b g size : Nat) (nx : Int) (row : List Int) (w : World) (h : Rw w b g size nx row) : Calls Try.prog 58 #[.pointer (some ⟨b, 0, none⟩)] w (IntQ row.length w) := by
  obtain ⟨hd, tl, F, h, rfl⟩ := h
  rw [rowL_len]
  exact row_any b g size nx hd tl F w h
theorem row_same (b g size : Nat) (nx : Int) (row : List Int) (w : World) (h : Rw w b g size nx row) : Calls Try.prog 58 #[.pointer (some ⟨b, 0, none⟩)] w fun e w' => e = .returned (.int .i64 row.length) ∧ ∃ n, w' = w.drewN n := row_w b g size nx row w h
theorem Rw.cell1 {w : World} {b g size : Nat} {nx : Int} {row : List Int} (h : Rw w b g size nx row) : w.cell? ⟨b, 1, none⟩ = some (.slice (some ⟨g, 0, none⟩) size size) := by
  obtain ⟨hd, tl, F, h, rfl⟩ := h; exact h.cell1
theorem Rw.cell0 {w : World} {b g size : Nat} {nx : Int} {row : List Int} (h : Rw w b g size nx row) : w.cell? ⟨b, 0, none⟩ = some (.int .i64 nx) ∧ w.frozen? ⟨b, 0, none⟩ = false := by
  obtain ⟨hd, tl, F, h, rfl⟩ := h; exact ⟨h.cell0, h.blk.free 0⟩

set_option maxHeartbeats 2000000 in
theorem behind_any (b g size : Nat) (nx : Int) (row : List Int) (x : Int) (w : World) (h : Rw w b g size nx row) : Calls Try.prog 57 #[.pointer (some ⟨b, 0, none⟩), .int .i64 x] w (OutPost b g size nx (behindR size row x) (behindO size row x) w) := by
  have c1 := h.cell1
  obtain ⟨hrl, hlo, hhi, hnx, hne⟩ := h.nums
  obtain ⟨hbl, hgl⟩ := h.lt
  have HR := Lib.hid (fun m => row_same b g size nx row _ (h.drewN m))
  unfold behindR behindO
  by_cases hc : row.length < size
  · rw [if_pos hc, if_pos hc]
    have hd : ((row.length : Int) == (size : Int)) = false := by rw [beq_eq_false_iff_ne]; omega
    have HP := Lib.hid (fun m => push_any b g size nx row x _ (h.drewN m) hc)
    clear h hnx
    go_enter Try.func57, Try.ntmps57
    go_wp2_with fail
    go_quiet ((go_at_call 58; exact Calls.quiet_of (HR.out _)))
    go_wp2_with fail
    refine (HP.out _).mono ?_
    rintro e w1 ⟨⟨v, rfl⟩, hR, hO⟩
    go_wp2_with fail
    go_ret
    exact ⟨_, rfl, OwnI.nil _ _, hR, ⟨hO.os, hO.tape, hO.output, hO.size, hO.block⟩⟩
  · rw [if_neg hc, if_neg hc]
    obtain rfl : size = row.length := by omega
    have hd : ((row.length : Int) == (row.length : Int)) = true := by simp
    have HT := Lib.hid (fun m => take_any b g row.length nx row (row.length / 2) _ (h.drewN m) (by omega))
    obtain ⟨k, HK⟩ : ∃ k, Hid (k = row.length / 2) := ⟨_, rfl⟩
    have hq : ((row.length : Int)).tdiv 2 = (k : Int) := by rw [HK.out]; norm_cast
    have hq2 : (row.length : Int) / 2 = (k : Int) := by rw [HK.out]; norm_cast
    have hk : k ≤ 256 := by rw [HK.out]; omega
    rw [← HK.out] at HT ⊢
    have hlen : (row.take k).length + [x].length < 100000000 := by simp; omega
    have HLen := Lib.hid hlen
    have HS := Lib.hid (show w.heap.size ≤ w.heap.size from Nat.le_refl _)
    generalize row.take k = l at *
    generalize row.drop k = r' at *
    generalize row.length = size at *
    clear h hnx hlen hc
    go_enter Try.func57, Try.ntmps57
    go_wp2_with fail
    go_quiet ((go_at_call 58; exact Calls.quiet_of (HR.out _)))
    go_wp2_with fail
    refine (HT.out _).mono ?_
    rintro e w1 ⟨v, rfl, hown, hR, hO⟩
    have HOwn : Hid (OwnI w1 w.heap.size v l) := hown
    have HO : Hid (Only (Sg b g) w w1) := ⟨hO.os, hO.tape, hO.output, hO.size, hO.block⟩
    have HRw := Lib.hid hR
    have hsz : w.heap.size ≤ w1.heap.size := hO.size
    clear hown hR hO
    go_wp2_with (at_builtin; refine appX Try.underlying25 Glob.info3 w.heap.size _ rfl _ _ rfl _ _ _ [x] rfl rfl (HOwn.out.alloc _) (Slw.new1 w1 x) (by simp; omega) HLen.out ?_; intro v' w2 hA; have HA := Lib.hid hA; clear hA)
    go_ret
    have hO2 : Only (fun j => v.ownBlock = some j) w1 w2 := ((Only.refl _ w1).alloc _).grown HA.out.2.1 (fun j hj => .inr hj)
    exact ⟨_, rfl, HA.out.1, HRw.out.only hO2 (fun j hj hs => by have := (HOwn.out.lt j hs).1; rcases hj with rfl | rfl <;> omega), HO.out.andThen hO2 (fun j hj hs => by have := (HOwn.out.lt j hs).1; omega)⟩

end Go.Proofs.Ytgahkcbkpnehfaa.Ring
