/- Chapter 13: the ring: the contracts of New, Put, Get, Grab, List, Drain. -/
import Derived.Test.YtgahkcbkpnehfaaRingTake
namespace Go.Proofs.Ytgahkcbkpnehfaa.Ring
open Go.RowKit Go.Esc
set_option linter.unusedVariables false

theorem Rg.setNx {w : World} {b g size : Nat} {nx : Int} {hd tl : Nat} {F : Nat → Int} (h : Rg w b g size nx hd tl F) (x : Int) (hx : 0 ≤ x) : Rg (w.setCell ⟨b, 0, none⟩ (.int .i64 x)) b g size x hd tl F :=
  ⟨h.blk.set 0 _, h.cells.setOther (Ne.symm h.ne) _, h.ne, h.hlt, h.hle, h.tle, h.lo, h.hi, hx⟩
theorem Rw.setNx {w : World} {b g size : Nat} {nx : Int} {row : List Int} (h : Rw w b g size nx row) (x : Int) (hx : 0 ≤ x) : Rw (w.setCell ⟨b, 0, none⟩ (.int .i64 x)) b g size x row := by
  obtain ⟨hd, tl, F, h, hr⟩ := h
  exact ⟨hd, tl, F, h.setNx x hx, hr⟩

def putN (nx g : Int) (next : Bool) : Int := if g < 1 then nx else if next then g else nx
def putR (size : Nat) (nx : Int) (row : List Int) (g : Int) (next : Bool) : List Int := if g < 1 then row else if next then (if nx = 0 then row else behindR size row nx) else behindR size row g
def putO (size : Nat) (nx : Int) (row : List Int) (g : Int) (next : Bool) : List Int := if g < 1 then [] else if next then (if nx = 0 then [] else behindO size row nx) else behindO size row g

theorem OutPost.undrew {b g size : Nat} {nx : Int} {row out : List Int} {w : World} {n : Nat} {e : Ending} {w' : World} (h : OutPost b g size nx row out (w.drewN n) e w') : OutPost b g size nx row out w e w' := by
  obtain ⟨v, h1, h2, h3, h4⟩ := h
  exact ⟨v, h1, h2, h3, ⟨h4.os, h4.tape, h4.output, h4.size, h4.block⟩⟩

set_option maxHeartbeats 2000000 in
theorem put_any (b g size : Nat) (nx : Int) (row : List Int) (x : Int) (next : Bool) (w : World) (h : Rw w b g size nx row) : Calls Try.prog 24 #[.pointer (some ⟨b, 0, none⟩), .int .i64 x, .bool next] w (OutPost b g size (putN nx x next) (putR size nx row x next) (putO size nx row x next) w) := by
  unfold putN putR putO
  by_cases hx : x < 1
  · rw [if_pos hx, if_pos hx, if_pos hx]
    have hdx : decide (x < 1) = true := by simpa using hx
    have HH := Lib.hid h
    clear h
    go_enter Try.func24, Try.ntmps24
    go_wp2
    go_ret
    exact ⟨_, rfl, OwnI.nil _ _, HH.out, Only.refl _ _⟩
  · rw [if_neg hx, if_neg hx, if_neg hx]
    have hdx : decide (x < 1) = false := by simpa using hx
    cases next with
    | false =>
      rw [if_neg (by simp), if_neg (by simp), if_neg (by simp)]
      have HB := Lib.hid (behind_any b g size nx row x w h)
      clear h
      go_enter Try.func24, Try.ntmps24
      go_wp2_with fail
      refine HB.out.mono ?_
      rintro e w1 ⟨v, rfl, hown, hR, hO⟩
      go_wp2_with fail
      go_ret
      exact ⟨_, rfl, hown, hR, hO⟩
    | true =>
      rw [if_pos rfl, if_pos rfl, if_pos rfl]
      obtain ⟨c0, f0⟩ := h.cell0
      have hbl := h.lt.1
      have HS := Lib.hid (h.setNx x (by omega))
      have HO : Hid (Only (Sg b g) w (w.setCell ⟨b, 0, none⟩ (.int .i64 x))) := (Only.refl (Sg b g) w).set (.inr (.inl rfl)) _ _
      by_cases hn : nx = 0
      · subst hn
        rw [if_pos rfl, if_pos rfl]
        clear h
        go_enter Try.func24, Try.ntmps24
        go_wp2_with fail
        go_ret
        exact ⟨_, rfl, OwnI.nil _ _, HS.out, HO.out⟩
      · rw [if_neg hn, if_neg hn]
        have hnb : (nx == 0) = false := by rw [beq_eq_false_iff_ne]; exact hn
        have HB := Lib.hid (behind_any b g size x row nx _ HS.out)
        clear h
        go_enter Try.func24, Try.ntmps24
        go_wp2_with fail
        refine HB.out.mono ?_
        rintro e w1 ⟨v, rfl, hown, hR, hO⟩
        have HW : Hid (OwnI w1 w.heap.size v (behindO size row nx)) := by show OwnI w1 w.heap.size v (behindO size row nx); simpa using hown
        have HO1 := Lib.hid (HO.out.trans hO)
        have HR := Lib.hid hR
        clear hown hO hR
        go_wp2_with fail
        go_ret
        exact ⟨_, rfl, HW.out, HR.out, HO1.out⟩

def getV (nx : Int) (row : List Int) : Int := if 0 < nx then nx else row.headD 0
def getB (nx : Int) (row : List Int) : Bool := if 0 < nx then true else !row.isEmpty
def getR (nx : Int) (row : List Int) : List Int := if 0 < nx then row else row.tail
def GetPost (b g size : Nat) (nx : Int) (row : List Int) (w : World) (e : Ending) (w' : World) : Prop :=
  e = .returned (.tuple #[.int .i64 (getV nx row), .bool (getB nx row)]) ∧ Rw w' b g size 0 (getR nx row) ∧ Only (Sg b g) w w'

theorem next_w (b g size : Nat) (nx : Int) (row : List Int) (w : World) (h : Rw w b g size nx row) : Calls Try.prog 39 #[.pointer (some ⟨b, 0, none⟩)] w fun e w' => e = .returned (.int .i64 nx) ∧ w = w' := by
  obtain ⟨hd, tl, F, h, rfl⟩ := h
  exact next_any b g size nx hd tl F w h
theorem size_w (b g size : Nat) (nx : Int) (row : List Int) (w : World) (h : Rw w b g size nx row) : Calls Try.prog 40 #[.pointer (some ⟨b, 0, none⟩)] w fun e w' => e = .returned (.int .i64 size) ∧ w = w' := by
  obtain ⟨hd, tl, F, h, rfl⟩ := h
  exact size_any b g size nx hd tl F w h
theorem len_w (b g size : Nat) (nx : Int) (row : List Int) (w : World) (h : Rw w b g size nx row) : Calls Try.prog 38 #[.pointer (some ⟨b, 0, none⟩)] w (IntQ (allL nx row).length w) := by
  obtain ⟨hd, tl, F, h, rfl⟩ := h
  exact len_any b g size nx hd tl F w h

set_option maxHeartbeats 2000000 in
theorem get_any (b g size : Nat) (nx : Int) (row : List Int) (w : World) (h : Rw w b g size nx row) : Calls Try.prog 25 #[.pointer (some ⟨b, 0, none⟩)] w (GetPost b g size nx row w) := by
  have HN := Lib.hid (next_w b g size nx row w h)
  have HR := Lib.hid (row_w b g size nx row w h)
  obtain ⟨hrl, hlo, hhi, hnx, hne⟩ := h.nums
  unfold GetPost getV getB getR
  by_cases hx : 0 < nx
  · rw [if_pos hx, if_pos hx, if_pos hx]
    have hdx : decide (0 < nx) = true := by simpa using hx
    obtain ⟨c0, f0⟩ := h.cell0
    have hbl := h.lt.1
    have HS := Lib.hid (h.setNx 0 (by omega))
    clear h
    go_enter Try.func25, Try.ntmps25
    go_wp2_with fail
    refine HN.out.mono ?_
    rintro e w1 ⟨rfl, rfl⟩
    go_wp2_with fail
    go_ret2
    exact ⟨rfl, HS.out, (Only.refl (Sg b g) w).set (.inr (.inl rfl)) _ _⟩
  · rw [if_neg hx, if_neg hx, if_neg hx]
    obtain rfl : nx = 0 := by omega
    cases row with
    | nil =>
      have HH := Lib.hid h
      clear h
      go_enter Try.func25, Try.ntmps25
      go_wp2_with fail
      refine HN.out.mono ?_
      rintro e w1 ⟨rfl, rfl⟩
      go_wp2_with fail
      refine HR.out.mono ?_
      rintro e w1 ⟨rfl, n, rfl⟩
      go_wp2_with fail
      go_ret2
      exact ⟨rfl, HH.out.drewN n, (Only.refl _ _).drewN n⟩
    | cons x r =>
      have hl : (((x :: r).length : Int) == 0) = false := by rw [beq_eq_false_iff_ne]; simp; omega
      have HT := Lib.hid (fun m => take_any b g size 0 (x :: r) 1 _ (h.drewN m) (by simp))
      generalize (x :: r).length = len at *
      clear h
      go_enter Try.func25, Try.ntmps25
      go_wp2_with fail
      refine HN.out.mono ?_
      rintro e w1 ⟨rfl, rfl⟩
      go_wp2_with fail
      refine HR.out.mono ?_
      rintro e w1 ⟨rfl, n, rfl⟩
      go_wp2_with fail
      refine (HT.out n).mono ?_
      rintro e w1 ⟨v, rfl, hown, hR, hO⟩
      obtain ⟨g', cap, rfl, hcx⟩ : ∃ g' cap, v = .slice (some ⟨g', 0, none⟩) 1 cap ∧ w1.cell? ⟨g', 0, none⟩ = some (.int .i64 x) := by
        rcases hown.open with ⟨_, h0⟩ | ⟨g', cap, h0, _, _, _, hc⟩
        · simp at h0
        · exact ⟨g', cap, by simpa using h0, by simpa using hc 0 (by simp)⟩
      have HRw : Hid (Rw w1 b g size 0 r) := by show Rw w1 b g size 0 r; simpa using hR
      have HO : Hid (Only (Sg b g) w w1) := ⟨hO.os, hO.tape, hO.output, hO.size, hO.block⟩
      clear hown hR hO
      go_wp2_with fail
      go_ret2
      exact ⟨rfl, HRw.out, HO.out⟩

def grabN (nx : Int) (row : List Int) : Int := if row = [] then 0 else nx
def grabO (nx : Int) (row : List Int) : List Int := if row = [] then allL nx [] else row.take (row.length - row.length / 2)
def grabR (row : List Int) : List Int := row.drop (row.length - row.length / 2)

set_option maxHeartbeats 2000000 in
theorem grab_any (b g size : Nat) (nx : Int) (row : List Int) (w : World) (h : Rw w b g size nx row) : Calls Try.prog 26 #[.pointer (some ⟨b, 0, none⟩)] w (OutPost b g size (grabN nx row) (grabR row) (grabO nx row) w) := by
  have HR := Lib.hid (row_w b g size nx row w h)
  obtain ⟨hrl, hlo, hhi, hnx, hne⟩ := h.nums
  unfold grabN grabO grabR
  by_cases hr : row = []
  · subst hr
    rw [if_pos rfl, if_pos rfl]
    have HG := Lib.hid (fun m => get_any b g size nx [] _ (h.drewN m))
    clear h
    unfold GetPost getV getB getR at HG
    by_cases hx : 0 < nx
    · rw [if_pos hx, if_pos hx, if_pos hx] at HG
      have hall : allL nx [] = [nx] := by simp [allL, hx]
      rw [hall]
      clear hall
      go_enter Try.func26, Try.ntmps26
      go_wp2_with fail
      refine HR.out.mono ?_
      rintro e w1 ⟨rfl, n, rfl⟩
      go_wp2_with fail
      refine (HG.out n).mono ?_
      rintro e w1 ⟨rfl, hR, hO⟩
      have HRw := Lib.hid hR
      have HO : Hid (Only (Sg b g) w w1) := ⟨hO.os, hO.tape, hO.output, hO.size, hO.block⟩
      clear hR hO
      go_wp2_with fail
      go_ret
      exact ⟨_, rfl, (OwnI.new (w := w1) (l := [nx]) (by simp [maxLen])).mono HO.out.size, HRw.out.below (below_alloc (Below.refl _ _) _), HO.out.alloc _⟩
    · rw [if_neg hx, if_neg hx, if_neg hx] at HG
      have hall : allL nx [] = [] := by simp [allL, hx]
      rw [hall]
      clear hall
      go_enter Try.func26, Try.ntmps26
      go_wp2_with fail
      refine HR.out.mono ?_
      rintro e w1 ⟨rfl, n, rfl⟩
      go_wp2_with fail
      refine (HG.out n).mono ?_
      rintro e w1 ⟨rfl, hR, hO⟩
      have HRw := Lib.hid hR
      have HO : Hid (Only (Sg b g) w w1) := ⟨hO.os, hO.tape, hO.output, hO.size, hO.block⟩
      clear hR hO
      go_wp2_with fail
      go_ret
      exact ⟨_, rfl, OwnI.nil _ _, HRw.out, HO.out⟩
  · rw [if_neg hr, if_neg hr]
    have hlp : 0 < row.length := List.length_pos_iff.2 hr
    have hd : decide ((0 : Int) < (row.length : Int)) = true := by simp; omega
    obtain ⟨k, HK⟩ : ∃ k, Hid (k = row.length - row.length / 2) := ⟨_, rfl⟩
    have hq : (row.length : Int) - (row.length : Int) / 2 = (k : Int) := by rw [HK.out]; omega
    have hk : k ≤ row.length := by rw [HK.out]; omega
    have HT := Lib.hid (fun m => take_any b g size nx row k _ (h.drewN m) hk)
    rw [← HK.out]
    generalize row.take k = l at *
    generalize row.drop k = r' at *
    generalize row.length = len at *
    clear h hr HK
    go_enter Try.func26, Try.ntmps26
    go_wp2_with fail
    refine HR.out.mono ?_
    rintro e w1 ⟨rfl, n, rfl⟩
    go_wp2_with fail
    refine (HT.out n).mono ?_
    rintro e w1 h1
    have h2 := h1.undrew
    obtain ⟨v, rfl, hown, hR, hO⟩ := h2
    clear h1
    go_wp2_with fail
    go_ret
    exact ⟨_, rfl, hown, hR, hO⟩

def ListPost (L : List Int) (w : World) (e : Ending) (w' : World) : Prop := ∃ v, e = .returned v ∧ OwnI w' w.heap.size v L ∧ Below w.heap.size w w'

set_option maxHeartbeats 4000000 in
theorem list_any (b g size : Nat) (nx : Int) (row : List Int) (w : World) (h : Rw w b g size nx row) : Calls Try.prog 28 #[.pointer (some ⟨b, 0, none⟩)] w (ListPost (allL nx row) w) := by
  have HN := Lib.hid (next_w b g size nx row w h)
  have HRow := Lib.hid (fun w1 hb => row_w b g size nx row w1 (h.below (w' := w1) hb))
  obtain ⟨hd, tl, F, h, rfl⟩ := h
  have h1 := h.hlt
  have h2 := h.hle
  have h3 := h.tle
  have h4 := h.hi
  have h5 := h.lo
  have hbl := h.blk.lt
  have hgl := h.cells.lt
  have HG := Lib.hid h
  rw [rowL_len] at HRow
  clear h
  obtain ⟨n, HNn⟩ : ∃ n, Hid (n = tl - hd) := ⟨_, rfl⟩
  rw [← HNn.out] at HRow
  have hn : n ≤ 256 := by rw [HNn.out]; omega
  have hn2 : n ≤ size := by rw [HNn.out]; omega
  by_cases hx : 0 < nx
  · have hdx : decide (0 < nx) = true := by simpa using hx
    have HAll : Hid (∀ l, allL nx l = nx :: l) := by intro l; simp [allL, hx]
    go_enter Try.func28, Try.ntmps28
    go_wp2_with fail
    refine HN.out.mono ?_
    rintro e w1 ⟨rfl, rfl⟩
    go_wp2_with (at_builtin; refine appX Try.underlying25 Glob.info3 w.heap.size _ rfl _ _ rfl (.slice none 0 0) [] _ [nx] rfl rfl (OwnI.nil _ _) (Slw.new1 w nx) (by simp) (by simp) ?_; intro v' w2 hA; have HA := Lib.hid hA; clear hA)
    have hB2 : Below w.heap.size w w2 := below_grown (below_alloc (Below.refl _ _) _) HA.out.2.1 (fun j hj => by simp [Value.ownBlock] at hj)
    refine (HRow.out _ hB2).mono ?_
    rintro e w1 ⟨rfl, m, rfl⟩
    go_wp2_with fail
    go_loopw [2, 15] (fun v i wr => ∃ k : Nat, k ≤ n ∧ i = .int .i64 k ∧ OwnI wr w.heap.size v (nx :: (rowL size hd tl F).take k) ∧ Below w.heap.size w wr) (fun _ i _ => n - (intOf i).toNat)
    case atStart => exact ⟨0, Nat.zero_le _, rfl, HA.out.1.drewN m, below_drewN hB2 m⟩
    case round =>
      clear hB2 HA
      obtain ⟨k, hk, rfl, hown, hB⟩ := hrel
      have hG := HG.out.below hB
      have hBs := hB.size
      by_cases hlt : k < n
      · have HR := Lib.hid (rowL_take size hd tl F k (by rw [← HNn.out]; exact hlt))
        have hm : (hd + k) % size < size := Nat.mod_lt _ (by omega)
        have cx := hG.cells.cell hm
        have hlen : (nx :: (rowL size hd tl F).take k).length + [F ((hd + k) % size)].length < 100000000 := by simp [rowL_len]; omega
        have HLen := Lib.hid hlen
        have HA := Lib.hid (at_any b g size nx hd tl F k wr hG (by omega))
        obtain ⟨l, HLL⟩ : ∃ l, Hid (l = nx :: (rowL size hd tl F).take k) := ⟨_, rfl⟩
        rw [← HLL.out] at hown HLen
        generalize (hd + k) % size = j at *
        generalize F j = x at *
        have HO := Lib.hid hown
        have HG1 := Lib.hid hG
        have HB := Lib.hid hB
        clear hlen hown hG hB
        go_wp2_with fail
        refine HA.out.mono ?_
        rintro e w1 ⟨rfl, m', rfl⟩
        go_wp2_with (at_builtin; refine appX Try.underlying25 Glob.info3 w.heap.size _ rfl _ _ rfl _ _ _ [x] rfl rfl ((HO.out.drewN m').alloc _) (Slw.new1 (wr.drewN m') x) (by simp; omega) HLen.out ?_; intro v' w2 hA)
        go_roundw
        case rel => exact ⟨k + 1, by omega, by go_num, by rw [HR.out, ← List.cons_append, ← HLL.out]; exact hA.1, below_grown (below_alloc (below_drewN HB.out m') _) hA.2.1 (fun j hj => (HO.out.lt j hj).1)⟩
        case measure => simp [intOf]; omega
      · obtain rfl : k = n := by omega
        have HB := Lib.hid hB
        have HO : Hid (OwnI wr w.heap.size u2 (allL nx (rowL size hd tl F))) := by
          show OwnI wr w.heap.size u2 (allL nx (rowL size hd tl F))
          rw [HAll.out]
          rwa [List.take_of_length_le (by rw [rowL_len, ← HNn.out]; exact Nat.le_refl _)] at hown
        clear hG hB hown
        go_wp2_with fail
        go_ret
        exact ⟨_, rfl, HO.out, HB.out⟩
  · have hdx : decide (0 < nx) = false := by simpa using hx
    have HAll : Hid (∀ l, allL nx l = l) := by intro l; simp [allL, hx]
    go_enter Try.func28, Try.ntmps28
    go_wp2_with fail
    refine HN.out.mono ?_
    rintro e w1 ⟨rfl, rfl⟩
    go_wp2_with fail
    refine (HRow.out _ (Below.refl _ _)).mono ?_
    rintro e w1 ⟨rfl, m, rfl⟩
    go_wp2_with fail
    go_loopw [2, 15] (fun v i wr => ∃ k : Nat, k ≤ n ∧ i = .int .i64 k ∧ OwnI wr w.heap.size v ((rowL size hd tl F).take k) ∧ Below w.heap.size w wr) (fun _ i _ => n - (intOf i).toNat)
    case atStart => exact ⟨0, Nat.zero_le _, rfl, by simpa using OwnI.nil _ _, below_drewN (Below.refl _ _) m⟩
    case round =>
      obtain ⟨k, hk, rfl, hown, hB⟩ := hrel
      have hG := HG.out.below hB
      have hBs := hB.size
      by_cases hlt : k < n
      · have HR := Lib.hid (rowL_take size hd tl F k (by rw [← HNn.out]; exact hlt))
        have hm : (hd + k) % size < size := Nat.mod_lt _ (by omega)
        have cx := hG.cells.cell hm
        have hlen : ((rowL size hd tl F).take k).length + [F ((hd + k) % size)].length < 100000000 := by simp [rowL_len]; omega
        have HLen := Lib.hid hlen
        have HA := Lib.hid (at_any b g size nx hd tl F k wr hG (by omega))
        generalize (rowL size hd tl F).take k = l at *
        generalize (hd + k) % size = j at *
        generalize F j = x at *
        have HO := Lib.hid hown
        have HG1 := Lib.hid hG
        have HB := Lib.hid hB
        clear hlen hown hG hB
        go_wp2_with fail
        refine HA.out.mono ?_
        rintro e w1 ⟨rfl, m', rfl⟩
        go_wp2_with (at_builtin; refine appX Try.underlying25 Glob.info3 w.heap.size _ rfl _ _ rfl _ _ _ [x] rfl rfl ((HO.out.drewN m').alloc _) (Slw.new1 (wr.drewN m') x) (by simp; omega) HLen.out ?_; intro v' w2 hA)
        go_roundw
        case rel => exact ⟨k + 1, by omega, by go_num, by rw [HR.out]; exact hA.1, below_grown (below_alloc (below_drewN HB.out m') _) hA.2.1 (fun j hj => (HO.out.lt j hj).1)⟩
        case measure => simp [intOf]; omega
      · obtain rfl : k = n := by omega
        have HB := Lib.hid hB
        have HO : Hid (OwnI wr w.heap.size u2 (allL nx (rowL size hd tl F))) := by
          show OwnI wr w.heap.size u2 (allL nx (rowL size hd tl F))
          rw [HAll.out]
          rwa [List.take_of_length_le (by rw [rowL_len, ← HNn.out]; exact Nat.le_refl _)] at hown
        clear hG hB hown
        go_wp2_with fail
        go_ret
        exact ⟨_, rfl, HO.out, HB.out⟩

set_option maxHeartbeats 2000000 in
theorem drain_any (b g size : Nat) (nx : Int) (row : List Int) (w : World) (h : Rw w b g size nx row) : Calls Try.prog 27 #[.pointer (some ⟨b, 0, none⟩)] w (OutPost b g size 0 [] (allL nx row) w) := by
  have HL := Lib.hid (list_any b g size nx row w h)
  have HH := Lib.hid h
  have hlt := h.lt
  clear h
  go_enter Try.func27, Try.ntmps27
  go_wp2_with fail
  refine HL.out.mono ?_
  rintro e w1 ⟨v, rfl, hown, hB⟩
  have HOwn := Lib.hid hown
  have HB := Lib.hid hB
  have h1 := HH.out.below hB
  have hlt1 := h1.lt.1
  obtain ⟨hd, tl, F, h1, hr⟩ := h1
  have c0 := h1.cell0
  have c2 := h1.cell2
  have c3 := h1.cell3
  have f0 := h1.blk.free 0
  have f2 := h1.blk.free 2
  have f3 := h1.blk.free 3
  have HR : Hid (Rg (((w1.setCell ⟨b, 0, none⟩ (.int .i64 0)).setCell ⟨b, 2, none⟩ (.int .u32 0)).setCell ⟨b, 3, none⟩ (.int .u32 0)) b g size 0 0 0 F) :=
    ⟨((h1.blk.set 0 _).set 2 _).set 3 _, ((h1.cells.setOther (Ne.symm h1.ne) _).setOther (Ne.symm h1.ne) _).setOther (Ne.symm h1.ne) _, h1.ne, by have := h1.lo; omega, Nat.le_refl _, by omega, h1.lo, h1.hi, Int.le_refl _⟩
  clear hown hB h1 hr
  go_wp2_with fail
  go_ret
  have hO : Only (Sg b g) w1 (((w1.setCell ⟨b, 0, none⟩ (.int .i64 0)).setCell ⟨b, 2, none⟩ (.int .u32 0)).setCell ⟨b, 3, none⟩ (.int .u32 0)) := (((Only.refl (Sg b g) w1).set (.inr (.inl rfl)) _ _).set (.inr (.inl rfl)) _ _).set (.inr (.inl rfl)) _ _
  exact ⟨_, rfl, HOwn.out.only hO (fun j hj hs => by rcases hs with rfl | rfl <;> omega), ⟨0, 0, F, HR.out, by simp [rowL]⟩, ((Only.refl (Sg b g) w).below HB.out).trans hO⟩

theorem makeInts (m : Nat) (hm : m ≤ 100000) (w : World) : (Instr.makeSlice 25 (.int .i64 (m : Int)) (.int .i64 (m : Int))).run Try.prog w = .ok (.slice (some ⟨w.heap.size, 0, none⟩) m m) (w.alloc (.cells (madeCells #[.int .i64 0] m) 3)) :=
  run_make_row' 25 3 (.int .i64 0) 8 Try.underlying25 Glob.info3 rfl .i64 .i64 m (by omega) (by omega) w

def ringBad (n : Int) : Prop := n < 2 ∨ 256 < n ∨ n % 2 = 1
instance (n : Int) : Decidable (ringBad n) := by unfold ringBad; infer_instance
def NewPost (m : Nat) (w : World) (e : Ending) (w' : World) : Prop := e = .returned (.pointer (some ⟨w.heap.size + 1, 0, none⟩)) ∧ Rw w' (w.heap.size + 1) w.heap.size m 0 [] ∧ Below w.heap.size w w'

set_option maxHeartbeats 2000000 in
theorem new_good (m : Nat) (w : World) (h : ¬ ringBad m) : Calls Try.prog 23 #[.int .i64 m] w (NewPost m w) := by
  unfold ringBad at h
  have h1 : 2 ≤ m := by omega
  have h2 : m ≤ 256 := by omega
  have hd1 : decide ((m : Int) < 2) = false := by simp; omega
  have hd2 : decide ((256 : Int) < (m : Int)) = false := by simp; omega
  have hd3 : ((m : Int) % 2 == 1) = false := by rw [beq_eq_false_iff_ne]; omega
  have hmk := makeInts m (by omega)
  clear h
  go_enter Try.func23, Try.ntmps23
  go_wp2
  go_ret
  refine ⟨by simp, ⟨0, 0, fun _ => 0, ⟨Blk.new' _ _ (by simp), (Cells.made w m 3 (.int .i64 0)).alloc _, by omega, by omega, Nat.le_refl _, by omega, h1, h2, Int.le_refl _⟩, by simp [rowL]⟩, below_alloc (below_alloc (Below.refl _ _) _) _⟩

set_option maxHeartbeats 2000000 in
theorem new_bad (n : Int) (w : World) (h : ringBad n) : Calls Try.prog 23 #[.int .i64 n] w fun e w' => e = .returned (.pointer none) ∧ w = w' := by
  unfold ringBad at h
  by_cases h1 : n < 2
  · go_enter Try.func23, Try.ntmps23
    go_wp2
    go_ret
    exact ⟨rfl, rfl⟩
  by_cases h2 : 256 < n
  · have hd1 : decide (n < 2) = false := by simp; omega
    clear h
    go_enter Try.func23, Try.ntmps23
    go_wp2
    go_ret
    exact ⟨rfl, rfl⟩
  have hd1 : decide (n < 2) = false := by simp; omega
  have hd2 : decide (256 < n) = false := by simp; omega
  have hd3 : (n % 2 == 1) = true := by rw [beq_iff_eq]; omega
  clear h
  go_enter Try.func23, Try.ntmps23
  go_wp2
  go_ret
  exact ⟨rfl, rfl⟩

end Go.Proofs.Ytgahkcbkpnehfaa.Ring
