/- Chapter 17: the contracts of Others, the program's and the document's, and of Has. -/
import Derived.Test.YtoeepfhkedfmiaaDealIn
namespace Go.Proofs.Ytoeepfhkedfmiaa.Deal
open Go.RowKit Go.Esc Num

theorem filter_snoc (L : List Int) (self : Int) (k : Nat) (h : k < L.length) : (L.take (k + 1)).filter (fun p => p != self) = (L.take k).filter (fun p => p != self) ++ (if L[k]?.getD 0 != self then [L[k]?.getD 0] else []) := by
  rw [List.take_succ_eq_append_getElem h, List.filter_append]
  simp only [h, List.getElem?_eq_getElem, Option.getD_some]
  by_cases hc : (L[k] != self) = true
  · simp [hc]
  · simp [hc]

set_option maxHeartbeats 1000000 in
theorem others_any (n self draw : Int) (w : World) : Calls Try.prog 52 #[.int .i64 n, .int .i64 self, .int .i64 draw] w (ListPost (othersL n self draw) w) := by
  by_cases h : dealBad n
  · have hL : othersL n self draw = [] := by unfold othersL orderL; rw [if_pos h]; rfl
    rw [hL]
    clear hL
    unfold dealBad at h
    by_cases h1 : n < 1
    · clear h
      have hd : decide (1 ≤ n) = false := by simp; omega
      go_enter Try.func52, Try.ntmps52
      go_wp2
      go_step3
      go_wp2
      try rw [Exit.noGoto_ret]
      go_ret
      exact ⟨_, rfl, OwnI.nil _ _, Below.refl _ _⟩
    · have h2 : 256 < n := by omega
      clear h
      have hd : decide (1 ≤ n) = true := by simp; omega
      have hd2 : decide (n ≤ 256) = false := by simp; omega
      go_enter Try.func52, Try.ntmps52
      go_wp2
      go_step3
      go_wp2
      try rw [Exit.noGoto_ret]
      go_ret
      exact ⟨_, rfl, OwnI.nil _ _, Below.refl _ _⟩
  · unfold othersL
    have hlen := orderL_len n draw
    have HO := Lib.hid (order_any n draw)
    generalize orderL n draw = L at *
    unfold dealBad at h
    have hn1 : 1 ≤ n := by omega
    have hn2 : n ≤ 256 := by omega
    clear h
    have hd : decide (1 ≤ n) = true := by simp; omega
    have hd2 : decide (n ≤ 256) = true := by simp; omega
    go_enter Try.func52, Try.ntmps52
    go_wp2
    go_step3
    go_wp2_with (first | (go_at_call 56; refine (is_yes _ _ hn1 hn2).mono ?_; rintro e w0 ⟨rfl, rfl⟩))
    go_step3
    go_wp2_with fail
    refine (HO.out _).mono ?_
    rintro e w1 ⟨v, rfl, ho, hb1⟩
    have hsl := Sl.ofOwn ho
    clear ho
    obtain ⟨a, cap, rfl, _, hcl⟩ := hsl
    have HCL := Lib.hid hcl
    clear hcl
    go_wp2_with fail
    go_loopw [6, 16] (fun v i wr => ∃ k : Nat, k ≤ L.length ∧ i = .int .i64 k ∧ OwnI wr w1.heap.size v ((L.take k).filter (fun p => p != self)) ∧ Below w1.heap.size w1 wr) (fun _ i _ => L.length - (intOf i).toNat)
    case atStart => exact ⟨0, Nat.zero_le _, rfl, OwnI.nil _ _, Below.refl _ _⟩
    case round =>
      obtain ⟨k, hk, rfl, hown, hbel⟩ := hrel
      have hfl : ((L.take k).filter (fun p => p != self)).length ≤ k := Nat.le_trans (List.length_filter_le _ _) (by rw [List.length_take]; omega)
      by_cases hlt : k < L.length
      · rcases HCL.out with h0 | ⟨b, off, rfl, hbl, hcells⟩
        · simp [h0] at hlt
        have HF := Lib.hid (filter_snoc L self k hlt)
        have c0 := (hbel.cell (p := ⟨b, off + k, none⟩) hbl).trans (hcells k hlt)
        clear hcells
        generalize L[k]?.getD 0 = x at *
        cases hc : (x == self)
        · have hc2 : (x != self) = true := by simp [bne, hc]
          go_wp2_with (at_builtin; refine app1 Try.underlying49 info3 w1.heap.size wr x rfl _ _ rfl _ _ rfl rfl hown hbel.size (by omega) ?_; intro v' w3 hown' hgrow _)
          have hbel3 : Below w1.heap.size w1 w3 := below_grown hbel hgrow (fun j e => (hown.lt j e).1)
          go_roundw
          case rel => exact ⟨k + 1, by omega, by go_num, by rw [HF.out, if_pos hc2]; exact hown', hbel3⟩
          case measure => simp [intOf]; omega
        · have hc2 : (x != self) = false := by simp [bne, hc]
          go_wp2_with fail
          go_roundw
          case rel => exact ⟨k + 1, by omega, by go_num, by rw [HF.out, if_neg (by simp [hc2]), List.append_nil]; exact hown, hbel⟩
          case measure => simp [intOf]; omega
      · obtain rfl : k = L.length := by omega
        go_wp2
        try rw [Exit.noGoto_ret]
        go_ret
        rw [List.take_length] at hown
        exact ⟨_, rfl, hown.mono hb1.size, below_below hb1 hbel⟩

set_option maxHeartbeats 1000000 in
theorem refothers_any (n self draw : Int) (w : World) : Calls Try.prog 53 #[.int .i64 n, .int .i64 self, .int .i64 draw] w (ListPost (othersL n self draw) w) := by
  unfold othersL
  have hlen := orderL_len n draw
  have HO := Lib.hid (reforder_any n draw)
  generalize orderL n draw = L at *
  go_enter Try.func53, Try.ntmps53
  go_wp2_with fail
  refine (HO.out _).mono ?_
  rintro e w1 ⟨v, rfl, ho, hb1⟩
  have hsl := Sl.ofOwn ho
  clear ho
  obtain ⟨a, cap, rfl, _, hcl⟩ := hsl
  have HCL := Lib.hid hcl
  clear hcl
  go_wp2_with fail
  go_loopw [8, 9] (fun v i wr => ∃ k : Nat, k ≤ L.length ∧ i = .int .i64 k ∧ OwnI wr w1.heap.size v ((L.take k).filter (fun p => p != self)) ∧ Below w1.heap.size w1 wr) (fun _ i _ => L.length - (intOf i).toNat)
  case atStart => exact ⟨0, Nat.zero_le _, rfl, OwnI.nil _ _, Below.refl _ _⟩
  case round =>
    obtain ⟨k, hk, rfl, hown, hbel⟩ := hrel
    have hfl : ((L.take k).filter (fun p => p != self)).length ≤ k := Nat.le_trans (List.length_filter_le _ _) (by rw [List.length_take]; omega)
    by_cases hlt : k < L.length
    · rcases HCL.out with h0 | ⟨b, off, rfl, hbl, hcells⟩
      · simp [h0] at hlt
      have HF := Lib.hid (filter_snoc L self k hlt)
      have c0 := (hbel.cell (p := ⟨b, off + k, none⟩) hbl).trans (hcells k hlt)
      clear hcells
      generalize L[k]?.getD 0 = x at *
      cases hc : (x != self)
      · go_wp2_with fail
        go_roundw
        case rel => exact ⟨k + 1, by omega, by go_num, by rw [HF.out, if_neg (by simp [hc]), List.append_nil]; exact hown, hbel⟩
        case measure => simp [intOf]; omega
      · go_wp2_with (at_builtin; refine app1 Try.underlying49 info3 w1.heap.size wr x rfl _ _ rfl _ _ rfl rfl hown hbel.size (by omega) ?_; intro v' w3 hown' hgrow _)
        have hbel3 : Below w1.heap.size w1 w3 := below_grown hbel hgrow (fun j e => (hown.lt j e).1)
        go_roundw
        case rel => exact ⟨k + 1, by omega, by go_num, by rw [HF.out, if_pos hc]; exact hown', hbel3⟩
        case measure => simp [intOf]; omega
    · obtain rfl : k = L.length := by omega
      go_wp2
      go_ret
      rw [List.take_length] at hown
      exact ⟨_, rfl, hown.mono hb1.size, below_below hb1 hbel⟩

end Go.Proofs.Ytoeepfhkedfmiaa.Deal
