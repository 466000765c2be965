/- Chapter 17: the walk of DealOrders. -/
import Derived.Test.YtoeepfhkedfmiaaDealOthers
namespace Go.Proofs.Ytoeepfhkedfmiaa.Deal
open Go.RowKit Go.Esc Num

set_option maxHeartbeats 1000000 in
theorem alive_any (w : World) : Calls Try.prog 42 #[] w fun e w' => e = .returned (.bool true) ∧ Below w.heap.size w w' := by
  have HO := Lib.hid (order_any 4 5)
  rw [show orderL 4 5 = [1, 0, 3, 2] from by decide +kernel] at HO
  have HW := Lib.hid (ways_any 4)
  rw [show waysZ 4 = 8 from by decide +kernel] at HW
  go_enter Try.func42, Try.ntmps42
  go_wp2_with fail
  refine (HO.out _).mono ?_
  rintro e w1 ⟨v, rfl, ho, hb⟩
  have hs := Sl.ofOwn ho
  go_wp2_with fail
  refine (Ref.same_yes _ _ [1, 0, 3, 2] _ (hs.alloc _) (Sl.new w1 [1, 0, 3, 2] 4 (by decide))).mono ?_
  rintro e w2 ⟨rfl, n, rfl⟩
  go_wp2_with fail
  refine (HW.out _).mono ?_
  rintro e w3 ⟨rfl, hb3⟩
  go_wp2
  go_ret
  exact ⟨rfl, below_below (below_drewN (below_alloc hb _) _) hb3⟩

set_option maxHeartbeats 1000000 in
theorem orders_core (n self draw : Int) (w : World) (h : ¬ (100 < n ∧ n ≤ 256)) :
    Calls Try.prog 13 #[.int .i64 n, .int .i64 self, .int .i64 draw] w fun e w' => e = .returned (.bool true) ∧ Below w.heap.size w w' := by
  have HW := Lib.hid (ways_any n)
  have HW' := Lib.hid (refways_any n)
  have HO := Lib.hid (order_any n draw)
  have HO' := Lib.hid (reforder_any n draw)
  have HT := Lib.hid (others_any n self draw)
  have HT' := Lib.hid (refothers_any n self draw)
  generalize waysZ n = W at *
  generalize orderL n draw = L at *
  generalize othersL n self draw = T at *
  by_cases h1 : 100 < n
  · have h2 : 256 < n := by omega
    clear h
    go_enter Try.func13, Try.ntmps13
    go_wp2_with fail
    refine (HW.out _).mono ?_
    rintro e w1 ⟨rfl, hb1⟩
    go_wp2_with fail
    refine (HW'.out _).mono ?_
    rintro e w2 ⟨rfl, hb2⟩
    go_wp2_with fail
    refine (HO.out _).mono ?_
    rintro e w3 ⟨v3, rfl, ho3, hb3⟩
    go_wp2_with fail
    refine (HO'.out _).mono ?_
    rintro e w4 ⟨v4, rfl, ho4, hb4⟩
    go_wp2_with fail
    refine (Ref.same_yes _ _ _ _ ((Sl.ofOwn ho3).below hb4) (Sl.ofOwn ho4)).mono ?_
    rintro e w5 ⟨rfl, n5, rfl⟩
    go_wp2_with fail
    refine (HT.out _).mono ?_
    rintro e w6 ⟨v6, rfl, ho6, hb6⟩
    go_wp2_with fail
    refine (HT'.out _).mono ?_
    rintro e w7 ⟨v7, rfl, ho7, hb7⟩
    go_wp2_with fail
    refine (Ref.same_yes _ _ _ _ ((Sl.ofOwn ho6).below hb7) (Sl.ofOwn ho7)).mono ?_
    rintro e w8 ⟨rfl, n8, rfl⟩
    go_wp2_with fail
    refine (alive_any _).mono ?_
    rintro e w9 ⟨rfl, hb9⟩
    go_wp2_with fail
    go_ret
    exact ⟨rfl, below_below (below_drewN (below_below (below_below (below_drewN (below_below (below_below (below_below hb1 hb2) hb3) hb4) _) hb6) hb7) _) hb9⟩
  · have h2 : n ≤ 100 := by omega
    clear h
    go_enter Try.func13, Try.ntmps13
    go_wp2_with fail
    refine (HW.out _).mono ?_
    rintro e w1 ⟨rfl, hb1⟩
    go_wp2_with fail
    refine (HW'.out _).mono ?_
    rintro e w2 ⟨rfl, hb2⟩
    go_wp2_with fail
    refine (HO.out _).mono ?_
    rintro e w3 ⟨v3, rfl, ho3, hb3⟩
    go_wp2_with fail
    refine (HO'.out _).mono ?_
    rintro e w4 ⟨v4, rfl, ho4, hb4⟩
    go_wp2_with fail
    refine (Ref.same_yes _ _ _ _ ((Sl.ofOwn ho3).below hb4) (Sl.ofOwn ho4)).mono ?_
    rintro e w5 ⟨rfl, n5, rfl⟩
    go_wp2_with fail
    refine (HT.out _).mono ?_
    rintro e w6 ⟨v6, rfl, ho6, hb6⟩
    go_wp2_with fail
    refine (HT'.out _).mono ?_
    rintro e w7 ⟨v7, rfl, ho7, hb7⟩
    go_wp2_with fail
    refine (Ref.same_yes _ _ _ _ ((Sl.ofOwn ho6).below hb7) (Sl.ofOwn ho7)).mono ?_
    rintro e w8 ⟨rfl, n8, rfl⟩
    go_wp2_with fail
    refine (alive_any _).mono ?_
    rintro e w9 ⟨rfl, hb9⟩
    go_wp2_with fail
    go_ret
    exact ⟨rfl, below_below (below_drewN (below_below (below_below (below_drewN (below_below (below_below (below_below hb1 hb2) hb3) hb4) _) hb6) hb7) _) hb9⟩

theorem orders (w : World) (n : Int) (_ : (Lit.int .i64 n).wf = true) (self : Int) (_ : (Lit.int .i64 self).wf = true) (draw : Int) (_ : (Lit.int .i64 draw).wf = true) :
    Calls Try.prog 13 #[.int .i64 n, .int .i64 self, .int .i64 draw] w fun e w' => e = .returned (.bool true) ∧ Below w.heap.size w w' := by
  by_cases h : 100 < n ∧ n ≤ 256
  · obtain ⟨h1, h2⟩ := h
    go_enter Try.func13, Try.ntmps13
    go_wp2_with (go_at_call 42; refine (alive_any _).mono ?_; rintro e w' ⟨rfl, hb⟩)
    go_ret
    exact ⟨rfl, hb⟩
  · exact orders_core n self draw w h

end Go.Proofs.Ytoeepfhkedfmiaa.Deal
