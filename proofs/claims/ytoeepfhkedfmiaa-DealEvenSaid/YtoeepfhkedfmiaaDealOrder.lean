/- Chapter 17: the contracts of Order, the program's and the document's. -/
import Derived.Test.YtoeepfhkedfmiaaDeal
namespace Go.Proofs.Ytoeepfhkedfmiaa.Deal
open Go.RowKit Go.Esc Go.Shelf Num

/-- A draw, taken apart: natural numbers for all that is read. -/
theorem draw_nat {n draw : Int} (h : ¬ dealBad n) : ∃ m D q r : Nat, n = m ∧ 1 ≤ m ∧ m ≤ 256 ∧ modZ draw (waysZ n) = D ∧ q < (copL m).length ∧ r < m ∧ (D : Int) ≤ 262144 ∧
    (D : Int).tdiv m = q ∧ (D : Int) / m = q ∧ (D : Int).tmod m = r ∧ (D : Int) % m = r ∧ orderL n draw = walkL m r (((copL m)[q]?).getD 0) := by
  have h' := h
  unfold dealBad at h'
  obtain ⟨m, rfl⟩ := Int.eq_ofNat_of_zero_le (show 0 ≤ n by omega)
  have hw := ways_pos h
  have hwh := ways_hi (n := (m : Int))
  have h0 := modZ_lo draw (waysZ m)
  have h1 := modZ_hi draw (waysZ m) (by omega)
  obtain ⟨D, HD⟩ := Int.eq_ofNat_of_zero_le h0
  rw [HD] at h1
  have hq := (draw_ok h (show (0 : Int) ≤ D by omega) h1).1
  rw [← Int.natCast_ediv, Int.toNat_natCast] at hq
  refine ⟨m, D, D / m, D % m, rfl, by omega, by omega, HD, hq, Nat.mod_lt _ (by omega), by omega, rfl, rfl, rfl, rfl, ?_⟩
  unfold orderL stepZ
  rw [if_neg h, HD, ← Int.natCast_ediv, Int.toNat_natCast]
  rfl

set_option maxHeartbeats 2000000 in
theorem reforder_any (n draw : Int) (w : World) : Calls Try.prog 51 #[.int .i64 n, .int .i64 draw] w (ListPost (orderL n draw) w) := by
  by_cases h : dealBad n
  · have hL : orderL n draw = [] := by unfold orderL; rw [if_pos h]
    rw [hL]
    clear hL
    unfold dealBad at h
    by_cases h1 : n < 1
    · clear h
      go_enter Try.func51, Try.ntmps51
      go_wp2
      go_ret
      exact ⟨_, rfl, OwnI.nil _ _, Below.refl _ _⟩
    · have h2 : 256 < n := by omega
      clear h
      go_enter Try.func51, Try.ntmps51
      go_wp2
      go_ret
      exact ⟨_, rfl, OwnI.nil _ _, Below.refl _ _⟩
  · obtain ⟨m, D, q, r, rfl, hm1, hm2, HD, hlt, hrm, hD, e1, e2, e3, e4, HL⟩ := draw_nat (draw := draw) h
    obtain ⟨s, HS⟩ : ∃ s, Hid ((copL m)[q]?.getD 0 = s) := ⟨_, rfl⟩
    rw [HL, HS.out]
    clear h HL
    have hwh := ways_hi (n := (m : Int))
    have hlen := copL_len m
    have hne : copL m ≠ [] := by intro h; simp [h] at hlt
    have HD' := Lib.hid HD
    clear HD
    have hd1 : decide ((m : Int) < 1) = false := by simp; omega
    have hd2 : decide ((256 : Int) < (m : Int)) = false := by simp; omega
    have hmz : ((m : Int) == 0) = false := by rw [beq_eq_false_iff_ne]; omega
    have e5 : IntKind.i64.wrap (q : Int) = q := IntWalk.i64_in _ (by omega)
    have hi1 : (q : Int) < ((copL m).length : Int) := by omega
    go_enter Try.func51, Try.ntmps51
    go_wp2_with fail
    refine (refways_any _ _).mono ?_
    rintro e w1 ⟨rfl, hb1⟩
    go_wp2_with fail
    refine (Ref.refmod_any _ _ _ (by omega)).mono ?_
    rintro e w2 ⟨rfl, rfl⟩
    rw [HD'.out]
    go_upto_region 4 with fail
    go_region_with (first
      | (go_at_call 34; refine (refcoprimes_any _ _).mono ?_; rintro e w3 ⟨v, rfl, ho, hb3⟩; obtain ⟨b, off, cap, rfl, hbl, hcells⟩ := sl_cell (Sl.ofOwn ho) hne; have cq := hcells q hlt; rw [HS.out] at cq; clear hcells)
      | (go_at_call 59; refine (refwalk_any _ _ _ _).mono ?_; rintro e w4 ⟨v4, rfl, ho4, hb4⟩))
    all_goals go_wp2
    all_goals go_ret
    all_goals exact ⟨_, rfl, ho4.mono (by have := hb1.size; have := hb3.size; simp at this; omega), below_below (below_below hb1 (undrew hb3)) hb4⟩

end Go.Proofs.Ytoeepfhkedfmiaa.Deal
