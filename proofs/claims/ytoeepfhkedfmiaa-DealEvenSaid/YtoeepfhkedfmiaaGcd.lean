/- Chapter 01: the contracts of Gcd and Coprimes, the program's and the document's. -/
import Derived.Test.YtoeepfhkedfmiaaGcdPlain
import Derived.Test.YtoeepfhkedfmiaaNumAll
import Derived.RegionTactic
import Derived.WalkMore
import Derived.OpenShut
import Derived.Deep.LoopGhost
namespace Go.Proofs.Ytoeepfhkedfmiaa.Num
open Go.RowKit Go.Esc

set_option maxHeartbeats 1000000 in
theorem gcd_bad (a b : Int) (w : World) (h : a < 0 ∨ b < 0) : Calls Try.prog 30 #[.int .i64 a, .int .i64 b] w fun e w' => e = .returned (.int .i64 (gcdZ a b)) ∧ ∃ n, w' = w.drewN n := by
  have hg : gcdZ a b = 0 := by unfold gcdZ; rw [if_pos h]
  rw [hg]
  clear hg
  by_cases ha : a < 0
  · go_enter Try.func30, Try.ntmps30
    go_wp2
    go_step3
    go_wp2
    try rw [Exit.noGoto_ret]
    go_ret
    exact ⟨rfl, 0, rfl⟩
  · have hb : b < 0 := by omega
    clear h
    go_enter Try.func30, Try.ntmps30
    go_wp2
    go_step3
    go_wp2
    try rw [Exit.noGoto_ret]
    go_ret
    exact ⟨rfl, 0, rfl⟩

set_option maxHeartbeats 1000000 in
theorem gcd_good (x y : Nat) (w : World) : Calls Try.prog 30 #[.int .i64 x, .int .i64 y] w fun e w' => e = .returned (.int .i64 (Nat.gcd x y : Nat)) ∧ ∃ n, w' = w.drewN n := by
  have hd1 : decide ((x : Int) < 0) = false := by simp
  have hd2 : decide ((y : Int) < 0) = false := by simp
  go_enter Try.func30, Try.ntmps30
  go_wp2
  go_step3
  go_wp2
  go_step3
  go_wp2
  go_loopw [0, 1] (fun a b wr => ∃ (p q n : Nat), a = .int .i64 p ∧ b = .int .i64 q ∧ Hid (Nat.gcd p q = Nat.gcd x y) ∧ wr = w.drewN n) (fun _ b _ => (intOf b).toNat)
  case atStart => exact ⟨x, y, 0, rfl, rfl, rfl, rfl⟩
  case round =>
    obtain ⟨p, q, n, rfl, rfl, HG, rfl⟩ := hrel
    by_cases hq : q = 0
    · subst hq
      go_wp2
      rw [Exit.noGoto_ret]
      go_ret
      exact ⟨ret_int (by rw [← HG.out]; simp), n, rfl⟩
    · have hqb : ((q : Int) == 0) = false := by simp; omega
      have HS := Lib.hid (gcd_step p q)
      have hlt : p % q < q := Nat.mod_lt _ (by omega)
      go_wp2
      go_quiet (fail)
      go_wp2
      refine ⟨⟨q, p % q, n + nq, rfl, rfl, HS.out.trans HG.out, by rw [World.drewN_drewN]⟩, ?_⟩
      simp only [intOf]
      omega

theorem gcd_any (a b : Int) (w : World) : Calls Try.prog 30 #[.int .i64 a, .int .i64 b] w fun e w' => e = .returned (.int .i64 (gcdZ a b)) ∧ ∃ n, w' = w.drewN n := by
  by_cases h : a < 0 ∨ b < 0
  · exact gcd_bad a b w h
  · obtain ⟨x, rfl⟩ := Int.eq_ofNat_of_zero_le (show 0 ≤ a by omega)
    obtain ⟨y, rfl⟩ := Int.eq_ofNat_of_zero_le (show 0 ≤ b by omega)
    rw [gcdZ_nat]
    exact gcd_good x y w

set_option maxHeartbeats 1000000 in
theorem refgcd_bad (a b : Int) (w : World) (h : a < 0 ∨ b < 0) : Calls Try.prog 31 #[.int .i64 a, .int .i64 b] w fun e w' => e = .returned (.int .i64 (gcdZ a b)) ∧ w = w' := by
  have hg : gcdZ a b = 0 := by unfold gcdZ; rw [if_pos h]
  rw [hg]
  clear hg
  by_cases ha : a < 0
  · go_enter Try.func31, Try.ntmps31
    go_wp2
    go_ret
    exact ⟨rfl, rfl⟩
  · have hb : b < 0 := by omega
    clear h
    go_enter Try.func31, Try.ntmps31
    go_wp2
    go_ret
    exact ⟨rfl, rfl⟩

set_option maxHeartbeats 1000000 in
theorem refgcd_good (k : Nat) : ∀ (x y : Nat) (w : World), y ≤ k → (x : Int) ≤ 9223372036854775807 → (y : Int) ≤ 9223372036854775807 → Calls Try.prog 31 #[.int .i64 x, .int .i64 y] w fun e w' => e = .returned (.int .i64 (Nat.gcd x y : Nat)) ∧ w = w' := by
  induction k with
  | zero =>
    intro x y w hk hx hy
    obtain rfl : y = 0 := by omega
    go_enter Try.func31, Try.ntmps31
    go_wp2_with fail
    go_ret
    exact ⟨ret_int (by simp), rfl⟩
  | succ k ih =>
    intro x y w hk hx hy
    by_cases h0 : y = 0
    · subst h0
      go_enter Try.func31, Try.ntmps31
      go_wp2_with fail
      go_ret
      exact ⟨ret_int (by simp), rfl⟩
    · have hyb : ((y : Int) == 0) = false := by simp; omega
      have hlt : x % y < y := Nat.mod_lt _ (by omega)
      have HS := Lib.hid (gcd_step x y)
      have IH := Lib.hid ih
      clear ih
      go_enter Try.func31, Try.ntmps31
      go_wp2_with fail
      rw [show ((x : Int) % (y : Int)) = ((x % y : Nat) : Int) from rfl]
      refine (IH.out y (x % y) _ (by omega) hy (by omega)).mono ?_
      rintro e w' ⟨rfl, rfl⟩
      go_wp2_with fail
      go_ret
      exact ⟨ret_int (by rw [HS.out]), rfl⟩

theorem refgcd_any (a b : Int) (w : World) (ha : a ≤ 9223372036854775807) (hb : b ≤ 9223372036854775807) : Calls Try.prog 31 #[.int .i64 a, .int .i64 b] w fun e w' => e = .returned (.int .i64 (gcdZ a b)) ∧ w = w' := by
  by_cases h : a < 0 ∨ b < 0
  · exact refgcd_bad a b w h
  · obtain ⟨x, rfl⟩ := Int.eq_ofNat_of_zero_le (show 0 ≤ a by omega)
    obtain ⟨y, rfl⟩ := Int.eq_ofNat_of_zero_le (show 0 ≤ b by omega)
    rw [gcdZ_nat]
    exact refgcd_good y x y w (Nat.le_refl _) ha hb

set_option maxHeartbeats 1000000 in
theorem coprimes_any (n : Int) (w : World) : Calls Try.prog 33 #[.int .i64 n] w (ListPost (copL n) w) := by
  by_cases h : n < 1 ∨ 1024 < n
  · have hl : copL n = [] := by unfold copL; rw [if_pos h]
    rw [hl]
    clear hl
    by_cases h1 : n < 1
    · go_enter Try.func33, Try.ntmps33
      go_wp2
      go_ret
      exact ⟨_, rfl, OwnI.nil _ _, Below.refl _ _⟩
    · have h2 : 1024 < n := by omega
      clear h
      go_enter Try.func33, Try.ntmps33
      go_wp2
      go_ret
      exact ⟨_, rfl, OwnI.nil _ _, Below.refl _ _⟩
  · have hL : copL n = copK n n.toNat := by unfold copL; rw [if_neg h]
    rw [hL]
    clear hL
    obtain ⟨m, rfl⟩ := Int.eq_ofNat_of_zero_le (show 0 ≤ n by omega)
    simp only [Int.toNat_natCast]
    have hm1 : 1 ≤ m := by omega
    have hm2 : m ≤ 1024 := by omega
    clear h
    have hd1 : decide ((m : Int) < 1) = false := by simp; omega
    have hd2 : decide ((1024 : Int) < (m : Int)) = false := by simp; omega
    obtain ⟨i0, hi, hz0, hz1, hz2⟩ := info_parts info3
    go_enter Try.func33, Try.ntmps33
    go_wp2
    go_loopw [2, 3] (fun v i wr => ∃ k : Nat, k ≤ m ∧ i = .int .i64 ((k : Int) + 1) ∧ OwnI wr w.heap.size v (copK m k) ∧ Below w.heap.size w wr) (fun _ i _ => m + 1 - (intOf i).toNat)
    case atStart => exact ⟨0, Nat.zero_le _, rfl, OwnI.nil _ _, Below.refl _ _⟩
    case round =>
      obtain ⟨k, hk, rfl, hown, hbel⟩ := hrel
      have hkl := copK_len m k
      by_cases hlt : k < m
      · cases hc : (gcdZ ((k : Int) + 1) m == 1)
        · have HC := Lib.hid (copK_no m k hc)
          go_wp2_with fail
          refine (gcd_any _ _ _).mono ?_
          rintro e w1 ⟨rfl, nn, rfl⟩
          go_wp2_with fail
          go_roundw
          case rel => exact ⟨k + 1, by omega, by go_num, by rw [HC.out]; exact hown.drewN _, below_drewN hbel _⟩
          case measure => simp [intOf]; omega
        · have HC := Lib.hid (copK_yes m k hc)
          go_wp2_with fail
          refine (gcd_any _ _ _).mono ?_
          rintro e w1 ⟨rfl, nn, rfl⟩
          have hown2 := hown.drewN nn
          have hbel2 := below_drewN hbel nn
          generalize wr.drewN nn = w2 at *
          clear hown hbel
          unfold OwnI at hown2
          go_wp2_with (at_builtin; refine wpList_append_own _ rfl _ _ 49 rfl w.heap.size 3 i0 (.int .i64 0) 1 8 Try.underlying49 hi hz0 hz1 hz2 rfl (by decide) _ _ _ rfl (hown2.alloc _) ⟨w2.heap.size, 0, none⟩ 1 1 [.int .i64 ((k : Int) + 1)] rfl rfl (cell_one_new _ _ _) (by simp [Value.oneCell']) (by unfold maxLen; omega) (by omega) (by have := hbel2.size; simp; omega) ?_; intro v' w3 hown' hgrow _)
          have hfin : OwnI w3 w.heap.size v' (copK m (k + 1)) := by rw [HC.out]; unfold OwnI; simpa using hown'
          have hbel3 : Below w.heap.size w w3 := below_grown (below_alloc hbel2 _) hgrow (fun j e => (hown2.lt j e).1)
          go_roundw
          case rel => exact ⟨k + 1, by omega, by go_num, hfin, hbel3⟩
          case measure => simp [intOf]; omega
      · obtain rfl : k = m := by omega
        go_wp2
        go_ret
        exact ⟨_, rfl, hown, hbel⟩

set_option maxHeartbeats 1000000 in
theorem refcoprimes_any (n : Int) (w : World) : Calls Try.prog 34 #[.int .i64 n] w (ListPost (copL n) w) := by
  by_cases h : n < 1 ∨ 1024 < n
  · have hl : copL n = [] := by unfold copL; rw [if_pos h]
    rw [hl]
    clear hl
    by_cases h1 : n < 1
    · have hd : decide (1 ≤ n) = false := by simp; omega
      go_enter Try.func34, Try.ntmps34
      go_wp2
      refine wp_loop_rounds 1 ?_; rw [rounds_succ]
      go_wp2
      go_ret
      exact ⟨_, rfl, OwnI.nil _ _, Below.refl _ _⟩
    · have h2 : 1024 < n := by omega
      clear h
      have hd : decide (1 ≤ n) = true := by simp; omega
      have hd2 : decide (n ≤ 1024) = false := by simp; omega
      go_enter Try.func34, Try.ntmps34
      go_wp2
      refine wp_loop_rounds 1 ?_; rw [rounds_succ]
      go_wp2
      go_ret
      exact ⟨_, rfl, OwnI.nil _ _, Below.refl _ _⟩
  · have hL : copL n = copK n n.toNat := by unfold copL; rw [if_neg h]
    rw [hL]
    clear hL
    obtain ⟨m, rfl⟩ := Int.eq_ofNat_of_zero_le (show 0 ≤ n by omega)
    simp only [Int.toNat_natCast]
    have hm1 : 1 ≤ m := by omega
    have hm2 : m ≤ 1024 := by omega
    clear h
    have hd2 : decide ((m : Int) ≤ 1024) = true := by simp; omega
    obtain ⟨i0, hi, hz0, hz1, hz2⟩ := info_parts info3
    go_enter Try.func34, Try.ntmps34
    go_wp2
    go_loopw [3, 4] (fun v i wr => ∃ k : Nat, k ≤ m ∧ i = .int .i64 ((k : Int) + 1) ∧ OwnI wr w.heap.size v (copK m k) ∧ Below w.heap.size w wr) (fun _ i _ => m + 1 - (intOf i).toNat)
    case atStart => exact ⟨0, Nat.zero_le _, rfl, OwnI.nil _ _, Below.refl _ _⟩
    case round =>
      obtain ⟨k, hk, rfl, hown, hbel⟩ := hrel
      have hkl := copK_len m k
      by_cases hlt : k < m
      · have hd3 : decide ((k : Int) + 1 ≤ m) = true := by simp; omega
        cases hc : (gcdZ ((k : Int) + 1) m == 1)
        · have HC := Lib.hid (copK_no m k hc)
          go_wp2_with fail
          refine (refgcd_any _ _ _ (by omega) (by omega)).mono ?_
          rintro e w1 ⟨rfl, rfl⟩
          go_wp2_with fail
          go_roundw
          case rel => exact ⟨k + 1, by omega, by go_num, by rw [HC.out]; exact hown, hbel⟩
          case measure => simp [intOf]; omega
        · have HC := Lib.hid (copK_yes m k hc)
          go_wp2_with fail
          refine (refgcd_any _ _ _ (by omega) (by omega)).mono ?_
          rintro e w1 ⟨rfl, rfl⟩
          unfold OwnI at hown
          go_wp2_with (at_builtin; refine wpList_append_own _ rfl _ _ 49 rfl w.heap.size 3 i0 (.int .i64 0) 1 8 Try.underlying49 hi hz0 hz1 hz2 rfl (by decide) _ _ _ rfl (hown.alloc _) ⟨wr.heap.size, 0, none⟩ 1 1 [.int .i64 ((k : Int) + 1)] rfl rfl (cell_one_new _ _ _) (by simp [Value.oneCell']) (by unfold maxLen; omega) (by omega) (by have := hbel.size; simp; omega) ?_; intro v' w3 hown' hgrow _)
          have hfin : OwnI w3 w.heap.size v' (copK m (k + 1)) := by rw [HC.out]; unfold OwnI; simpa using hown'
          have hbel3 : Below w.heap.size w w3 := below_grown (below_alloc hbel _) hgrow (fun j e => (hown.lt j e).1)
          go_roundw
          case rel => exact ⟨k + 1, by omega, by go_num, hfin, hbel3⟩
          case measure => simp [intOf]; omega
      · obtain rfl : k = m := by omega
        have hd3 : decide ((k : Int) + 1 ≤ k) = false := by simp; omega
        go_wp2
        go_ret
        exact ⟨_, rfl, hown, hbel⟩

set_option maxHeartbeats 1000000 in
theorem divides (w : World) (a : Int) (ha : (Lit.int .i64 a).wf = true) (b : Int) (hb : (Lit.int .i64 b).wf = true) (n : Int) (_ : (Lit.int .i64 n).wf = true) :
    Calls Try.prog 7 #[.int .i64 a, .int .i64 b, .int .i64 n] w fun e w' => e = .returned (.bool true) ∧ Below w.heap.size w w' := by
  have ha' := (bounds_i64 ha).2
  have hb' := (bounds_i64 hb).2
  clear ha hb
  by_cases h : 300 < n ∧ n ≤ 1024
  · obtain ⟨h1, h2⟩ := h
    go_enter Try.func7, Try.ntmps7
    go_wp2_with (go_at_call 15; refine (alive_any _).mono ?_; rintro e w' ⟨rfl, hb⟩)
    go_ret
    exact ⟨rfl, hb⟩
  · by_cases h1 : 300 < n
    · have h2 : 1024 < n := by omega
      clear h
      go_enter Try.func7, Try.ntmps7
      go_wp2_with fail
      refine (gcd_any _ _ _).mono ?_
      rintro e w1 ⟨rfl, n1, rfl⟩
      go_wp2_with fail
      refine (refgcd_any _ _ _ ha' hb').mono ?_
      rintro e w1 ⟨rfl, rfl⟩
      go_wp2_with fail
      refine (coprimes_any _ _).mono ?_
      rintro e w2 ⟨v, rfl, ho, hb2⟩
      go_wp2_with fail
      refine (refcoprimes_any _ _).mono ?_
      rintro e w3 ⟨v', rfl, ho', hb3⟩
      go_wp2_with fail
      refine (Ref.same_yes _ _ _ _ ((Sl.ofOwn ho).below hb3) (Sl.ofOwn ho')).mono ?_
      rintro e w4 ⟨rfl, n2, rfl⟩
      go_wp2_with fail
      refine (alive_any _).mono ?_
      rintro e w5 ⟨rfl, hb5⟩
      go_wp2_with fail
      go_ret
      exact ⟨rfl, below_below (below_drewN (below_below (below_below (below_drewN (Below.refl _ _) _) hb2) hb3) _) hb5⟩
    · have h2 : n ≤ 300 := by omega
      clear h
      go_enter Try.func7, Try.ntmps7
      go_wp2_with fail
      refine (gcd_any _ _ _).mono ?_
      rintro e w1 ⟨rfl, n1, rfl⟩
      go_wp2_with fail
      refine (refgcd_any _ _ _ ha' hb').mono ?_
      rintro e w1 ⟨rfl, rfl⟩
      go_wp2_with fail
      refine (coprimes_any _ _).mono ?_
      rintro e w2 ⟨v, rfl, ho, hb2⟩
      go_wp2_with fail
      refine (refcoprimes_any _ _).mono ?_
      rintro e w3 ⟨v', rfl, ho', hb3⟩
      go_wp2_with fail
      refine (Ref.same_yes _ _ _ _ ((Sl.ofOwn ho).below hb3) (Sl.ofOwn ho')).mono ?_
      rintro e w4 ⟨rfl, n2, rfl⟩
      go_wp2_with fail
      refine (alive_any _).mono ?_
      rintro e w5 ⟨rfl, hb5⟩
      go_wp2_with fail
      go_ret
      exact ⟨rfl, below_below (below_drewN (below_below (below_below (below_drewN (Below.refl _ _) _) hb2) hb3) _) hb5⟩

end Go.Proofs.Ytoeepfhkedfmiaa.Num
