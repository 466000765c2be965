/- Chapter 16: how many go at once, the program's and the document's. -/
import Derived.Test.YtgahkcbkpnehfaaRefOne
import Derived.BigGuard
namespace Go.Esc
def manyBad (n p m : Int) : Prop := p < 1 ∨ m < 1 ∨ n < 1
instance (n p m : Int) : Decidable (manyBad n p m) := by unfold manyBad; infer_instance
def manyZ (n p m : Int) : Int := if manyBad n p m then 0 else min n (min m (min (n / p) (n - 1) + 1))
theorem many_lo {n p m : Int} (h : ¬ manyBad n p m) : 1 ≤ manyZ n p m ∧ manyZ n p m ≤ n ∧ manyZ n p m ≤ m := by
  have h' := h
  unfold manyBad at h'
  unfold manyZ
  rw [if_neg h]
  have := Int.ediv_nonneg (show 0 ≤ n by omega) (show 0 ≤ p by omega)
  omega
theorem many_le (n p m : Int) (hn : 0 ≤ n) : 0 ≤ manyZ n p m ∧ manyZ n p m ≤ n := by
  by_cases h : manyBad n p m
  · unfold manyZ; rw [if_pos h]; omega
  · have := many_lo h; omega
theorem many_ref {n p m : Int} (h : ¬ manyBad n p m) : manyZ n p m = if n ≤ n / p ∨ m ≤ n / p then min n m else n / p + 1 := by
  have h' := h
  unfold manyBad at h'
  unfold manyZ
  rw [if_neg h]
  have h0 := Int.ediv_nonneg (show 0 ≤ n by omega) (show 0 ≤ p by omega)
  have h1 : n / p ≤ n := Int.ediv_le_self _ (by omega)
  split <;> omega
end Go.Esc
namespace Go.Proofs.Ytgahkcbkpnehfaa.Glob
open Go.RowKit Go.Esc

set_option maxHeartbeats 1000000 in
theorem many_any (n p m : Int) (w : World) (hn : n ≤ 9223372036854775807) : Calls Try.prog 13 #[.int .i64 n, .int .i64 p, .int .i64 m] w fun e w' => e = .returned (.int .i64 (manyZ n p m)) ∧ w = w' := by
  by_cases h : manyBad n p m
  · have hZ : manyZ n p m = 0 := by unfold manyZ; rw [if_pos h]
    rw [hZ]
    clear hZ
    unfold manyBad at h
    by_cases h1 : p < 1
    · clear h
      go_enter Try.func13, Try.ntmps13
      go_wp2
      go_ret
      exact ⟨rfl, rfl⟩
    · by_cases h2 : m < 1
      · clear h
        go_enter Try.func13, Try.ntmps13
        go_wp2
        go_ret
        exact ⟨rfl, rfl⟩
      · have h3 : n < 1 := by omega
        clear h
        go_enter Try.func13, Try.ntmps13
        go_wp2
        go_ret
        exact ⟨rfl, rfl⟩
  · have HZ : Hid (manyZ n p m = min n (min m (min (n / p) (n - 1) + 1))) := by show _ = _; unfold manyZ; rw [if_neg h]
    unfold manyBad at h
    have hn1 : 1 ≤ n := by omega
    have hp1 : 1 ≤ p := by omega
    have hm1 : 1 ≤ m := by omega
    clear h
    have hpz : (p == 0) = false := by rw [beq_eq_false_iff_ne]; omega
    have hq0 := Int.ediv_nonneg (show 0 ≤ n by omega) (show 0 ≤ p by omega)
    have hq1 : n / p ≤ n := Int.ediv_le_self _ (by omega)
    go_enter Try.func13, Try.ntmps13
    go_wp2
    all_goals go_ret
    all_goals exact ⟨ret_int (by rw [HZ.out]; omega), rfl⟩

set_option maxHeartbeats 1000000 in
theorem refmany_any (n p m : Int) (w : World) (hn : n ≤ 9223372036854775807) : Calls Try.prog 14 #[.int .i64 n, .int .i64 p, .int .i64 m] w fun e w' => e = .returned (.int .i64 (manyZ n p m)) ∧ w = w' := by
  by_cases h : manyBad n p m
  · have hZ : manyZ n p m = 0 := by unfold manyZ; rw [if_pos h]
    rw [hZ]
    clear hZ
    unfold manyBad at h
    by_cases h1 : p < 1
    · clear h
      go_enter Try.func14, Try.ntmps14
      go_wp2
      go_ret
      exact ⟨rfl, rfl⟩
    · by_cases h2 : m < 1
      · clear h
        go_enter Try.func14, Try.ntmps14
        go_wp2
        go_ret
        exact ⟨rfl, rfl⟩
      · have h3 : n < 1 := by omega
        clear h
        go_enter Try.func14, Try.ntmps14
        go_wp2
        go_ret
        exact ⟨rfl, rfl⟩
  · have HZ := Lib.hid (many_ref h)
    unfold manyBad at h
    have hn1 : 1 ≤ n := by omega
    have hp1 : 1 ≤ p := by omega
    have hm1 : 1 ≤ m := by omega
    clear h
    have hpz : (p == 0) = false := by rw [beq_eq_false_iff_ne]; omega
    have hq0 := Int.ediv_nonneg (show 0 ≤ n by omega) (show 0 ≤ p by omega)
    have hq1 : n / p ≤ n := Int.ediv_le_self _ (by omega)
    by_cases h1 : n ≤ n / p
    · go_enter Try.func14, Try.ntmps14
      go_wp2
      all_goals go_ret
      all_goals exact ⟨ret_int (by rw [HZ.out, if_pos (.inl h1)]; omega), rfl⟩
    · by_cases h2 : m ≤ n / p
      · have hd1 : decide (n ≤ n / p) = false := by simp; omega
        go_enter Try.func14, Try.ntmps14
        go_wp2
        all_goals go_ret
        all_goals exact ⟨ret_int (by rw [HZ.out, if_pos (.inr h2)]; omega), rfl⟩
      · have hd1 : decide (n ≤ n / p) = false := by simp; omega
        have hd2 : decide (m ≤ n / p) = false := by simp; omega
        go_enter Try.func14, Try.ntmps14
        go_wp2
        all_goals go_ret
        all_goals exact ⟨ret_int (by rw [HZ.out, if_neg (by omega)]), rfl⟩
end Go.Proofs.Ytgahkcbkpnehfaa.Glob
