/- Chapter 17: the contracts of deal and of its reference. -/
import Derived.Test.YtoeepfhkedfmiaaDealPlain
import Derived.Test.YtoeepfhkedfmiaaGcd
import Derived.Test.YtoeepfhkedfmiaaApp
import Derived.Test.YtoeepfhkedfmiaaNumOnceWalk
import Derived.Stop.RegionWithIn
import Derived.Deep.RegionWith
import Derived.Deep.DeepCutAuto
namespace Go.Proofs.Ytoeepfhkedfmiaa.Deal
open Go.RowKit Go.Esc Go.Shelf Num

theorem own_len {w : World} {base : Nat} {v : Value} {l : List Int} (h : OwnI w base v l) : ∃ a cap, v = .slice a l.length cap := by
  obtain ⟨a, cap, hv, _⟩ := Sl.ofOwn h
  exact ⟨a, cap, hv⟩

def IntPost (x : Int) (w : World) (e : Ending) (w' : World) : Prop := e = .returned (.int .i64 x) ∧ Below w.heap.size w w'

set_option maxHeartbeats 1000000 in
theorem ways_any (n : Int) (w : World) : Calls Try.prog 43 #[.int .i64 n] w (IntPost (waysZ n) w) := by
  by_cases h : dealBad n
  · have hW : waysZ n = 0 := by unfold waysZ; rw [if_pos h]
    rw [hW]
    clear hW
    unfold dealBad at h
    by_cases h1 : n < 1
    · clear h
      have hd : decide (1 ≤ n) = false := by simp; omega
      go_enter Try.func43, Try.ntmps43
      go_wp2
      go_ret
      exact ⟨rfl, Below.refl _ _⟩
    · have h2 : 256 < n := by omega
      clear h
      have hd : decide (1 ≤ n) = true := by simp; omega
      have hd2 : decide (n ≤ 256) = false := by simp; omega
      go_enter Try.func43, Try.ntmps43
      go_wp2
      go_ret
      exact ⟨rfl, Below.refl _ _⟩
  · have hW : waysZ n = n * (copL n).length := by unfold waysZ; rw [if_neg h]
    have hhi := ways_hi (n := n)
    have hlo := ways_pos h
    rw [hW] at hhi hlo ⊢
    clear hW
    unfold dealBad at h
    have hd : decide (1 ≤ n) = true := by simp; omega
    have hd2 : decide (n ≤ 256) = true := by simp; omega
    go_enter Try.func43, Try.ntmps43
    go_wp2_with (first | (go_at_call 33; refine (coprimes_any _ _).mono ?_; rintro e w1 ⟨v, rfl, ho, hb⟩; obtain ⟨a, cap, rfl⟩ := own_len ho) | (go_at_call 56; go_in))
    go_ret
    exact ⟨ret_int (by first | rfl | exact IntWalk.wrap64_in _ ⟨by omega, by omega⟩), hb⟩

set_option maxHeartbeats 1000000 in
theorem refways_any (n : Int) (w : World) : Calls Try.prog 50 #[.int .i64 n] w (IntPost (waysZ n) w) := by
  by_cases h : dealBad n
  · have hW : waysZ n = 0 := by unfold waysZ; rw [if_pos h]
    rw [hW]
    clear hW
    unfold dealBad at h
    by_cases h1 : n < 1
    · clear h
      go_enter Try.func50, Try.ntmps50
      go_wp2
      go_ret
      exact ⟨rfl, Below.refl _ _⟩
    · have h2 : 256 < n := by omega
      clear h
      go_enter Try.func50, Try.ntmps50
      go_wp2
      go_ret
      exact ⟨rfl, Below.refl _ _⟩
  · have hW : waysZ n = n * (copL n).length := by unfold waysZ; rw [if_neg h]
    have hhi := ways_hi (n := n)
    have hlo := ways_pos h
    rw [hW] at hhi hlo ⊢
    clear hW
    unfold dealBad at h
    have hd : decide (n < 1) = false := by simp; omega
    have hd2 : decide (256 < n) = false := by simp; omega
    go_enter Try.func50, Try.ntmps50
    go_wp2_with (go_at_call 34; refine (refcoprimes_any _ _).mono ?_; rintro e w1 ⟨v, rfl, ho, hb⟩; obtain ⟨a, cap, rfl⟩ := own_len ho)
    go_ret
    exact ⟨ret_int (by first | rfl | exact IntWalk.wrap64_in _ ⟨by omega, by omega⟩), hb⟩

set_option maxHeartbeats 1000000 in
theorem refwalk_any (n start step : Int) (w : World) : Calls Try.prog 59 #[.int .i64 n, .int .i64 start, .int .i64 step] w (ListPost (walkL n start step) w) := by
  by_cases h : walkBad n step
  · have hL : walkL n start step = [] := by unfold walkL; rw [if_pos h]
    rw [hL]
    clear hL
    unfold walkBad at h
    by_cases h1 : n < 1
    · clear h
      go_enter Try.func59, Try.ntmps59
      go_wp2
      go_ret
      exact ⟨_, rfl, OwnI.nil _ _, Below.refl _ _⟩
    · by_cases h2 : 1024 < n
      · clear h
        go_enter Try.func59, Try.ntmps59
        go_wp2
        go_ret
        exact ⟨_, rfl, OwnI.nil _ _, Below.refl _ _⟩
      · by_cases h3 : step < 1
        · clear h
          go_enter Try.func59, Try.ntmps59
          go_wp2
          go_ret
          exact ⟨_, rfl, OwnI.nil _ _, Below.refl _ _⟩
        · have h4 : 1024 < step := by omega
          clear h
          go_enter Try.func59, Try.ntmps59
          go_wp2
          go_ret
          exact ⟨_, rfl, OwnI.nil _ _, Below.refl _ _⟩
  · have h' := h
    unfold walkBad at h'
    obtain ⟨m, rfl⟩ := Int.eq_ofNat_of_zero_le (show 0 ≤ n by omega)
    rw [walkL_nat h]
    clear h
    have hm1 : 1 ≤ m := by omega
    have hm2 : m ≤ 1024 := by omega
    have hs1 : 1 ≤ step := by omega
    have hs2 : step ≤ 1024 := by omega
    clear h'
    have hd1 : decide ((m : Int) < 1) = false := by simp; omega
    have hd2 : decide ((1024 : Int) < (m : Int)) = false := by simp; omega
    have hd3 : decide (step < 1) = false := by simp; omega
    have hd4 : decide ((1024 : Int) < step) = false := by simp; omega
    go_enter Try.func59, Try.ntmps59
    go_wp2_with (go_at_call 17; refine (Ref.refmod_any _ _ _ (by omega)).mono ?_; rintro e w1 ⟨rfl, rfl⟩)
    go_loopw [7, 8, 9] (fun v a i wr => ∃ k : Nat, k ≤ m ∧ i = .int .i64 k ∧ a = .int .i64 (walkAt m start step k) ∧ OwnI wr w.heap.size v ((List.range k).map (walkAt m start step)) ∧ Below w.heap.size w wr) (fun _ _ i _ => m - (intOf i).toNat)
    case atStart => exact ⟨0, Nat.zero_le _, rfl, by rw [walkAt_zero _ _ _ (by omega)], OwnI.nil _ _, Below.refl _ _⟩
    case round =>
      obtain ⟨k, hk, rfl, rfl, hown, hbel⟩ := hrel
      by_cases hlt : k < m
      · have w0 := walkAt_lo m start step k (by omega)
        have w1 := walkAt_hi m start step k (by omega)
        have HS := Lib.hid (walkAt_succ m start step k)
        have HR := Lib.hid (range_snoc m start step k)
        go_wp2_with (at_builtin; refine app1 Try.underlying49 info3 w.heap.size wr (walkAt m start step k) rfl _ _ rfl _ _ rfl rfl hown hbel.size (by simp; omega) ?_; intro v' w3 hown' hgrow _)
        have hbel3 : Below w.heap.size w w3 := below_grown hbel hgrow (fun j e => (hown.lt j e).1)
        go_roundw
        case rel => exact ⟨k + 1, by omega, by go_num, by rw [HS.out], by rw [HR.out]; exact hown', hbel3⟩
        case measure => simp [intOf]; omega
      · obtain rfl : k = m := by omega
        go_wp2
        go_ret
        exact ⟨_, rfl, hown, hbel⟩

end Go.Proofs.Ytoeepfhkedfmiaa.Deal
