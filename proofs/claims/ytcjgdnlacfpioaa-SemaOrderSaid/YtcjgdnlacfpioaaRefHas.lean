/- The contract of the reference's Has. -/
import Derived.Test.YtcjgdnlacfpioaaRefOne
namespace Go.Proofs.Ytcjgdnlacfpioaa.Ref
open Go.RowKit Go.Esc

set_option maxHeartbeats 1000000 in
theorem has_yes (v : Value) (l : List Int) (x : Int) (w : World) (hv : Sl w v l) (hx : x ∈ l) : Calls Try.prog 12 #[v, .int .i64 x] w fun e w' => e = .returned (.bool true) ∧ w = w' := by
  obtain ⟨a, cap, rfl, hm, hcl⟩ := hv
  unfold maxLen at hm
  obtain ⟨j, hj, hjx⟩ := List.getElem_of_mem hx
  rcases hcl with rfl | ⟨b, off, rfl, hbl, hcells⟩
  · simp at hj
  have HC := Lib.hid hcells
  have HJ : Hid (l[j]?.getD 0 = x) := by show _ = _; simp [hj, hjx]
  clear hcells hjx hx
  go_enter Try.func12, Try.ntmps12
  go_wp2
  go_loop [5] (fun i => ∃ k : Nat, k ≤ j ∧ i = .int .i64 k) (fun i => l.length - (intOf i).toNat)
  case atStart => exact ⟨0, Nat.zero_le _, rfl⟩
  case round =>
    obtain ⟨k, hk, rfl⟩ := hrel
    have hkl : k < l.length := by omega
    have c0 := HC.out k hkl
    obtain ⟨y, HY⟩ : ∃ y, Hid (l[k]?.getD 0 = y) := ⟨_, rfl⟩
    rw [HY.out] at c0
    cases hc : (y == x)
    · have hkj : k ≠ j := by
        rintro rfl
        have := HY.out.symm.trans HJ.out
        simp [this] at hc
      go_wp2
      go_round
      case rel => exact ⟨k + 1, by omega, by go_num⟩
      case measure => simp [intOf]; omega
    · go_wp2
      go_ret
      exact ⟨rfl, rfl⟩

set_option maxHeartbeats 1000000 in
theorem has_no (v : Value) (l : List Int) (x : Int) (w : World) (hv : Sl w v l) (hx : x ∉ l) : Calls Try.prog 12 #[v, .int .i64 x] w fun e w' => e = .returned (.bool false) ∧ w = w' := by
  obtain ⟨a, cap, rfl, hm, hcl⟩ := hv
  unfold maxLen at hm
  have HC := Lib.hid hcl
  have HX := Lib.hid hx
  clear hcl hx
  go_enter Try.func12, Try.ntmps12
  go_wp2
  go_loop [5] (fun i => ∃ k : Nat, k ≤ l.length ∧ i = .int .i64 k) (fun i => l.length - (intOf i).toNat)
  case atStart => exact ⟨0, Nat.zero_le _, rfl⟩
  case round =>
    obtain ⟨k, hk, rfl⟩ := hrel
    by_cases hkl : k < l.length
    · rcases HC.out with h0 | ⟨b, off, rfl, hbl, hcells⟩
      · simp [h0] at hkl
      have c0 := hcells k hkl
      have hc : (l[k]?.getD 0 == x) = false := by
        rw [beq_eq_false_iff_ne]
        rintro rfl
        exact HX.out (by simp [hkl])
      clear hcells
      generalize l[k]?.getD 0 = y at *
      go_wp2
      go_round
      case rel => exact ⟨k + 1, by omega, by go_num⟩
      case measure => simp [intOf]; omega
    · go_wp2
      go_ret
      exact ⟨rfl, rfl⟩

end Go.Proofs.Ytcjgdnlacfpioaa.Ref
