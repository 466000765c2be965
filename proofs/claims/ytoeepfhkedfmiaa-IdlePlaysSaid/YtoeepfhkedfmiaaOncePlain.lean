/- Chapter 01, in plain numbers: a walk by a step without a common divisor has each place just once. Nothing of a program in sight. -/
import Derived.Test.YtoeepfhkedfmiaaGcdPlain
namespace Go.Esc

theorem copL_mem {n s : Int} (h : s ∈ copL n) : 1 ≤ n ∧ n ≤ 1024 ∧ 1 ≤ s ∧ s ≤ n ∧ Nat.Coprime s.toNat n.toNat := by
  unfold copL at h
  split at h
  · simp at h
  · rename_i hn
    unfold copK at h
    obtain ⟨h1, h2⟩ := List.mem_filter.1 h
    obtain ⟨i, hi, rfl⟩ := List.mem_map.1 h1
    have hi' := List.mem_range.1 hi
    have h3 : gcdZ ((i : Int) + 1) n = 1 := by simpa using h2
    unfold gcdZ at h3
    rw [if_neg (by omega)] at h3
    refine ⟨by omega, by omega, by omega, by omega, ?_⟩
    unfold Nat.Coprime
    omega

theorem copL_pos {n : Int} (h1 : 1 ≤ n) (h2 : n ≤ 1024) : 0 < (copL n).length := by
  have : (1 : Int) ∈ copL n := by
    unfold copL
    rw [if_neg (by omega)]
    unfold copK
    refine List.mem_filter.2 ⟨List.mem_map.2 ⟨0, List.mem_range.2 (by omega), by simp⟩, ?_⟩
    unfold gcdZ
    rw [if_neg (by omega)]
    simp
  exact List.length_pos_of_mem this

theorem copL_len (n : Int) : (copL n).length ≤ 1024 := by
  unfold copL
  split
  · simp
  · rename_i h
    have := copK_len n n.toNat
    omega

theorem walkAt_inj {n s start : Int} (hn : 1 ≤ n) (hs : 1 ≤ s) (hc : Nat.Coprime s.toNat n.toNat) {i j : Nat} (hij : i < j) (hj : (j : Int) < n) : walkAt n start s i ≠ walkAt n start s j := by
  intro h
  unfold walkAt at h
  have h1 : n ∣ (modZ start n + (j : Int) * s) - (modZ start n + (i : Int) * s) := Int.dvd_of_emod_eq_zero (by rw [Int.sub_emod, h]; simp)
  have h2 : (modZ start n + (j : Int) * s) - (modZ start n + (i : Int) * s) = ((j - i : Nat) : Int) * s := by
    have : ((j - i : Nat) : Int) = (j : Int) - (i : Int) := by omega
    rw [this, Int.sub_mul]; omega
  rw [h2] at h1
  obtain ⟨N, rfl⟩ := Int.eq_ofNat_of_zero_le (show 0 ≤ n by omega)
  obtain ⟨S, rfl⟩ := Int.eq_ofNat_of_zero_le (show 0 ≤ s by omega)
  have h3 : N ∣ (j - i) * S := by
    rw [← Int.natCast_mul] at h1
    exact Int.natCast_dvd_natCast.1 h1
  have h4 : N ∣ (j - i) := (Nat.Coprime.symm hc).dvd_of_dvd_mul_right h3
  have := Nat.le_of_dvd (by omega) h4
  omega

end Go.Esc
