/- Chapter 01, in plain numbers: what a number leaves, and the places of a walk. Nothing of a program in sight. -/
import Derived.Test.YtoeepfhkedfmiaaBase
namespace Go.Esc

/-- What i leaves when it is divided by n (nothing if n is below one). -/
def modZ (i n : Int) : Int := if n < 1 then 0 else i % n

theorem modZ_lo (i n : Int) : 0 ≤ modZ i n := by
  unfold modZ; split
  · omega
  · exact Int.emod_nonneg _ (by omega)
theorem modZ_hi (i n : Int) (h : 1 ≤ n) : modZ i n < n := by
  unfold modZ; rw [if_neg (by omega)]; exact Int.emod_lt_of_pos _ (by omega)
theorem modZ_idem (i n : Int) (h : 1 ≤ n) : modZ (modZ i n) n = modZ i n := by
  unfold modZ; rw [if_neg (by omega), if_neg (by omega), Int.emod_emod_of_dvd _ (Int.dvd_refl _)]

theorem tmod_two (i n : Int) (h : 1 ≤ n) : (i.tmod n + n).tmod n = i % n := by
  have h0 : 0 ≤ i.tmod n + n := by have := Int.lt_tmod_of_pos i (show (0 : Int) < n by omega); omega
  rw [Int.tmod_eq_emod_of_nonneg h0, Int.add_emod_right, Int.tmod_eq_emod]
  split
  · simp
  · have : ((n.natAbs : Nat) : Int) = n := by omega
    rw [this]
    simp

theorem mod_of_tmod (i n : Int) (h : 1 ≤ n) : i % n = if i.tmod n < 0 then i.tmod n + n else i.tmod n := by
  have h1 := Int.emod_nonneg i (show n ≠ 0 by omega)
  have h2 := Int.emod_lt_of_pos i (show 0 < n by omega)
  have h3 := Int.tmod_eq_emod (a := i) (b := n)
  have h4 : ((n.natAbs : Nat) : Int) = n := by omega
  rw [h3]
  by_cases hc : 0 ≤ i ∨ n ∣ i
  · rw [if_pos hc]; split <;> omega
  · rw [if_neg hc, h4]; split <;> omega

/-- The k-th place of a walk. -/
def walkAt (n start step : Int) (k : Nat) : Int := (modZ start n + k * step) % n
def walkBad (n step : Int) : Prop := n < 1 ∨ 1024 < n ∨ step < 1 ∨ 1024 < step
instance (n step : Int) : Decidable (walkBad n step) := by unfold walkBad; infer_instance
/-- The places of a walk. -/
def walkL (n start step : Int) : List Int := if walkBad n step then [] else (List.range n.toNat).map (walkAt n start step)

theorem walkAt_zero (n start step : Int) (h : 1 ≤ n) : walkAt n start step 0 = modZ start n := by
  unfold walkAt
  have h1 := modZ_lo start n
  have h2 := modZ_hi start n h
  simp only [Int.natCast_zero, Int.zero_mul, Int.add_zero]
  exact Int.emod_eq_of_lt h1 h2
theorem walkAt_succ (n start step : Int) (k : Nat) : walkAt n start step (k + 1) = (walkAt n start step k + step) % n := by
  unfold walkAt
  rw [Int.emod_add_emod]
  congr 1
  push_cast
  rw [Int.add_mul]
  omega
theorem walkAt_lo (n start step : Int) (k : Nat) (h : 1 ≤ n) : 0 ≤ walkAt n start step k := Int.emod_nonneg _ (by omega)
theorem walkAt_hi (n start step : Int) (k : Nat) (h : 1 ≤ n) : walkAt n start step k < n := Int.emod_lt_of_pos _ (by omega)
theorem walkL_len (n start step : Int) : (walkL n start step).length ≤ 1024 := by
  unfold walkL; split
  · simp
  · rename_i h; unfold walkBad at h; simp; omega

end Go.Esc
