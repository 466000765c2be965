/- Chapter 01, in plain numbers: divisors. Nothing of a program in sight. -/
import Derived.Test.YtoeepfhkedfmiaaNumPlain
namespace Go.Esc

/-- The greatest common divisor (nothing of a number below zero). -/
def gcdZ (a b : Int) : Int := if a < 0 ∨ b < 0 then 0 else (Nat.gcd a.toNat b.toNat : Nat)

theorem gcdZ_nat (x y : Nat) : gcdZ x y = (Nat.gcd x y : Nat) := by
  unfold gcdZ; rw [if_neg (by omega)]; simp
theorem gcd_step (x y : Nat) : Nat.gcd y (x % y) = Nat.gcd x y := by
  rw [Nat.gcd_comm y (x % y), ← Nat.gcd_rec y x, Nat.gcd_comm]

/-- Which numbers from one to k have no divisor with n but one. -/
def copK (n : Int) (k : Nat) : List Int := ((List.range k).map (fun i : Nat => (i : Int) + 1)).filter fun i => gcdZ i n == 1
def copL (n : Int) : List Int := if n < 1 ∨ 1024 < n then [] else copK n n.toNat

theorem copK_zero (n : Int) : copK n 0 = [] := rfl
theorem copK_yes (n : Int) (k : Nat) (h : (gcdZ ((k : Int) + 1) n == 1) = true) : copK n (k + 1) = copK n k ++ [(k : Int) + 1] := by
  unfold copK; rw [List.range_succ, List.map_append, List.filter_append]; simp [h]
theorem copK_no (n : Int) (k : Nat) (h : (gcdZ ((k : Int) + 1) n == 1) = false) : copK n (k + 1) = copK n k := by
  unfold copK; rw [List.range_succ, List.map_append, List.filter_append]; simp [h]
theorem copK_len (n : Int) (k : Nat) : (copK n k).length ≤ k := by
  unfold copK
  have := List.length_filter_le (fun i => gcdZ i n == 1) ((List.range k).map (fun i : Nat => (i : Int) + 1))
  simpa using this

end Go.Esc
