/- Chapter 17, in plain numbers. Nothing of a program in sight. -/
import Derived.Test.YtoeepfhkedfmiaaOncePlain
namespace Go.Esc

def dealBad (n : Int) : Prop := n < 1 ∨ 256 < n
instance (n : Int) : Decidable (dealBad n) := by unfold dealBad; infer_instance
def waysZ (n : Int) : Int := if dealBad n then 0 else n * (copL n).length
/-- The step of a draw. -/
def stepZ (n d : Int) : Int := (copL n)[(d / n).toNat]?.getD 0
def orderL (n draw : Int) : List Int := if dealBad n then [] else walkL n (modZ draw (waysZ n) % n) (stepZ n (modZ draw (waysZ n)))
def othersL (n self draw : Int) : List Int := (orderL n draw).filter (fun p => p != self)

theorem ways_pos {n : Int} (h : ¬ dealBad n) : n ≤ waysZ n := by
  have h' := h
  unfold dealBad at h'
  unfold waysZ
  rw [if_neg h]
  have := copL_pos (n := n) (by omega) (by omega)
  calc n = n * 1 := by omega
    _ ≤ n * ((copL n).length : Int) := Int.mul_le_mul_of_nonneg_left (by omega) (by omega)
theorem ways_hi {n : Int} : waysZ n ≤ 262144 := by
  unfold waysZ
  split
  · omega
  · rename_i h
    unfold dealBad at h
    have := copL_len n
    calc n * ((copL n).length : Int) ≤ 256 * ((copL n).length : Int) := Int.mul_le_mul_of_nonneg_right (by omega) (by omega)
      _ ≤ 262144 := by omega

/-- What a draw d (of as many as there are ways) says: a start, and which step. -/
theorem draw_ok {n d : Int} (h : ¬ dealBad n) (h0 : 0 ≤ d) (h1 : d < waysZ n) : (d / n).toNat < (copL n).length ∧ 0 ≤ d % n ∧ d % n < n ∧ 0 ≤ d / n := by
  have h' := h
  unfold dealBad at h'
  unfold waysZ at h1
  rw [if_neg h] at h1
  refine ⟨?_, Int.emod_nonneg _ (by omega), Int.emod_lt_of_pos _ (by omega), Int.ediv_nonneg h0 (by omega)⟩
  have : d / n < (copL n).length := Int.ediv_lt_of_lt_mul (by omega) (by rw [Int.mul_comm]; exact h1)
  have := Int.ediv_nonneg h0 (show 0 ≤ n by omega)
  omega

theorem step_mem {n d : Int} (h : ¬ dealBad n) (h0 : 0 ≤ d) (h1 : d < waysZ n) : stepZ n d ∈ copL n := by
  have := (draw_ok h h0 h1).1
  unfold stepZ
  simp [this]

theorem orderL_good {n draw : Int} (h : ¬ dealBad n) : orderL n draw = (List.range n.toNat).map (walkAt n (modZ draw (waysZ n) % n) (stepZ n (modZ draw (waysZ n)))) := by
  have h' := h
  unfold dealBad at h'
  unfold orderL walkL
  rw [if_neg h, if_neg]
  have hw := ways_pos h
  obtain ⟨_, _, h3, h4, _⟩ := copL_mem (step_mem h (modZ_lo draw (waysZ n)) (modZ_hi draw _ (by omega)))
  unfold walkBad
  omega

theorem orderL_len (n draw : Int) : (orderL n draw).length ≤ 1024 := by
  unfold orderL
  split
  · simp
  · exact walkL_len _ _ _

end Go.Esc
