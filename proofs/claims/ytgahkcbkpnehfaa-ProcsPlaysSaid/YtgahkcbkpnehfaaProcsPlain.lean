/- Chapter 23: plain laws: who waits, counted. -/
import Derived.Test.YtgahkcbkpnehfaaProcsQueues
import Derived.Test.YtgahkcbkpnehfaaSortPlain
namespace Go.Proofs.Ytgahkcbkpnehfaa.Procs
open Go.RowKit Go.Esc
open Go.Proofs.Ytgahkcbkpnehfaa.Ring (Rw Sg allL putN putR putO behindR behindO put_perm)
open Go.Proofs.Ytgahkcbkpnehfaa.Glob (right)
set_option linter.unusedVariables false

def posr (row : List Int) : Prop := ∀ x ∈ row, 1 ≤ x
theorem right_all {l : List Int} (h : posr l) : right l = l := by
  unfold right
  rw [List.filter_eq_self]
  intro a ha
  simpa using h a ha
theorem all_pos {nx : Int} {row : List Int} (h : posr row) : posr (allL nx row) := by
  intro x hx
  unfold allL at hx
  rw [List.mem_append] at hx
  rcases hx with hx | hx
  · split at hx
    · simp at hx; omega
    · simp at hx
  · exact h x hx
theorem behind_pos {size : Nat} {row : List Int} {x : Int} (h : posr row) (hx : 1 ≤ x) : posr (behindR size row x) ∧ posr (behindO size row x) := by
  unfold behindR behindO
  split
  · refine ⟨fun y hy => ?_, fun y hy => by simp at hy⟩
    rw [List.mem_append] at hy
    rcases hy with hy | hy
    · exact h y hy
    · simp at hy; omega
  · refine ⟨fun y hy => h y (List.mem_of_mem_drop hy), fun y hy => ?_⟩
    rw [List.mem_append] at hy
    rcases hy with hy | hy
    · exact h y (List.mem_of_mem_take hy)
    · simp at hy; omega
theorem put_pos {size : Nat} {nx : Int} {row : List Int} {x : Int} {q : Bool} (h : posr row) (hnx : 0 ≤ nx) : posr (putR size nx row x q) ∧ posr (putO size nx row x q) := by
  unfold putR putO
  by_cases hx : x < 1
  · rw [if_pos hx, if_pos hx]; exact ⟨h, fun y hy => by simp at hy⟩
  · rw [if_neg hx, if_neg hx]
    cases q
    · simpa using behind_pos h (by omega)
    · by_cases h0 : nx = 0
      · simp only [if_true, if_pos h0]; exact ⟨h, fun y hy => by simp at hy⟩
      · simp only [if_true, if_neg h0]; exact behind_pos h (by omega)

/-- All who wait at rings. -/
def fl (R : Nat → Rn) (n : Nat) : List Int := (qs R n).flatten
theorem fl_succ (R : Nat → Rn) (n : Nat) : fl R (n + 1) = fl R n ++ allL (R n).nx (R n).row := by simp [fl, qs_succ]
theorem fl_len (R : Nat → Rn) (n : Nat) : (fl R n).length = tot R n := by
  induction n with
  | zero => rfl
  | succ n ih => rw [fl_succ, List.length_append, ih]; rfl
theorem fl_congr {R R' : Nat → Rn} {n : Nat} (h : ∀ i, i < n → R' i = R i) : fl R' n = fl R n := by
  induction n with
  | zero => rfl
  | succ n ih => rw [fl_succ, fl_succ, ih (fun i hi => h i (by omega)), h n (by omega)]
theorem qs_congr {R R' : Nat → Rn} {n : Nat} (h : ∀ i, i < n → R' i = R i) : qs R' n = qs R n := by
  unfold qs; apply List.map_congr_left; intro i hi; rw [h i (List.mem_range.1 hi)]
theorem qs_at (R : Nat → Rn) {n k : Nat} (h : k < n) : (qs R n)[k]?.getD [] = allL (R k).nx (R k).row := by simp [qs, h]
theorem fl_upd (R : Nat → Rn) {n i : Nat} (hi : i < n) (nx : Int) (row : List Int) (a : Int) : List.count a (fl (updR R i nx row) n) + List.count a (allL (R i).nx (R i).row) = List.count a (fl R n) + List.count a (allL nx row) := by
  induction n with
  | zero => omega
  | succ n ih =>
    rw [fl_succ, fl_succ, List.count_append, List.count_append]
    by_cases e : i = n
    · subst e
      rw [updR_self, fl_congr (R := R) (fun j hj => updR_ne R i nx row (by omega))]
      simp only
      omega
    · have := ih (by omega)
      rw [updR_ne R i nx row (show n ≠ i by omega)]
      omega
theorem fl_put {R : Nat → Rn} {n i : Nat} (hi : i < n) {x : Int} {q : Bool} (hx : 1 ≤ x) (hnx : 0 ≤ (R i).nx) {I L : List Int} (h : I.Perm (L ++ fl R n)) :
    (I ++ [x]).Perm ((L ++ putO 256 (R i).nx (R i).row x q) ++ fl (updR R i (putN (R i).nx x q) (putR 256 (R i).nx (R i).row x q)) n) := by
  rw [List.perm_iff_count] at h ⊢
  intro a
  have h1 := h a
  have h2 := fl_upd R hi (putN (R i).nx x q) (putR 256 (R i).nx (R i).row x q) a
  have h3 := (List.perm_iff_count.1 (put_perm 256 (R i).nx (R i).row x q hx hnx)) a
  simp only [List.count_append] at h1 h3 ⊢
  omega
theorem dr_count {R : Nat → Rn} {n m : Nat} (hp : ∀ i, i < n → posr (R i).row) (L : List Int) (a : Int) : ∀ k, m + k ≤ n → List.count a (dr R m L k) + List.count a (fl R m) = List.count a L + List.count a (fl R (m + k)) := by
  intro k
  induction k with
  | zero => intro _; rfl
  | succ k ih =>
    intro hk
    have := ih (by omega)
    rw [← Nat.add_assoc, fl_succ, dr, right_all (all_pos (hp (m + k) (by omega))), List.count_append, List.count_append]
    omega
theorem fl_more {R R' : Nat → Rn} {n : Nat} (h : ∀ i, i < n → R' i = R i) : ∀ k, (∀ i, n ≤ i → i < n + k → (R' i).nx = 0 ∧ (R' i).row = []) → fl R' (n + k) = fl R n := by
  intro k
  induction k with
  | zero => intro _; exact fl_congr h
  | succ k ih =>
    intro hz
    rw [← Nat.add_assoc, fl_succ, ih (fun i h1 h2 => hz i h1 (by omega)), (hz (n + k) (by omega) (by omega)).1, (hz (n + k) (by omega) (by omega)).2]
    simp [allL]
/-- More or fewer rings: all wait still. -/
theorem res_perm {R R' : Nat → Rn} {n m : Nat} (hp : ∀ i, i < n → posr (R i).row) {I L : List Int} (h : I.Perm (L ++ fl R n)) (hold : ∀ i, i < m → i < n → R' i = R i) (hnew : ∀ i, n ≤ i → i < m → (R' i).nx = 0 ∧ (R' i).row = []) :
    I.Perm (dr R m L (n - m) ++ fl R' m) := by
  by_cases hc : m ≤ n
  · rw [fl_congr (fun i hi => hold i hi (by omega))]
    rw [List.perm_iff_count] at h ⊢
    intro a
    have h1 := h a
    have h2 := dr_count hp L a (n - m) (m := m) (by omega)
    rw [show m + (n - m) = n by omega] at h2
    rw [List.count_append] at h1 ⊢
    omega
  · rw [show n - m = 0 by omega]
    have := fl_more (R := R) (R' := R') (n := n) (fun i hi => hold i (by omega) hi) (m - n) (fun i h1 h2 => hnew i h1 (by omega))
    rw [show n + (m - n) = m by omega] at this
    rw [this]
    exact h
theorem res_pos {R R' : Nat → Rn} {n m : Nat} (hp : ∀ i, i < n → posr (R i).row) (hold : ∀ i, i < m → i < n → R' i = R i) (hnew : ∀ i, n ≤ i → i < m → (R' i).nx = 0 ∧ (R' i).row = []) : ∀ i, i < m → posr (R' i).row := by
  intro i hi
  by_cases h : i < n
  · rw [hold i hi h]; exact hp i h
  · rw [(hnew i (by omega) hi).2]; exact fun x hx => by simp at hx
theorem upd_pos {R : Nat → Rn} {n i : Nat} {nx : Int} {row : List Int} (hp : ∀ i, i < n → posr (R i).row) (h : posr row) : ∀ j, j < n → posr (updR R i nx row j).row := by
  intro j hj
  by_cases e : j = i
  · subst e; rw [updR_self]; exact h
  · rw [updR_ne _ _ _ _ e]; exact hp j hj
end Go.Proofs.Ytgahkcbkpnehfaa.Procs
