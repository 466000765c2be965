/- Chapter 13: lists that are sorted, and who is where, in plain lists. Nothing of a program in sight. -/
import Derived.Test.YtgahkcbkpnehfaaRingFill
namespace Go.Esc

def ins (x : Int) : List Int → List Int
  | [] => [x]
  | y :: s => if y < x then y :: ins x s else x :: y :: s
theorem ins_len (x : Int) (s : List Int) : (ins x s).length = s.length + 1 := by
  induction s with
  | nil => rfl
  | cons y s ih => unfold ins; split <;> simp [ih]
theorem ins_comm (x y : Int) (s : List Int) : ins x (ins y s) = ins y (ins x s) := by
  induction s with
  | nil =>
    simp only [ins]
    by_cases h1 : y < x
    · rw [if_pos h1, if_neg (by omega)]
    · by_cases h2 : x < y
      · rw [if_neg h1, if_pos h2]
      · have : x = y := by omega
        subst this; rfl
  | cons z s ih =>
    by_cases h1 : z < x <;> by_cases h2 : z < y
    · simp only [ins, if_pos h1, if_pos h2, ih]
    · simp only [ins, if_pos h1, if_neg h2]
      by_cases h3 : y < x
      · rw [if_pos h3]
      · omega
    · simp only [ins, if_neg h1, if_pos h2]
      by_cases h3 : x < y
      · rw [if_pos h3]
      · omega
    · simp only [ins, if_neg h1, if_neg h2]
      by_cases h3 : y < x
      · rw [if_pos h3, if_neg (by omega)]
      · by_cases h4 : x < y
        · rw [if_neg h3, if_pos h4]
        · have : x = y := by omega
          subst this; rfl
def insAll (acc l : List Int) : List Int := l.foldl (fun acc x => ins x acc) acc
theorem insAll_perm {a b : List Int} (h : a.Perm b) : ∀ acc, insAll acc a = insAll acc b := by
  induction h with
  | nil => intro acc; rfl
  | cons x _ ih => intro acc; exact ih _
  | swap x y l => intro acc; show insAll (ins x (ins y acc)) l = insAll (ins y (ins x acc)) l; rw [ins_comm]
  | trans _ _ h1 h2 => intro acc; rw [h1, h2]
theorem insAll_snoc (l : List Int) (k : Nat) (h : k < l.length) : insAll [] (l.take (k + 1)) = ins (l[k]?.getD 0) (insAll [] (l.take k)) := by
  rw [List.take_succ_eq_append_getElem h]
  unfold insAll
  rw [List.foldl_append]
  simp [h]
theorem insAll_len (l : List Int) : ∀ acc, (insAll acc l).length = acc.length + l.length := by
  induction l with
  | nil => intro acc; simp [insAll]
  | cons x l ih => intro acc; show (insAll (ins x acc) l).length = _; rw [ih, ins_len]; simp; omega
/-- Where the one is put: behind those that are below it. -/
theorem ins_at (x : Int) (s : List Int) : ∀ k, k ≤ s.length → (∀ i, i < k → s[i]?.getD 0 < x) → (k < s.length → ¬ s[k]?.getD 0 < x) → ins x s = s.take k ++ [x] ++ s.drop k := by
  induction s with
  | nil => intro k hk _ _; have : k = 0 := by simpa using hk
           subst this; rfl
  | cons y s ih =>
    intro k hk hlt hge
    cases k with
    | zero =>
      have := hge (by simp)
      simp at this
      unfold ins
      rw [if_neg (by omega)]; rfl
    | succ k =>
      have h0 := hlt 0 (by omega)
      simp at h0
      unfold ins
      rw [if_pos h0, ih k (by simpa using hk) (fun i hi => by have := hlt (i + 1) (by omega); simpa using this) (fun h => by have := hge (by simpa using h); simpa using this)]
      simp
end Go.Esc
namespace Go.Proofs.Ytgahkcbkpnehfaa.Ring
open Go.Esc

theorem cnt_split (a : Int) (row : List Int) (k : Nat) : List.count a (row.take k) + List.count a (row.drop k) = List.count a row := by
  rw [← List.count_append, List.take_append_drop]
theorem behind_cnt (size : Nat) (row : List Int) (x a : Int) : List.count a (behindO size row x) + List.count a (behindR size row x) = List.count a row + List.count a [x] := by
  unfold behindO behindR
  split
  · simp [List.count_append]
  · have := cnt_split a row (row.length / 2)
    rw [List.count_append]
    omega
theorem all_cnt (nx : Int) (row : List Int) (a : Int) : List.count a (allL nx row) = List.count a (if 0 < nx then [nx] else []) + List.count a row := by
  unfold allL; rw [List.count_append]
theorem put_perm (size : Nat) (nx : Int) (row : List Int) (x : Int) (q : Bool) (hx : 1 ≤ x) (hnx : 0 ≤ nx) : (putO size nx row x q ++ allL (putN nx x q) (putR size nx row x q)).Perm (allL nx row ++ [x]) := by
  rw [List.perm_iff_count]
  intro a
  rw [List.count_append, List.count_append, all_cnt, all_cnt]
  have hx1 : ¬ x < 1 := by omega
  have hx0 : 0 < x := by omega
  unfold putO putN putR
  simp only [hx1, if_false]
  cases q with
  | false =>
    have := behind_cnt size row x a
    simp only [Bool.false_eq_true, if_false]
    omega
  | true =>
    simp only [if_true]
    by_cases h0 : nx = 0
    · subst h0
      simp only [if_true, hx0, Int.lt_irrefl, if_false, List.count_nil]
      omega
    · have := behind_cnt size row nx a
      have hn0 : 0 < nx := by omega
      simp only [h0, hx0, hn0, if_true, if_false]
      omega
theorem put_low (size : Nat) (nx : Int) (row : List Int) (x : Int) (q : Bool) (hx : ¬ 1 ≤ x) : putO size nx row x q = [] ∧ putN nx x q = nx ∧ putR size nx row x q = row := by
  have hx1 : x < 1 := by omega
  unfold putO putN putR
  simp [hx1]
theorem get_all (nx : Int) (row : List Int) (h : getB nx row = true) : allL nx row = getV nx row :: allL 0 (getR nx row) := by
  unfold getB at h
  unfold getV getR allL
  by_cases h0 : 0 < nx
  · simp [h0]
  · simp only [h0, if_false] at h ⊢
    cases row with
    | nil => simp at h
    | cons x r => simp
theorem get_none (nx : Int) (row : List Int) (h : getB nx row = false) : allL nx row = allL 0 (getR nx row) := by
  unfold getB at h
  unfold getR allL
  by_cases h0 : 0 < nx
  · simp [h0] at h
  · simp only [h0, if_false] at h ⊢
    cases row with
    | nil => simp
    | cons x r => simp at h
theorem grab_perm (nx : Int) (row : List Int) : (grabO nx row ++ allL (grabN nx row) (grabR row)).Perm (allL nx row) := by
  rw [List.perm_iff_count]
  intro a
  rw [List.count_append, all_cnt, all_cnt]
  unfold grabO grabN grabR
  by_cases h : row = []
  · subst h
    rw [if_pos rfl, if_pos rfl, all_cnt]
    simp
  · rw [if_neg h, if_neg h]
    have := cnt_split a row (row.length - row.length / 2)
    omega
end Go.Proofs.Ytgahkcbkpnehfaa.Ring
