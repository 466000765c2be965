/- Chapter 19: what may be: the closures. -/
import Derived.Test.YtcjgdnlacfpioaaPstat
import Derived.RegionTactic
import Derived.BigRegion
namespace Go.Proofs.Ytcjgdnlacfpioaa.Pstat
open Go.RowKit Go.Esc
set_option linter.unusedVariables false

/-- What a closure answers: another one, and whether it may be. -/
def MayP (x : Pr) (b : Bool) (w : World) (e : Ending) (w' : World) : Prop := e = .returned (.tuple #[.agg #[.int .i64 x.1, .int .i64 x.2], .bool b]) ∧ Below w.heap.size w w'

set_option maxHeartbeats 1000000 in
theorem enter_may (s wh : Int) (w : World) : Calls Try.prog 54 #[.agg #[.int .i64 s, .int .i64 wh]] w (MayP (2, wh) (s == 1) w) := by
  go_enter Try.func54, Try.ntmps54
  go_wp2
  go_region
  all_goals
    go_wp2
    refine bodyPost_ret (v := .tuple #[.agg #[.int .i64 (2), .int .i64 (wh)], .bool (s == 1)]) ?_ rfl ⟨rfl, below_drewN (below_alloc (below_alloc (Below.refl _ _) _) _) 1⟩
    rw [results_cell_tmp rfl]
    simp only [asAddr]
    go_simp

set_option maxHeartbeats 1000000 in
theorem release_may (s wh : Int) (w : World) : Calls Try.prog 57 #[.agg #[.int .i64 s, .int .i64 wh]] w (MayP (0, -1) (s == 1) w) := by
  go_enter Try.func57, Try.ntmps57
  go_wp2
  go_region
  all_goals
    go_wp2
    refine bodyPost_ret (v := .tuple #[.agg #[.int .i64 (0), .int .i64 (-1)], .bool (s == 1)]) ?_ rfl ⟨rfl, below_drewN (below_alloc (below_alloc (Below.refl _ _) _) _) 1⟩
    rw [results_cell_tmp rfl]
    simp only [asAddr]
    go_simp

set_option maxHeartbeats 1000000 in
theorem take_may (b : Nat) (m s wh : Int) (w : World) (hb : Blk w b #[.int .i64 m] 3) : Calls Try.prog 52 #[.agg #[.int .i64 s, .int .i64 wh], .pointer (some ⟨b, 0, none⟩)] w (MayP (1, m) (s == 0) w) := by
  have c0 := hb.cell 0
  have hbl := hb.lt
  simp only [List.getElem?_toArray, List.getElem?_cons_zero] at c0
  clear hb
  go_enter Try.func52, Try.ntmps52
  go_wp2
  go_region
  all_goals
    go_wp2
    refine bodyPost_ret (v := .tuple #[.agg #[.int .i64 (1), .int .i64 (m)], .bool (s == 0)]) ?_ rfl ⟨rfl, below_drewN (below_alloc (below_alloc (Below.refl _ _) _) _) 1⟩
    rw [results_cell_tmp rfl]
    simp only [asAddr]
    go_simp

set_option maxHeartbeats 1000000 in
theorem leave_may (b c : Nat) (m s wh : Int) (w : World) (hb : Blk w b #[.int .i64 m] 3) (hc : Blk w c #[.int .i64 2, .int .i64 m] 74) : Calls Try.prog 56 #[.agg #[.int .i64 s, .int .i64 wh], .pointer (some ⟨b, 0, none⟩), .pointer (some ⟨c, 0, none⟩)] w (MayP (1, m) (decide (s = 2 ∧ wh = m)) w) := by
  have c0 := hb.cell 0
  have hbl := hb.lt
  have k0 := hc.cell 0
  have k1 := hc.cell 1
  have hcl := hc.lt
  simp only [List.getElem?_toArray, List.getElem?_cons_zero, List.getElem?_cons_succ] at c0 k0 k1
  clear hb hc
  by_cases h1 : s = 2
  · subst h1
    by_cases h2 : wh = m
    · subst h2
      rw [decide_eq_true ⟨rfl, rfl⟩]
      go_enter Try.func56, Try.ntmps56
      go_wp2
      go_region
      all_goals
        go_wp2
        refine bodyPost_ret (v := .tuple #[.agg #[.int .i64 (1), .int .i64 (wh)], .bool (true)]) ?_ rfl ⟨rfl, below_drewN (below_alloc (below_alloc (Below.refl _ _) _) _) 1⟩
        rw [results_cell_tmp rfl]
        simp only [asAddr]
        go_simp
    · have hd : (wh == m) = false := by rw [beq_eq_false_iff_ne]; exact h2
      rw [decide_eq_false (fun h => h2 h.2)]
      go_enter Try.func56, Try.ntmps56
      go_wp2
      go_region
      all_goals
        go_wp2
        refine bodyPost_ret (v := .tuple #[.agg #[.int .i64 (1), .int .i64 (m)], .bool (false)]) ?_ rfl ⟨rfl, below_drewN (below_alloc (below_alloc (Below.refl _ _) _) _) 1⟩
        rw [results_cell_tmp rfl]
        simp only [asAddr]
        go_simp
  · have hd : (s == 2) = false := by rw [beq_eq_false_iff_ne]; exact h1
    rw [decide_eq_false (fun h => h1 h.1)]
    go_enter Try.func56, Try.ntmps56
    go_wp2
    go_region
    all_goals
      go_wp2
      refine bodyPost_ret (v := .tuple #[.agg #[.int .i64 (1), .int .i64 (m)], .bool (false)]) ?_ rfl ⟨rfl, below_drewN (below_alloc (below_alloc (Below.refl _ _) _) _) 1⟩
      rw [results_cell_tmp rfl]
      simp only [asAddr]
      go_simp

/-- What Stop makes of one, and whether it may. -/
def stopX (s wh : Int) : Pr := if s = 2 then (3, -1) else if s = 0 ∨ s = 1 then (3, wh) else (s, wh)
def stopB (s : Int) : Bool := decide (s = 2 ∨ s = 0 ∨ s = 1)
set_option maxHeartbeats 1000000 in
theorem stop_may (s wh : Int) (w : World) : Calls Try.prog 55 #[.agg #[.int .i64 s, .int .i64 wh]] w (MayP (stopX s wh) (stopB s) w) := by
  unfold stopX stopB
  by_cases h2 : s = 2
  · rw [if_pos h2, decide_eq_true (.inl h2)]
    subst h2
    go_enter Try.func55, Try.ntmps55
    go_wp2
    refine bodyPost_ret (v := .tuple #[.agg #[.int .i64 (3), .int .i64 (-1)], .bool (true)]) ?_ rfl ⟨rfl, below_alloc (below_alloc (Below.refl _ _) _) _⟩
    rw [results_cell_tmp rfl]
    simp only [asAddr]
    go_simp
  · rw [if_neg h2]
    have d2 : (s == 2) = false := by rw [beq_eq_false_iff_ne]; exact h2
    by_cases h0 : s = 0
    · rw [if_pos (.inl h0), decide_eq_true (.inr (.inl h0))]
      subst h0
      clear h2 d2
      go_enter Try.func55, Try.ntmps55
      go_wp2
      refine bodyPost_ret (v := .tuple #[.agg #[.int .i64 (3), .int .i64 (wh)], .bool (true)]) ?_ rfl ⟨rfl, below_alloc (below_alloc (Below.refl _ _) _) _⟩
      rw [results_cell_tmp rfl]
      simp only [asAddr]
      go_simp
    · have d0 : (s == 0) = false := by rw [beq_eq_false_iff_ne]; exact h0
      by_cases h1 : s = 1
      · rw [if_pos (.inr h1), decide_eq_true (.inr (.inr h1))]
        subst h1
        clear h2 d2 h0 d0
        go_enter Try.func55, Try.ntmps55
        go_wp2
        refine bodyPost_ret (v := .tuple #[.agg #[.int .i64 (3), .int .i64 (wh)], .bool (true)]) ?_ rfl ⟨rfl, below_alloc (below_alloc (Below.refl _ _) _) _⟩
        rw [results_cell_tmp rfl]
        simp only [asAddr]
        go_simp
      · rw [if_neg (fun h => h.elim h0 h1), decide_eq_false (fun h => h.elim h2 (fun h => h.elim h0 h1))]
        have d1 : (s == 1) = false := by rw [beq_eq_false_iff_ne]; exact h1
        go_enter Try.func55, Try.ntmps55
        go_wp2
        refine bodyPost_ret (v := .tuple #[.agg #[.int .i64 (s), .int .i64 (wh)], .bool (false)]) ?_ rfl ⟨rfl, below_alloc (below_alloc (Below.refl _ _) _) _⟩
        rw [results_cell_tmp rfl]
        simp only [asAddr]
        go_simp

/-- What Go makes of one. -/
def goX (wh : Int) : Pr := if wh = -1 then (0, -1) else (1, wh)
set_option maxHeartbeats 1000000 in
theorem go_may (s wh : Int) (w : World) : Calls Try.prog 58 #[.agg #[.int .i64 s, .int .i64 wh]] w (MayP (goX wh) (s == 3) w) := by
  unfold goX
  by_cases h : wh = -1
  · rw [if_pos h]
    subst h
    go_enter Try.func58, Try.ntmps58
    go_wp2
    go_region
    all_goals
      go_wp2
      refine bodyPost_ret (v := .tuple #[.agg #[.int .i64 (0), .int .i64 (-1)], .bool (s == 3)]) ?_ rfl ⟨rfl, below_drewN (below_alloc (below_alloc (Below.refl _ _) _) _) 1⟩
      rw [results_cell_tmp rfl]
      simp only [asAddr]
      go_simp
  · rw [if_neg h]
    have d : (wh == -1) = false := by rw [beq_eq_false_iff_ne]; exact h
    go_enter Try.func58, Try.ntmps58
    go_wp2
    go_region
    all_goals
      go_wp2
      refine bodyPost_ret (v := .tuple #[.agg #[.int .i64 (1), .int .i64 (wh)], .bool (s == 3)]) ?_ rfl ⟨rfl, below_drewN (below_alloc (below_alloc (Below.refl _ _) _) _) 1⟩
      rw [results_cell_tmp rfl]
      simp only [asAddr]
      go_simp

end Go.Proofs.Ytcjgdnlacfpioaa.Pstat
