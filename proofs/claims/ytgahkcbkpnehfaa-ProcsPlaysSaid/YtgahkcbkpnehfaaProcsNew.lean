/- Chapter 23: the contract of New, and what nil ones say. -/
import Derived.Test.YtgahkcbkpnehfaaProcsGrowWalk
import Derived.Test.YtgahkcbkpnehfaaGlobAct
namespace Go.Proofs.Ytgahkcbkpnehfaa.Procs
open Go.RowKit Go.Esc
open Go.Proofs.Ytgahkcbkpnehfaa.Ring (Rw Sg allL)
open Go.Proofs.Ytgahkcbkpnehfaa.Glob (Gr)
set_option linter.unusedVariables false

theorem Prc.nil (w : World) (R : Nat → Rn) : Prc (w.alloc (.cells #[.slice none 0 0] 93)) w.heap.size (.slice none 0 0) 0 R :=
  ⟨Blk.new w _ 93, .inl (World.ownsRow_nil _ _ 34 1), fun i hi => by omega, by simp [Value.ownBlock], fun i hi => by omega, fun i hi => by omega, fun i j hi => by omega⟩

def NewP (m : Nat) (w : World) (e : Ending) (w' : World) : Prop :=
  e = .returned (.pointer (some ⟨w.heap.size, 0, none⟩)) ∧ ∃ rv R, Prc w' w.heap.size rv m R ∧ (∀ i, i < m → (R i).nx = 0 ∧ (R i).row = []) ∧ Below w.heap.size w w' ∧ ∀ j, Pf w.heap.size rv m R j → w.heap.size ≤ j

set_option maxHeartbeats 2000000 in
theorem new_good (m : Nat) (w : World) (h1 : 1 ≤ m) (h2 : m ≤ 256) : Calls Try.prog 43 #[.int .i64 m] w (NewP m w) := by
  have HI := Lib.hid (is_any m w)
  rw [decide_eq_true ⟨by omega, by omega⟩] at HI
  have HG := Lib.hid (grow_any w.heap.size _ 0 m (fun _ => ⟨0, 0, 0, []⟩) _ (Prc.nil w (fun _ => ⟨0, 0, 0, []⟩)) (by omega) h2)
  go_enter Try.func43, Try.ntmps43
  go_wp2_with fail
  refine HI.out.mono ?_
  rintro e w1 ⟨rfl, rfl⟩
  go_wp2_with fail
  refine HG.out.mono ?_
  rintro e w2 ⟨⟨v, rfl⟩, rv, R, hR⟩
  rw [Nat.max_eq_right (Nat.zero_le m)] at hR
  have HR := Lib.hid hR
  clear hR
  go_wp2_with fail
  go_ret
  have hpf : ∀ j, Pf w.heap.size (.slice none 0 0) 0 (fun _ => (⟨0, 0, 0, []⟩ : Rn)) j → w.heap.size ≤ j := by
    rintro j (rfl | hj | ⟨i, hi, _⟩)
    · exact Nat.le_refl _
    · simp [Value.ownBlock] at hj
    · omega
  refine ⟨rfl, rv, R, HR.out.prc, fun i hi => HR.out.new i (Nat.zero_le _) hi, ?_, fun j hj => ?_⟩
  · exact (below_alloc (Below.refl _ _) _).trans (HR.out.only.toBelow (by simp) hpf)
  · rcases HR.out.gr j hj with h | h
    · exact hpf j h
    · simp at h; omega
theorem new_bad (n : Int) (w : World) (h : ¬ (1 ≤ n ∧ n ≤ 256)) : Calls Try.prog 43 #[.int .i64 n] w fun e w' => e = .returned (.pointer none) ∧ w = w' := by
  have HI := Lib.hid (is_any n w)
  rw [decide_eq_false h] at HI
  clear h
  go_enter Try.func43, Try.ntmps43
  go_wp2_with fail
  refine HI.out.mono ?_
  rintro e w1 ⟨rfl, rfl⟩
  go_wp2_with fail
  go_ret
  exact ⟨rfl, rfl⟩

theorem len_nil (w : World) : Calls Try.prog 51 #[.pointer none] w fun e w' => e = .returned (.int .i64 0) ∧ w = w' := by
  go_enter Try.func51, Try.ntmps51
  go_wp2
  go_ret
  exact ⟨rfl, rfl⟩
theorem total_nil (w : World) : Calls Try.prog 49 #[.pointer none] w fun e w' => e = .returned (.int .i64 0) ∧ w = w' := by
  go_enter Try.func49, Try.ntmps49
  go_wp2
  go_ret
  exact ⟨rfl, rfl⟩
theorem queues_nil (w : World) : Calls Try.prog 45 #[.pointer none] w fun e w' => e = .returned (.slice none 0 0) ∧ w = w' := by
  go_enter Try.func45, Try.ntmps45
  go_wp2
  go_ret
  exact ⟨rfl, rfl⟩
theorem ring_nil (n : Int) (w : World) : Calls Try.prog 44 #[.pointer none, .int .i64 n] w fun e w' => e = .returned (.pointer none) ∧ w = w' := by
  by_cases h : n < 0
  · go_enter Try.func44, Try.ntmps44
    go_wp2
    go_ret
    exact ⟨rfl, rfl⟩
  · have hd : decide (n < 0) = false := by simpa using h
    have hd2 : decide (0 ≤ n) = true := by simp; omega
    go_enter Try.func44, Try.ntmps44
    go_wp2_with fail
    refine (len_nil w).mono ?_
    rintro e w1 ⟨rfl, rfl⟩
    go_wp2_with fail
    go_ret
    exact ⟨rfl, rfl⟩
theorem most_nil (w : World) : Calls Try.prog 50 #[.pointer none] w fun e w' => e = .returned (.tuple #[.int .i64 0, .bool false]) ∧ w = w' := by
  go_enter Try.func50, Try.ntmps50
  go_wp2_with fail
  refine (total_nil w).mono ?_
  rintro e w1 ⟨rfl, rfl⟩
  go_wp2_with fail
  go_ret2
  exact ⟨rfl, rfl⟩
theorem resize_nilp (n : Int) (q : Value) (hq : ∃ a, q = .pointer a) (w : World) : Calls Try.prog 46 #[.pointer none, .int .i64 n, q] w fun e w' => e = .returned (.int .i64 1) ∧ w = w' := by
  obtain ⟨a, rfl⟩ := hq
  go_enter Try.func46, Try.ntmps46
  go_wp2
  go_ret
  exact ⟨rfl, rfl⟩
theorem resize_nilq (n : Int) (b : Nat) (w : World) : Calls Try.prog 46 #[.pointer (some ⟨b, 0, none⟩), .int .i64 n, .pointer none] w fun e w' => e = .returned (.int .i64 1) ∧ w = w' := by
  go_enter Try.func46, Try.ntmps46
  go_wp2
  go_ret
  exact ⟨rfl, rfl⟩
theorem resize_bad (n : Int) (b q : Nat) (w : World) (h : ¬ (1 ≤ n ∧ n ≤ 256)) : Calls Try.prog 46 #[.pointer (some ⟨b, 0, none⟩), .int .i64 n, .pointer (some ⟨q, 0, none⟩)] w fun e w' => e = .returned (.int .i64 2) ∧ w = w' := by
  have HI := Lib.hid (is_any n w)
  rw [decide_eq_false h] at HI
  clear h
  go_enter Try.func46, Try.ntmps46
  go_wp2_with fail
  refine HI.out.mono ?_
  rintro e w1 ⟨rfl, rfl⟩
  go_wp2_with fail
  go_ret
  exact ⟨rfl, rfl⟩
end Go.Proofs.Ytgahkcbkpnehfaa.Procs
