/- The contracts of package note (chapter 03) over this translation. -/
import Derived.Test.YtoeepfhkedfmiaaRows
import Derived.WalkKit
import Derived.WalkSpells
import Derived.WalkLawsBesides
import Derived.Below
import Derived.Outline
import Derived.BigGuard
import Derived.RegionTactic
import Derived.ChangeAlike
import Derived.Test.YtoeepfhkedfmiaaBase
namespace Go.Proofs.Ytoeepfhkedfmiaa.Note
open Go.RowKit Go.Esc

theorem new_any (w : World) : Calls Try.prog 22 #[] w fun e w' => e = .returned (.pointer (some ⟨w.heap.size, 0, none⟩)) ∧ w.alloc (.cells #[.int .i64 0, .int .i64 0] 69) = w' := by
  go_enter Try.func22, Try.ntmps22
  go_wp2
  go_ret
  exact ⟨rfl, rfl⟩

theorem alive_any (w : World) : Calls Try.prog 21 #[] w fun e w' => e = .returned (.bool true) ∧ Below w.heap.size w w' := by
  go_enter Try.func21, Try.ntmps21
  go_wp2
  go_ret
  exact ⟨rfl, (Below.refl _ _).alloc (Nat.le_refl _) _⟩



/-- What an act answers (x, fault), and how the note is then (state, who). -/
def actF (k who s q : Int) : Int × Int × Int × Int :=
  if k = 0 then (if s = 1 then (0, 7, s, q) else (0, 0, 0, q))
  else if k = 1 then
    (if who < 0 ∨ 1099511627776 < who then (0, 1, s, q) else if s = 2 then (1, 0, s, q) else if s = 1 ∧ q ≠ who then (0, 7, s, q) else (0, 0, 1, who))
  else if s = 2 then (-1, 9, s, q) else if s = 1 then (q, 0, 2, q) else (-1, 0, 2, q)

def ActPost (b : Nat) (r : Int × Int × Int × Int) (w : World) (e : Ending) (w' : World) : Prop :=
  e = .returned (.tuple #[.int .i64 r.1, .int .i64 r.2.1]) ∧ Blk w' b #[.int .i64 r.2.2.1, .int .i64 r.2.2.2] 69 ∧ w.grownBy w' (some b)

theorem act_fin {b : Nat} {k who s q x f s' q' : Int} {w w' : World} (hb : Blk w' b #[.int .i64 s', .int .i64 q'] 69) (hg : w.grownBy w' (some b)) (hx : actF k who s q = (x, f, s', q')) :
    ActPost b (actF k who s q) w (.returned (.tuple #[.int .i64 x, .int .i64 f])) w' := by
  rw [hx]; exact ⟨rfl, hb, hg⟩

set_option maxHeartbeats 400000 in
theorem act_any (b : Nat) (s q k who : Int) (w : World) (h : Blk w b #[.int .i64 s, .int .i64 q] 69) : Calls Try.prog 24 #[.pointer (some ⟨b, 0, none⟩), .agg #[.int .i64 k, .int .i64 who]] w (ActPost b (actF k who s q) w) := by
  have c0 := h.cell 0
  have c1 := h.cell 1
  have f0 := h.free 0
  have f1 := h.free 1
  simp at c0 c1
  have hlt := h.lt
  go_enter Try.func24, Try.ntmps24
  go_wp2
  all_goals go_ret2
  all_goals
    refine act_fin (by repeat (first | with_reducible exact h | with_reducible refine Blk.alloc ?_ _ | with_reducible apply Blk.set2_0 | with_reducible apply Blk.set2_1))
      (by repeat (first | with_reducible exact grown_refl _ _ | with_reducible refine grown_alloc' ?_ _ | with_reducible refine grown_set' ?_ _ _)) ?_
    clear c0 c1 f0 f1 h hlt
    simp_all [actF]
  all_goals omega


def doF (k who : Int) (st : Bool) (n : Int) : (Bool × Int) × Int × Int :=
  if k = 0 then (if 0 < n then ((st, n), 0, 7) else ((false, 0), 0, 0))
  else if k = 1 then
    (if who < 0 ∨ 1099511627776 < who then ((st, n), 0, 1) else if 0 < n ∧ n ≠ who + 1 then ((st, n), 0, 7) else if st = true then ((st, n), 1, 0) else ((false, who + 1), 0, 0))
  else if st = true then ((st, n), -1, 9) else ((true, 0), n - 1, 0)

def DoPost (r : (Bool × Int) × Int × Int) (w : World) (e : Ending) (w' : World) : Prop :=
  e = .returned (.tuple #[.agg #[.bool r.1.1, .int .i64 r.1.2], .int .i64 r.2.1, .int .i64 r.2.2]) ∧ Below w.heap.size w w'

theorem do_fin {k who : Int} {st : Bool} {n : Int} {s' : Bool} {n' x f : Int} {w w' : World} (hg : Below w.heap.size w w') (hx : doF k who st n = ((s', n'), x, f)) :
    DoPost (doF k who st n) w (.returned (.tuple #[.agg #[.bool s', .int .i64 n'], .int .i64 x, .int .i64 f])) w' := by
  rw [hx]; exact ⟨rfl, hg⟩

set_option maxHeartbeats 400000 in
theorem do_any (k who : Int) (st : Bool) (n : Int) (w : World) (hn0 : 0 ≤ n) (hn : n ≤ 1099511627777) : Calls Try.prog 23 #[.agg #[.bool st, .int .i64 n], .agg #[.int .i64 k, .int .i64 who]] w (DoPost (doF k who st n) w) := by
  go_enter Try.func23, Try.ntmps23
  go_wp2
  any_goals (go_region; go_wp2)
  all_goals (refine bodyPost_ret (v := .tuple #[.agg #[.bool _, .int .i64 _], .int .i64 _, .int .i64 _]) (by simp [results, Try.results23, go_sem]; exact ⟨⟨rfl, rfl⟩, rfl, rfl⟩) rfl ?_)
  all_goals
    refine do_fin (by repeat (first | with_reducible exact Below.refl _ _ | with_reducible refine below_alloc ?_ _ | with_reducible refine Below.drew ?_ | with_reducible refine below_set ?_ (by simp; omega) _ _)) ?_
    simp_all [doF]
  all_goals (repeat rw [if_neg (by omega)])

set_option maxHeartbeats 400000 in
theorem nils (w : World) (a0 : Int) (_ : (Lit.int .i64 a0).wf = true) : Calls Try.prog 6 #[.int .i64 a0] w fun e w' => e = .returned (.bool true) ∧ Below w.heap.size w w' := by
  go_enter Try.func6, Try.ntmps6
  go_wp2_with (first | (go_at_call 21; refine (alive_any _).mono ?_; rintro e w' ⟨rfl, hb⟩) | go_in)
  go_ret
  exact ⟨rfl, hb⟩
end Go.Proofs.Ytoeepfhkedfmiaa.Note
