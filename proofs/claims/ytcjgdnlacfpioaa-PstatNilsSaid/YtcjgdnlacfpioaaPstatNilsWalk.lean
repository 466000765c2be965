/- Chapter 19: the walk of PstatNils. -/
import Derived.Test.YtcjgdnlacfpioaaPstatAct
namespace Go.Proofs.Ytcjgdnlacfpioaa.Pstat
open Go.RowKit Go.Esc
set_option linter.unusedVariables false
set_option maxHeartbeats 2000000 in
theorem nils (w : World) (kind p m : Int) : Calls Try.prog 8 #[.agg #[.int .i64 kind, .int .i64 p, .int .i64 m]] w fun e w' => e = .returned (.bool true) ∧ Below w.heap.size w w' := by
  have hb0 : Below w.heap.size w (w.alloc (.cells #[.int .i64 kind, .int .i64 p, .int .i64 m] 55)) := below_alloc (Below.refl _ _) _
  have HB0 := Lib.hid hb0
  clear hb0
  by_cases h0 : kind < 0
  · have d0 : decide (kind < 0) = true := by simpa using h0
    go_enter Try.func8, Try.ntmps8
    go_wp2_with fail
    refine (alive_any _).mono ?_
    rintro e w1 ⟨rfl, hB⟩
    have HB := Lib.hid (below_below HB0.out hB)
    clear hB
    go_wp2_with fail
    go_ret
    exact ⟨rfl, HB.out⟩
  have d0 : decide (kind < 0) = false := by simpa using h0
  by_cases h6 : 6 < kind
  · have d6 : decide (6 < kind) = true := by simpa using h6
    go_enter Try.func8, Try.ntmps8
    go_wp2_with fail
    refine (alive_any _).mono ?_
    rintro e w1 ⟨rfl, hB⟩
    have HB := Lib.hid (below_below HB0.out hB)
    clear hB
    go_wp2_with fail
    go_ret
    exact ⟨rfl, HB.out⟩
  have d6 : decide (6 < kind) = false := by simpa using h6
  have HX : Hid (Blk (w.alloc (.cells #[.int .i64 kind, .int .i64 p, .int .i64 m] 55)) w.heap.size #[.int .i64 kind, .int .i64 p, .int .i64 m] 55) := Blk.new w _ 55
  go_enter Try.func8, Try.ntmps8
  go_wp2_with fail
  refine (act_nil _ _ _ _).mono ?_
  rintro e w1 ⟨rfl, hB⟩
  have HB := Lib.hid (below_below HB0.out hB)
  have c1 : w1.cell? ⟨w.heap.size, 1, none⟩ = some (.int .i64 p) := (HX.out.below hB (by simp)).cell 1
  clear hB
  go_wp2_with fail
  refine (len_nil _).mono ?_
  rintro e w2 ⟨rfl, rfl⟩
  go_wp2_with fail
  refine (get_nil _ _).mono ?_
  rintro e w2 ⟨rfl, rfl⟩
  go_wp2_with fail
  refine (who_nil _ _).mono ?_
  rintro e w2 ⟨rfl, rfl⟩
  go_wp2_with fail
  refine (count_nil _ _).mono ?_
  rintro e w2 ⟨rfl, rfl⟩
  go_wp2_with fail
  refine (alive_any _).mono ?_
  rintro e w2 ⟨rfl, hB2⟩
  have HB2 := Lib.hid (below_below HB.out hB2)
  clear hB2
  go_wp2_with fail
  go_ret
  exact ⟨rfl, HB2.out⟩
end Go.Proofs.Ytcjgdnlacfpioaa.Pstat
