/- Chapter 16: the walk of GlobManies. -/
import Derived.Test.YtgahkcbkpnehfaaGlobMany
import Derived.OpenShut
namespace Go.Proofs.Ytgahkcbkpnehfaa.Glob
open Go.RowKit Go.Esc

set_option maxHeartbeats 1000000 in
theorem manies (w : World) (n : Int) (wn : (Lit.int .i64 n).wf = true) (p : Int) (_ : (Lit.int .i64 p).wf = true) (m : Int) (_ : (Lit.int .i64 m).wf = true) : Calls Try.prog 3 #[.int .i64 n, .int .i64 p, .int .i64 m] w fun e w' => e = .returned (.bool true) ∧ Below w.heap.size w w' := by
  have hn : n ≤ 9223372036854775807 := (bounds_i64 wn).2
  clear wn
  have HM := Lib.hid (many_any n p m w hn)
  have HR := Lib.hid (refmany_any n p m w hn)
  by_cases hb : manyBad n p m
  · unfold manyBad at hb
    generalize manyZ n p m = z at *
    have hbb := beq_self_eq_true z
    by_cases h1 : n < 1
    · clear hb
      go_enter Try.func3, Try.ntmps3
      go_wp2_with fail
      refine HM.out.mono ?_
      rintro e w1 ⟨rfl, rfl⟩
      go_wp2_with fail
      refine HR.out.mono ?_
      rintro e w1 ⟨rfl, rfl⟩
      go_wp2_with fail
      refine (alive_any _).mono ?_
      rintro e w1 ⟨rfl, hbel⟩
      go_wp2_with fail
      go_ret
      exact ⟨rfl, hbel⟩
    · by_cases h2 : p < 1
      · clear hb
        go_enter Try.func3, Try.ntmps3
        go_wp2_with fail
        refine HM.out.mono ?_
        rintro e w1 ⟨rfl, rfl⟩
        go_wp2_with fail
        refine HR.out.mono ?_
        rintro e w1 ⟨rfl, rfl⟩
        go_wp2_with fail
        refine (alive_any _).mono ?_
        rintro e w1 ⟨rfl, hbel⟩
        go_wp2_with fail
        go_ret
        exact ⟨rfl, hbel⟩
      · have h3 : m < 1 := by omega
        clear hb
        go_enter Try.func3, Try.ntmps3
        go_wp2_with fail
        refine HM.out.mono ?_
        rintro e w1 ⟨rfl, rfl⟩
        go_wp2_with fail
        refine HR.out.mono ?_
        rintro e w1 ⟨rfl, rfl⟩
        go_wp2_with fail
        refine (alive_any _).mono ?_
        rintro e w1 ⟨rfl, hbel⟩
        go_wp2_with fail
        go_ret
        exact ⟨rfl, hbel⟩
  · have hlo := many_lo hb
    unfold manyBad at hb
    generalize manyZ n p m = z at *
    have hbb := beq_self_eq_true z
    have h1 : 1 ≤ n := by omega
    have h2 : 1 ≤ p := by omega
    have h3 : 1 ≤ m := by omega
    obtain ⟨h4, h5, h6⟩ := hlo
    clear hb
    go_enter Try.func3, Try.ntmps3
    go_wp2_with fail
    refine HM.out.mono ?_
    rintro e w1 ⟨rfl, rfl⟩
    go_wp2_with fail
    refine HR.out.mono ?_
    rintro e w1 ⟨rfl, rfl⟩
    go_wp2_with fail
    refine (alive_any _).mono ?_
    rintro e w1 ⟨rfl, hbel⟩
    go_wp2_with fail
    go_ret
    exact ⟨rfl, hbel⟩

end Go.Proofs.Ytgahkcbkpnehfaa.Glob
