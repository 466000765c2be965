/- Chapter 13: the example; what a nil ring says; the walk of RingNils. -/
import Derived.Test.YtgahkcbkpnehfaaRingPut
import Derived.OpenShut
namespace Go.Proofs.Ytgahkcbkpnehfaa.Ring
open Go.RowKit Go.Esc
set_option linter.unusedVariables false
set_option maxHeartbeats 1000000

theorem put1 (b g : Nat) (w : World) (h : Rw w b g 4 0 []) : Calls Try.prog 24 #[.pointer (some ⟨b, 0, none⟩), .int .i64 1, .bool false] w (OutPost b g 4 0 [1] [] w) := by
  have := put_any b g 4 0 [] 1 false w h
  rwa [show putN 0 1 false = 0 from by decide, show putR 4 0 [] 1 false = [1] from by decide, show putO 4 0 [] 1 false = [] from by decide] at this
theorem put2 (b g : Nat) (w : World) (h : Rw w b g 4 0 [1]) : Calls Try.prog 24 #[.pointer (some ⟨b, 0, none⟩), .int .i64 2, .bool true] w (OutPost b g 4 2 [1] [] w) := by
  have := put_any b g 4 0 [1] 2 true w h
  rwa [show putN 0 2 true = 2 from by decide, show putR 4 0 [1] 2 true = [1] from by decide, show putO 4 0 [1] 2 true = [] from by decide] at this
theorem put3 (b g : Nat) (w : World) (h : Rw w b g 4 2 [1]) : Calls Try.prog 24 #[.pointer (some ⟨b, 0, none⟩), .int .i64 3, .bool true] w (OutPost b g 4 3 [1, 2] [] w) := by
  have := put_any b g 4 2 [1] 3 true w h
  rwa [show putN 2 3 true = 3 from by decide, show putR 4 2 [1] 3 true = [1, 2] from by decide, show putO 4 2 [1] 3 true = [] from by decide] at this
theorem list3 (b g : Nat) (w : World) (h : Rw w b g 4 3 [1, 2]) : Calls Try.prog 28 #[.pointer (some ⟨b, 0, none⟩)] w (ListPost [3, 1, 2] w) := by
  have := list_any b g 4 3 [1, 2] w h
  rwa [show allL 3 [1, 2] = [3, 1, 2] from by decide] at this
theorem len3 (b g : Nat) (w : World) (h : Rw w b g 4 3 [1, 2]) : Calls Try.prog 38 #[.pointer (some ⟨b, 0, none⟩)] w (IntQ 3 w) := by
  have := len_w b g 4 3 [1, 2] w h
  rwa [show allL 3 [1, 2] = [3, 1, 2] from by decide] at this
theorem new4 (w : World) : Calls Try.prog 23 #[.int .i64 4] w (NewPost 4 w) := new_good 4 w (by decide)
theorem same3 (w : World) (base : Nat) (v : Value) (h : OwnI w base v [3, 1, 2]) : Calls Try.prog 20 #[v, .slice (some ⟨w.heap.size, 0, none⟩) 3 3] (w.alloc (.cells #[.int .i64 3, .int .i64 1, .int .i64 2] 3)) fun e w' => e = .returned (.bool true) ∧ ∃ n, w' = (w.alloc (.cells #[.int .i64 3, .int .i64 1, .int .i64 2] 3)).drewN n :=
  Ref.same_yes v _ [3, 1, 2] _ (Sl.ofOwn (h.alloc _)) (Slw.new w [3, 1, 2] (by simp [maxLen])).sl

theorem alive_any (w : World) : Calls Try.prog 22 #[] w fun e w' => e = .returned (.bool true) ∧ Below w.heap.size w w' := by
  go_enter Try.func22, Try.ntmps22
  go_wp2_with fail
  refine (new4 w).mono ?_
  rintro e w1 ⟨rfl, hR1, hB1⟩
  have HR1 := Lib.hid hR1
  have HB1 := Lib.hid hB1
  clear hR1 hB1
  go_wp2_with fail
  refine (put1 _ _ _ HR1.out).mono ?_
  rintro e w2 ⟨v2, rfl, _, hR2, hO2⟩
  have HR2 := Lib.hid hR2
  have HO2 := Lib.hid hO2
  clear hR2 hO2
  go_wp2_with fail
  refine (put2 _ _ _ HR2.out).mono ?_
  rintro e w3 ⟨v3, rfl, _, hR3, hO3⟩
  have HR3 := Lib.hid hR3
  have HO3 := Lib.hid hO3
  clear hR3 hO3
  go_wp2_with fail
  refine (put3 _ _ _ HR3.out).mono ?_
  rintro e w4 ⟨v4, rfl, _, hR4, hO4⟩
  have HR4 := Lib.hid hR4
  have HO4 := Lib.hid hO4
  clear hR4 hO4
  go_wp2_with fail
  refine (list3 _ _ _ HR4.out).mono ?_
  rintro e w5 ⟨v5, rfl, hown, hB5⟩
  have HR5 := Lib.hid (HR4.out.below hB5)
  have HB5 := Lib.hid hB5
  have HOwn := Lib.hid hown
  obtain ⟨av, cv, rfl⟩ := Glob.own_len hown
  clear hown hB5
  go_wp2_with fail
  refine (same3 _ _ _ HOwn.out).mono ?_
  rintro e w6 ⟨rfl, n6, rfl⟩
  have HR6 := Lib.hid ((HR5.out.below (below_alloc (Below.refl _ _) (.cells #[.int .i64 3, .int .i64 1, .int .i64 2] 3))).drewN)
  go_wp2_with fail
  refine (len3 _ _ _ (HR6.out _)).mono ?_
  rintro e w7 ⟨rfl, n7, rfl⟩
  go_wp2_with fail
  refine (next_w _ _ _ _ _ _ (HR6.out _)).mono ?_
  rintro e w8 ⟨rfl, rfl⟩
  go_wp2_with fail
  go_ret
  refine ⟨rfl, ?_⟩
  have hA := (((HO2.out.trans HO3.out).trans HO4.out).below HB5.out)
  have hB := below_only HB1.out hA (fun k hk => by rcases hk with rfl | rfl <;> omega)
  exact below_drewN (below_alloc hB _) _

theorem next_nil (w : World) : Calls Try.prog 39 #[.pointer none] w fun e w' => e = .returned (.int .i64 0) ∧ w = w' := by
  go_enter Try.func39, Try.ntmps39
  go_wp2
  go_ret
  exact ⟨rfl, rfl⟩
theorem size_nil (w : World) : Calls Try.prog 40 #[.pointer none] w fun e w' => e = .returned (.int .i64 0) ∧ w = w' := by
  go_enter Try.func40, Try.ntmps40
  go_wp2
  go_ret
  exact ⟨rfl, rfl⟩
theorem row_nil (w : World) : Calls Try.prog 58 #[.pointer none] w fun e w' => e = .returned (.int .i64 0) ∧ w = w' := by
  go_enter Try.func58, Try.ntmps58
  go_wp2
  go_ret
  exact ⟨rfl, rfl⟩
theorem len_nil (w : World) : Calls Try.prog 38 #[.pointer none] w fun e w' => e = .returned (.int .i64 0) ∧ w = w' := by
  have HN := Lib.hid next_nil
  have HR := Lib.hid row_nil
  go_enter Try.func38, Try.ntmps38
  go_wp2_with fail
  refine (HN.out _).mono ?_
  rintro e w1 ⟨rfl, rfl⟩
  go_wp2_with fail
  refine (HR.out _).mono ?_
  rintro e w1 ⟨rfl, rfl⟩
  go_wp2_with fail
  go_ret
  exact ⟨rfl, rfl⟩
theorem put_nil (w : World) (x : Int) (n : Bool) : Calls Try.prog 24 #[.pointer none, .int .i64 x, .bool n] w fun e w' => e = .returned (.slice none 0 0) ∧ w = w' := by
  go_enter Try.func24, Try.ntmps24
  go_wp2
  go_ret
  exact ⟨rfl, rfl⟩
theorem get_nil (w : World) : Calls Try.prog 25 #[.pointer none] w fun e w' => e = .returned (.tuple #[.int .i64 0, .bool false]) ∧ w = w' := by
  have HN := Lib.hid next_nil
  have HR := Lib.hid row_nil
  go_enter Try.func25, Try.ntmps25
  go_wp2_with fail
  refine (HN.out _).mono ?_
  rintro e w1 ⟨rfl, rfl⟩
  go_wp2_with fail
  refine (HR.out _).mono ?_
  rintro e w1 ⟨rfl, rfl⟩
  go_wp2_with fail
  go_ret2
  exact ⟨rfl, rfl⟩
theorem grab_nil (w : World) : Calls Try.prog 26 #[.pointer none] w fun e w' => e = .returned (.slice none 0 0) ∧ w = w' := by
  have HG := Lib.hid get_nil
  have HR := Lib.hid row_nil
  go_enter Try.func26, Try.ntmps26
  go_wp2_with fail
  refine (HR.out _).mono ?_
  rintro e w1 ⟨rfl, rfl⟩
  go_wp2_with fail
  refine (HG.out _).mono ?_
  rintro e w1 ⟨rfl, rfl⟩
  go_wp2_with fail
  go_ret
  exact ⟨rfl, rfl⟩
theorem list_nil (w : World) : Calls Try.prog 28 #[.pointer none] w fun e w' => e = .returned (.slice none 0 0) ∧ w = w' := by
  have HN := Lib.hid next_nil
  have HR := Lib.hid row_nil
  go_enter Try.func28, Try.ntmps28
  go_wp2_with fail
  refine (HN.out _).mono ?_
  rintro e w1 ⟨rfl, rfl⟩
  go_wp2_with fail
  refine (HR.out _).mono ?_
  rintro e w1 ⟨rfl, rfl⟩
  go_wp2_with fail
  go_loopw [2, 15] (fun v i wr => v = .slice none 0 0 ∧ i = .int .i64 0 ∧ wr = w) (fun _ _ _ => 0)
  case atStart => exact ⟨rfl, rfl, rfl⟩
  case round =>
    obtain ⟨rfl, rfl, rfl⟩ := hrel
    go_wp2
    go_ret
    exact ⟨rfl, rfl⟩
theorem drain_nil (w : World) : Calls Try.prog 27 #[.pointer none] w fun e w' => e = .returned (.slice none 0 0) ∧ w = w' := by
  have HL := Lib.hid list_nil
  go_enter Try.func27, Try.ntmps27
  go_wp2_with fail
  refine (HL.out _).mono ?_
  rintro e w1 ⟨rfl, rfl⟩
  go_wp2_with fail
  go_ret
  exact ⟨rfl, rfl⟩
theorem fill_nil (w : World) (a : Option Addr) (n c : Nat) : Calls Try.prog 41 #[.pointer none, .slice a n c] w fun e w' => e = .returned (.slice none 0 0) ∧ w = w' := by
  go_enter Try.func41, Try.ntmps41
  go_wp2
  go_step3
  go_wp2
  rw [Exit.noGoto_ret]
  go_ret
  exact ⟨rfl, rfl⟩
theorem nils (w : World) (g : Int) (_ : (Lit.int .i64 g).wf = true) : Calls Try.prog 9 #[.int .i64 g] w fun e w' => e = .returned (.bool true) ∧ Below w.heap.size w w' := by
  go_enter Try.func9, Try.ntmps9
  go_wp2_with fail
  refine (get_nil _).mono ?_
  rintro e w1 ⟨rfl, rfl⟩
  go_wp2_with fail
  refine (put_nil _ _ _).mono ?_
  rintro e w1 ⟨rfl, rfl⟩
  go_wp2_with fail
  refine (grab_nil _).mono ?_
  rintro e w1 ⟨rfl, rfl⟩
  go_wp2_with fail
  refine (fill_nil _ _ _ _).mono ?_
  rintro e w1 ⟨rfl, rfl⟩
  go_wp2_with fail
  refine (list_nil _).mono ?_
  rintro e w1 ⟨rfl, rfl⟩
  go_wp2_with fail
  refine (drain_nil _).mono ?_
  rintro e w1 ⟨rfl, rfl⟩
  go_wp2_with fail
  refine (len_nil _).mono ?_
  rintro e w1 ⟨rfl, rfl⟩
  go_wp2_with fail
  refine (next_nil _).mono ?_
  rintro e w1 ⟨rfl, rfl⟩
  go_wp2_with fail
  refine (size_nil _).mono ?_
  rintro e w1 ⟨rfl, rfl⟩
  go_wp2_with fail
  refine (alive_any _).mono ?_
  rintro e w5 ⟨rfl, h5⟩
  go_wp2_with fail
  go_ret
  exact ⟨rfl, below_below (below_alloc (Below.refl _ _) _) h5⟩
end Go.Proofs.Ytgahkcbkpnehfaa.Ring
