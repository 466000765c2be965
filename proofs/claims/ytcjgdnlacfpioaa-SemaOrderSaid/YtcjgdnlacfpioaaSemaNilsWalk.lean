/- Chapter 22: the example; what a nil one says; the walk of SemaNils. -/
import Derived.Test.YtcjgdnlacfpioaaSemaActs
import Derived.OpenShut
namespace Go.Proofs.Ytcjgdnlacfpioaa.Sema
open Go.RowKit Go.Esc Go.Proofs.Ytcjgdnlacfpioaa.Ref
set_option linter.unusedVariables false
set_option maxHeartbeats 1000000

theorem acq1 (b : Nat) (w : World) (v : Value) (h : Sm w b 0 v []) : Calls Try.prog 11 #[.pointer (some ⟨b, 0, none⟩), .int .i64 1] w fun e w' => e = .returned (.tuple #[.bool true, .int .i64 0]) ∧ Sp b 1 v [] w w' := by
  have := acquire_any b 0 v [] 1 w h (by simp)
  unfold AcqPost at this
  rwa [show acqB 0 1 = true from by decide, show acqF 1 = 0 from by decide, show acqO 0 1 = 1 from by decide, show acqL 0 [] 1 = [] from by decide] at this
theorem acq2 (b : Nat) (w : World) (v : Value) (h : Sm w b 1 v []) : Calls Try.prog 11 #[.pointer (some ⟨b, 0, none⟩), .int .i64 2] w fun e w' => e = .returned (.tuple #[.bool false, .int .i64 0]) ∧ Sp b 1 v [2] w w' := by
  have := acquire_any b 1 v [] 2 w h (by simp)
  unfold AcqPost at this
  rwa [show acqB 1 2 = false from by decide, show acqF 2 = 0 from by decide, show acqO 1 2 = 1 from by decide, show acqL 1 [] 2 = [2] from by decide] at this
theorem rel1 (b : Nat) (w : World) (v : Value) (h : Sm w b 1 v [2]) : Calls Try.prog 14 #[.pointer (some ⟨b, 0, none⟩), .int .i64 1] w fun e w' => e = .returned (.tuple #[.int .i64 2, .int .i64 0]) ∧ Sp b 2 v [] w w' := by
  have := release_any b 1 v [2] 1 w h (by simp)
  unfold RelPost at this
  rwa [show relV 1 [2] 1 = 2 from by decide, show relF 1 1 = 0 from by decide, show relO 1 [2] 1 = 2 from by decide, show relL 1 [2] 1 = [] from by decide] at this

theorem Sf.ge {b : Nat} {v : Value} {n : Nat} (hb : n ≤ b) (hv : ∀ j, v.ownBlock = some j → n ≤ j) : ∀ j, Sf b v j → n ≤ j := fun j hj => by
  rcases hj with rfl | hj
  · exact hb
  · exact hv j hj
theorem Grs.ge {b : Nat} {v v' : Value} {w : World} {n : Nat} (h : Grs b v v' w) (hv : ∀ j, v.ownBlock = some j → n ≤ j) (hw : n ≤ w.heap.size) : ∀ j, v'.ownBlock = some j → n ≤ j := fun j hj => (h j hj).elim (hv j) (fun x => Nat.le_trans hw x)

theorem alive_any (w : World) : Calls Try.prog 9 #[] w fun e w' => e = .returned (.bool true) ∧ Below w.heap.size w w' := by
  go_enter Try.func9, Try.ntmps9
  go_wp2_with fail
  refine (new_any w).mono ?_
  rintro e w1 ⟨rfl, hw1⟩
  have HS1 : Hid (Sm w1 w.heap.size 0 (.slice none 0 0) []) := by rw [← hw1]; exact Sm.new w
  have HB1 : Hid (Below w.heap.size w w1) := by rw [← hw1]; exact below_alloc (Below.refl _ _) _
  clear hw1
  go_wp2_with fail
  refine (acq1 _ _ _ HS1.out).mono ?_
  rintro e w2 ⟨rfl, v2, hS2, hO2, hG2⟩
  have hv2 := hG2.ge (n := w.heap.size) (by simp [Value.ownBlock]) HB1.out.size
  have HS2 := Lib.hid hS2
  have HV2 := Lib.hid hv2
  have HB2 := Lib.hid (below_only HB1.out hO2 (Sf.ge (Nat.le_refl _) (by simp [Value.ownBlock])))
  clear hS2 hO2 hG2 hv2
  go_wp2_with fail
  refine (acq2 _ _ _ HS2.out).mono ?_
  rintro e w3 ⟨rfl, v3, hS3, hO3, hG3⟩
  have hv3 := hG3.ge HV2.out HB2.out.size
  have HS3 := Lib.hid hS3
  have HV3 := Lib.hid hv3
  have HB3 := Lib.hid (below_only HB2.out hO3 (Sf.ge (Nat.le_refl _) HV2.out))
  clear hS3 hO3 hG3 hv3
  go_wp2_with fail
  refine (rel1 _ _ _ HS3.out).mono ?_
  rintro e w4 ⟨rfl, v4, hS4, hO4, hG4⟩
  have HS4 := Lib.hid hS4
  have HB4 := Lib.hid (below_only HB3.out hO4 (Sf.ge (Nat.le_refl _) HV3.out))
  clear hS4 hO4 hG4
  go_wp2_with fail
  refine (owner_any _ _ _ _ _ HS4.out).mono ?_
  rintro e w5 ⟨rfl, rfl⟩
  go_wp2_with fail
  go_ret
  exact ⟨rfl, HB4.out⟩

theorem acquire_nil (w : World) (g : Int) : Calls Try.prog 11 #[.pointer none, .int .i64 g] w fun e w' => e = .returned (.tuple #[.bool false, .int .i64 1]) ∧ w = w' := by
  go_enter Try.func11, Try.ntmps11
  go_wp2
  go_ret2
  exact ⟨rfl, rfl⟩
theorem release_nil (w : World) (g : Int) : Calls Try.prog 14 #[.pointer none, .int .i64 g] w fun e w' => e = .returned (.tuple #[.int .i64 0, .int .i64 1]) ∧ w = w' := by
  go_enter Try.func14, Try.ntmps14
  go_wp2
  go_ret2
  exact ⟨rfl, rfl⟩
theorem owner_nil (w : World) : Calls Try.prog 13 #[.pointer none] w fun e w' => e = .returned (.int .i64 0) ∧ w = w' := by
  go_enter Try.func13, Try.ntmps13
  go_wp2
  go_ret
  exact ⟨rfl, rfl⟩
theorem waits_nil (w : World) : Calls Try.prog 16 #[.pointer none] w fun e w' => e = .returned (.slice none 0 0) ∧ w = w' := by
  go_enter Try.func16, Try.ntmps16
  go_wp2
  go_ret
  exact ⟨rfl, rfl⟩
theorem ahead_nil (w : World) (g : Int) : Calls Try.prog 21 #[.pointer none, .int .i64 g] w fun e w' => e = .returned (.int .i64 (-1)) ∧ Below w.heap.size w w' := by
  go_enter Try.func21, Try.ntmps21
  go_wp2
  go_ret
  exact ⟨rfl, below_alloc (Below.refl _ _) _⟩
theorem drop_nil (w : World) (g : Int) : Calls Try.prog 19 #[.pointer none, .int .i64 g] w fun e w' => e = .returned (.bool false) ∧ Below w.heap.size w w' := by
  have HA := Lib.hid ahead_nil
  go_enter Try.func19, Try.ntmps19
  go_wp2_with fail
  refine (HA.out _ _).mono ?_
  rintro e w2 ⟨rfl, hb2⟩
  go_wp2_with fail
  go_ret
  exact ⟨rfl, hb2⟩
theorem nils (w : World) (g : Int) (_ : (Lit.int .i64 g).wf = true) : Calls Try.prog 5 #[.int .i64 g] w fun e w' => e = .returned (.bool true) ∧ Below w.heap.size w w' := by
  go_enter Try.func5, Try.ntmps5
  go_wp2_with fail
  refine (acquire_nil _ _).mono ?_
  rintro e w1 ⟨rfl, rfl⟩
  go_wp2_with fail
  refine (release_nil _ _).mono ?_
  rintro e w1 ⟨rfl, rfl⟩
  go_wp2_with fail
  refine (owner_nil _).mono ?_
  rintro e w1 ⟨rfl, rfl⟩
  go_wp2_with fail
  refine (drop_nil _ _).mono ?_
  rintro e w2 ⟨rfl, h2⟩
  go_wp2_with fail
  refine (waits_nil _).mono ?_
  rintro e w3 ⟨rfl, rfl⟩
  go_wp2_with fail
  refine (ahead_nil _ _).mono ?_
  rintro e w3 ⟨rfl, h3⟩
  go_wp2_with fail
  refine (alive_any _).mono ?_
  rintro e w4 ⟨rfl, h4⟩
  go_wp2_with fail
  go_ret
  exact ⟨rfl, below_below (below_below h2 h3) h4⟩
end Go.Proofs.Ytcjgdnlacfpioaa.Sema
