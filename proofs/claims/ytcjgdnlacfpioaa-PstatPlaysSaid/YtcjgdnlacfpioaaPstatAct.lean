/- Chapter 19: an act on a table; the chapter's example; a nil table. -/
import Derived.Test.YtcjgdnlacfpioaaPstatSize
namespace Go.Proofs.Ytcjgdnlacfpioaa.Pstat
open Go.RowKit Go.Esc
set_option linter.unusedVariables false
set_option linter.unusedSimpArgs false

def resAL (l : List Pr) (p : Int) : List Pr := if 1 ≤ p ∧ p ≤ 256 then (if resOk l then resL l p.toNat else l) else l
def resAF (l : List Pr) (p : Int) : Int := if 1 ≤ p ∧ p ≤ 256 then (if resOk l then 0 else 9) else 2
def actL (l : List Pr) (kind p m : Int) : List Pr :=
  if kind = 0 then byL l p m (fun s wh => (1, m)) (fun s wh => s == 0) else if kind = 1 then turnL l p (fun s wh => (2, wh)) (fun s wh => s == 1) else if kind = 2 then byL l p m (fun s wh => (1, m)) (leaveB m)
  else if kind = 3 then turnL l p (fun s wh => (0, -1)) (fun s wh => s == 1) else if kind = 4 then turnL l p stopX (fun s wh => stopB s) else if kind = 5 then turnL l p (fun s wh => goX wh) (fun s wh => s == 3)
  else resAL l p
def actF (l : List Pr) (kind p m : Int) : Int :=
  if kind = 0 then byF l p m (fun s wh => s == 0) else if kind = 1 then turnF l p (fun s wh => s == 1) else if kind = 2 then byF l p m (leaveB m)
  else if kind = 3 then turnF l p (fun s wh => s == 1) else if kind = 4 then turnF l p (fun s wh => stopB s) else if kind = 5 then turnF l p (fun s wh => s == 3)
  else resAF l p
theorem GoP.of {t : Nat} {tv : Value} {l' : List Pr} {f : Int} {w : World} {e : Ending} {w' : World} (h : PostT t tv l' f w e w') : GoP t tv l' f w e w' := by
  obtain ⟨he, tv', h1, h2, h3⟩ := h
  exact ⟨he, tv', h1, h2, h3⟩
theorem GoP.after {t : Nat} {tv : Value} {l' : List Pr} {w w1 w' : World} (hb : Below w.heap.size w w1) (h : ∃ tv', Go t tv w1 tv' l' w') : ∃ tv', Go t tv w tv' l' w' := by
  obtain ⟨tv', h⟩ := h
  exact ⟨tv', h.tb, ((Only.refl (Tf t tv) w).below hb).andThen h.only (fun j _ hj => hj), fun j hj => (h.gr j hj).imp id (fun x => Nat.le_trans hb.size x)⟩
theorem resize_all (t : Nat) (tv : Value) (l : List Pr) (p : Int) (w : World) (h : Tb w t tv l) (hl : l.length ≤ 256) : Calls Try.prog 48 #[.pointer (some ⟨t, 0, none⟩), .int .i64 p] w (GoP t tv (resAL l p) (resAF l p) w) := by
  unfold resAL resAF
  by_cases hp : 1 ≤ p ∧ p ≤ 256
  · rw [if_pos hp, if_pos hp]
    obtain ⟨n, rfl⟩ := Int.eq_ofNat_of_zero_le (show 0 ≤ p by omega)
    rw [Int.toNat_natCast]
    exact resize_any t tv l n w h (by omega) (by omega) hl
  · rw [if_neg hp, if_neg hp]
    refine (resize_bad p t w hp).mono ?_
    rintro e w' ⟨rfl, rfl⟩
    exact ⟨rfl, tv, Go.refl h⟩

set_option maxRecDepth 100000 in
set_option maxHeartbeats 4000000 in
theorem act_any (t : Nat) (tv : Value) (l : List Pr) (kind p m : Int) (w : World) (h : Tb w t tv l) (hl : l.length ≤ 256) : Calls Try.prog 27 #[.pointer (some ⟨t, 0, none⟩), .agg #[.int .i64 kind, .int .i64 p, .int .i64 m]] w (GoP t tv (actL l kind p m) (actF l kind p m) w) := by
  have HT := Lib.hid (h.below (below_alloc (Below.refl _ _) (.cells #[.int .i64 kind, .int .i64 p, .int .i64 m] 55)))
  have hbw : Below w.heap.size w (w.alloc (.cells #[.int .i64 kind, .int .i64 p, .int .i64 m] 55)) := below_alloc (Below.refl _ _) _
  have HBw := Lib.hid hbw
  unfold actL actF
  clear h hbw
  by_cases k0 : kind = 0
  · subst k0
    simp only [if_true, if_false, ite_self, Int.reduceEq]
    have HC := Lib.hid (take_any t tv l p m _ HT.out)
    go_enter Try.func27, Try.ntmps27
    go_wp2_with fail
    refine HC.out.mono ?_
    rintro e w1 hP
    obtain ⟨rfl, hP2⟩ := GoP.of hP
    have HP := Lib.hid (GoP.after HBw.out hP2)
    clear hP2
    try clear hP
    go_wp2_with fail
    go_ret
    exact ⟨rfl, HP.out⟩
  by_cases k1 : kind = 1
  · subst k1
    simp only [if_true, if_false, ite_self, Int.reduceEq]
    have HC := Lib.hid (enter_any t tv l p _ HT.out)
    go_enter Try.func27, Try.ntmps27
    go_wp2_with fail
    refine HC.out.mono ?_
    rintro e w1 hP
    obtain ⟨rfl, hP2⟩ := GoP.of hP
    have HP := Lib.hid (GoP.after HBw.out hP2)
    clear hP2
    try clear hP
    go_wp2_with fail
    go_ret
    exact ⟨rfl, HP.out⟩
  by_cases k2 : kind = 2
  · subst k2
    simp only [if_true, if_false, ite_self, Int.reduceEq]
    have HC := Lib.hid (leave_any t tv l p m _ HT.out)
    go_enter Try.func27, Try.ntmps27
    go_wp2_with fail
    refine HC.out.mono ?_
    rintro e w1 hP
    obtain ⟨rfl, hP2⟩ := GoP.of hP
    have HP := Lib.hid (GoP.after HBw.out hP2)
    clear hP2
    try clear hP
    go_wp2_with fail
    go_ret
    exact ⟨rfl, HP.out⟩
  by_cases k3 : kind = 3
  · subst k3
    simp only [if_true, if_false, ite_self, Int.reduceEq]
    have HC := Lib.hid (release_any t tv l p _ HT.out)
    go_enter Try.func27, Try.ntmps27
    go_wp2_with fail
    refine HC.out.mono ?_
    rintro e w1 hP
    obtain ⟨rfl, hP2⟩ := GoP.of hP
    have HP := Lib.hid (GoP.after HBw.out hP2)
    clear hP2
    try clear hP
    go_wp2_with fail
    go_ret
    exact ⟨rfl, HP.out⟩
  by_cases k4 : kind = 4
  · subst k4
    simp only [if_true, if_false, ite_self, Int.reduceEq]
    have HC := Lib.hid (stop_any t tv l p _ HT.out)
    go_enter Try.func27, Try.ntmps27
    go_wp2_with fail
    refine HC.out.mono ?_
    rintro e w1 hP
    obtain ⟨rfl, hP2⟩ := GoP.of hP
    have HP := Lib.hid (GoP.after HBw.out hP2)
    clear hP2
    try clear hP
    go_wp2_with fail
    go_ret
    exact ⟨rfl, HP.out⟩
  by_cases k5 : kind = 5
  · subst k5
    simp only [if_true, if_false, ite_self, Int.reduceEq]
    have HC := Lib.hid (go_any t tv l p _ HT.out)
    go_enter Try.func27, Try.ntmps27
    go_wp2_with fail
    refine HC.out.mono ?_
    rintro e w1 hP
    obtain ⟨rfl, hP2⟩ := GoP.of hP
    have HP := Lib.hid (GoP.after HBw.out hP2)
    clear hP2
    try clear hP
    go_wp2_with fail
    go_ret
    exact ⟨rfl, HP.out⟩
  · simp only [if_neg k0, if_neg k1, if_neg k2, if_neg k3, if_neg k4, if_neg k5]
    have HC := Lib.hid (resize_all t tv l p _ HT.out hl)
    have f0 : (kind == 0) = false := by rw [beq_eq_false_iff_ne]; exact k0
    have f1 : (kind == 1) = false := by rw [beq_eq_false_iff_ne]; exact k1
    have f2 : (kind == 2) = false := by rw [beq_eq_false_iff_ne]; exact k2
    have f3 : (kind == 3) = false := by rw [beq_eq_false_iff_ne]; exact k3
    have f4 : (kind == 4) = false := by rw [beq_eq_false_iff_ne]; exact k4
    have f5 : (kind == 5) = false := by rw [beq_eq_false_iff_ne]; exact k5
    go_enter Try.func27, Try.ntmps27
    go_wp2_with fail
    refine HC.out.mono ?_
    rintro e w1 hP
    obtain ⟨rfl, hP2⟩ := hP
    have HP := Lib.hid (GoP.after HBw.out hP2)
    clear hP2
    try clear hP
    go_wp2_with fail
    go_ret
    exact ⟨rfl, HP.out⟩

theorem turn_nil (p : Int) (fv : Value) (w : World) : Calls Try.prog 53 #[.pointer none, .int .i64 p, fv] w fun e w' => e = .returned (.int .i64 1) ∧ w = w' := by
  go_enter Try.func53, Try.ntmps53
  go_wp2
  go_ret
  exact ⟨rfl, rfl⟩
theorem by_nil (p m : Int) (fv : Value) (w : World) : Calls Try.prog 51 #[.pointer none, .int .i64 p, .int .i64 m, fv] w fun e w' => e = .returned (.int .i64 1) ∧ w = w' := by
  go_enter Try.func51, Try.ntmps51
  go_wp2_with fail
  refine (at_nil _ _).mono ?_
  rintro e w1 ⟨rfl, rfl⟩
  go_wp2_with fail
  refine (turn_nil _ _ _).mono ?_
  rintro e w1 ⟨rfl, rfl⟩
  go_wp2_with fail
  go_ret
  exact ⟨rfl, rfl⟩
theorem enter_nil (p : Int) (w : World) : Calls Try.prog 40 #[.pointer none, .int .i64 p] w fun e w' => e = .returned (.int .i64 1) ∧ Below w.heap.size w w' := by
  go_enter Try.func40, Try.ntmps40
  go_wp2_with fail
  refine (turn_nil _ _ _).mono ?_
  rintro e w1 ⟨rfl, rfl⟩
  go_wp2_with fail
  go_ret
  exact ⟨rfl, Below.refl _ _⟩
theorem release_nil (p : Int) (w : World) : Calls Try.prog 46 #[.pointer none, .int .i64 p] w fun e w' => e = .returned (.int .i64 1) ∧ Below w.heap.size w w' := by
  go_enter Try.func46, Try.ntmps46
  go_wp2_with fail
  refine (turn_nil _ _ _).mono ?_
  rintro e w1 ⟨rfl, rfl⟩
  go_wp2_with fail
  go_ret
  exact ⟨rfl, Below.refl _ _⟩
theorem stop_nil (p : Int) (w : World) : Calls Try.prog 41 #[.pointer none, .int .i64 p] w fun e w' => e = .returned (.int .i64 1) ∧ Below w.heap.size w w' := by
  go_enter Try.func41, Try.ntmps41
  go_wp2_with fail
  refine (turn_nil _ _ _).mono ?_
  rintro e w1 ⟨rfl, rfl⟩
  go_wp2_with fail
  go_ret
  exact ⟨rfl, Below.refl _ _⟩
theorem go_nil (p : Int) (w : World) : Calls Try.prog 47 #[.pointer none, .int .i64 p] w fun e w' => e = .returned (.int .i64 1) ∧ Below w.heap.size w w' := by
  go_enter Try.func47, Try.ntmps47
  go_wp2_with fail
  refine (turn_nil _ _ _).mono ?_
  rintro e w1 ⟨rfl, rfl⟩
  go_wp2_with fail
  go_ret
  exact ⟨rfl, Below.refl _ _⟩
theorem take_nil (p m : Int) (w : World) : Calls Try.prog 39 #[.pointer none, .int .i64 p, .int .i64 m] w fun e w' => e = .returned (.int .i64 1) ∧ Below w.heap.size w w' := by
  go_enter Try.func39, Try.ntmps39
  go_wp2_with fail
  refine (by_nil _ _ _ _).mono ?_
  rintro e w1 ⟨rfl, rfl⟩
  go_wp2_with fail
  go_ret
  exact ⟨rfl, below_alloc (Below.refl _ _) _⟩
theorem leave_nil (p m : Int) (w : World) : Calls Try.prog 45 #[.pointer none, .int .i64 p, .int .i64 m] w fun e w' => e = .returned (.int .i64 1) ∧ Below w.heap.size w w' := by
  go_enter Try.func45, Try.ntmps45
  go_wp2_with fail
  refine (by_nil _ _ _ _).mono ?_
  rintro e w1 ⟨rfl, rfl⟩
  go_wp2_with fail
  go_ret
  exact ⟨rfl, below_alloc (below_alloc (Below.refl _ _) _) _⟩
theorem resize_nil' (n : Int) (w : World) : Calls Try.prog 48 #[.pointer none, .int .i64 n] w fun e w' => e = .returned (.int .i64 1) ∧ Below w.heap.size w w' := (resize_nil n w).mono (by rintro e w' ⟨rfl, rfl⟩; exact ⟨rfl, Below.refl _ _⟩)
set_option maxRecDepth 100000 in
set_option maxHeartbeats 4000000 in
theorem act_nil (kind p m : Int) (w : World) : Calls Try.prog 27 #[.pointer none, .agg #[.int .i64 kind, .int .i64 p, .int .i64 m]] w fun e w' => e = .returned (.int .i64 1) ∧ Below w.heap.size w w' := by
  by_cases k0 : kind = 0
  · subst k0
    go_enter Try.func27, Try.ntmps27
    go_wp2_with fail
    refine (take_nil p m _).mono ?_
    rintro e w1 ⟨rfl, hB⟩
    have HB := Lib.hid (below_below (below_alloc (Below.refl _ _) _) hB)
    clear hB
    go_wp2_with fail
    go_ret
    exact ⟨rfl, HB.out⟩
  by_cases k1 : kind = 1
  · subst k1
    go_enter Try.func27, Try.ntmps27
    go_wp2_with fail
    refine (enter_nil p _).mono ?_
    rintro e w1 ⟨rfl, hB⟩
    have HB := Lib.hid (below_below (below_alloc (Below.refl _ _) _) hB)
    clear hB
    go_wp2_with fail
    go_ret
    exact ⟨rfl, HB.out⟩
  by_cases k2 : kind = 2
  · subst k2
    go_enter Try.func27, Try.ntmps27
    go_wp2_with fail
    refine (leave_nil p m _).mono ?_
    rintro e w1 ⟨rfl, hB⟩
    have HB := Lib.hid (below_below (below_alloc (Below.refl _ _) _) hB)
    clear hB
    go_wp2_with fail
    go_ret
    exact ⟨rfl, HB.out⟩
  by_cases k3 : kind = 3
  · subst k3
    go_enter Try.func27, Try.ntmps27
    go_wp2_with fail
    refine (release_nil p _).mono ?_
    rintro e w1 ⟨rfl, hB⟩
    have HB := Lib.hid (below_below (below_alloc (Below.refl _ _) _) hB)
    clear hB
    go_wp2_with fail
    go_ret
    exact ⟨rfl, HB.out⟩
  by_cases k4 : kind = 4
  · subst k4
    go_enter Try.func27, Try.ntmps27
    go_wp2_with fail
    refine (stop_nil p _).mono ?_
    rintro e w1 ⟨rfl, hB⟩
    have HB := Lib.hid (below_below (below_alloc (Below.refl _ _) _) hB)
    clear hB
    go_wp2_with fail
    go_ret
    exact ⟨rfl, HB.out⟩
  by_cases k5 : kind = 5
  · subst k5
    go_enter Try.func27, Try.ntmps27
    go_wp2_with fail
    refine (go_nil p _).mono ?_
    rintro e w1 ⟨rfl, hB⟩
    have HB := Lib.hid (below_below (below_alloc (Below.refl _ _) _) hB)
    clear hB
    go_wp2_with fail
    go_ret
    exact ⟨rfl, HB.out⟩
  · have f0 : (kind == 0) = false := by rw [beq_eq_false_iff_ne]; exact k0
    have f1 : (kind == 1) = false := by rw [beq_eq_false_iff_ne]; exact k1
    have f2 : (kind == 2) = false := by rw [beq_eq_false_iff_ne]; exact k2
    have f3 : (kind == 3) = false := by rw [beq_eq_false_iff_ne]; exact k3
    have f4 : (kind == 4) = false := by rw [beq_eq_false_iff_ne]; exact k4
    have f5 : (kind == 5) = false := by rw [beq_eq_false_iff_ne]; exact k5
    go_enter Try.func27, Try.ntmps27
    go_wp2_with fail
    refine (resize_nil' p _).mono ?_
    rintro e w1 ⟨rfl, hB⟩
    have HB := Lib.hid (below_below (below_alloc (Below.refl _ _) _) hB)
    clear hB
    go_wp2_with fail
    go_ret
    exact ⟨rfl, HB.out⟩

theorem alive1 : byL (List.replicate 2 (0, -1)) 0 3 (fun s wh => (1, 3)) (fun s wh => s == 0) = [(1, 3), (0, -1)] ∧ byF (List.replicate 2 (0, -1)) 0 3 (fun s wh => s == 0) = 0 := by decide
theorem alive2 : turnL [(1, 3), (0, -1)] 0 (fun s wh => (2, wh)) (fun s wh => s == 1) = [(2, 3), (0, -1)] ∧ turnF [(1, 3), (0, -1)] 0 (fun s wh => s == 1) = 0 := by decide
theorem alive3 : turnL [(2, 3), (0, -1)] 0 stopX (fun s wh => stopB s) = [(3, -1), (0, -1)] ∧ turnF [(2, 3), (0, -1)] 0 (fun s wh => stopB s) = 0 := by decide
theorem alive4 : getL [(3, -1), (0, -1)] 0 = 3 ∧ whoL [(3, -1), (0, -1)] 0 = -1 ∧ lenT [(3, -1), (0, -1)] = 2 := by decide
set_option maxHeartbeats 2000000 in
theorem alive_any (w : World) : Calls Try.prog 24 #[] w fun e w' => e = .returned (.bool true) ∧ Below w.heap.size w w' := by
  have HN : Hid (Calls Try.prog 25 #[.int .i64 2] w (NewT 2 w)) := new_good 2 w (by omega) (by omega)
  go_enter Try.func24, Try.ntmps24
  go_wp2_with fail
  refine HN.out.mono ?_
  rintro e w1 ⟨rfl, tv1, hT1, hB1⟩
  have hC1 := take_any _ _ _ 0 3 _ hT1
  rw [alive1.1, alive1.2] at hC1
  have HC1 := Lib.hid hC1
  have HB1 := Lib.hid hB1
  have HT1 := Lib.hid hT1
  clear hC1 hB1 hT1
  go_wp2_with fail
  refine HC1.out.mono ?_
  rintro e w2 ⟨rfl, tv2, hT2, hO2, hG2⟩
  have hB2 := below_only HB1.out hO2 (fun j hj => HT1.out.ge hj)
  have hC2 := enter_any _ _ _ 0 _ hT2
  rw [alive2.1, alive2.2] at hC2
  have HC2 := Lib.hid hC2
  have HB2 := Lib.hid hB2
  have HT2 := Lib.hid hT2
  clear hC2 hB2 hT2 hO2 hG2
  go_wp2_with fail
  refine HC2.out.mono ?_
  rintro e w3 ⟨rfl, tv3, hT3, hO3, hG3⟩
  have hB3 := below_only HB2.out hO3 (fun j hj => HT2.out.ge hj)
  have hC3 := stop_any _ _ _ 0 _ hT3
  rw [alive3.1, alive3.2] at hC3
  have HC3 := Lib.hid hC3
  have HB3 := Lib.hid hB3
  have HT3 := Lib.hid hT3
  clear hC3 hB3 hT3 hO3 hG3
  go_wp2_with fail
  refine HC3.out.mono ?_
  rintro e w4 ⟨rfl, tv4, hT4, hO4, hG4⟩
  have hB4 := below_only HB3.out hO4 (fun j hj => HT3.out.ge hj)
  have hg := get_any _ _ _ 0 _ hT4
  have hw := who_any _ _ _ 0 _ hT4
  have hn := len_any _ _ _ _ hT4 (by simp)
  rw [alive4.1] at hg
  rw [alive4.2.1] at hw
  rw [alive4.2.2] at hn
  have Hg := Lib.hid hg
  have Hw := Lib.hid hw
  have Hn := Lib.hid hn
  have HB4 := Lib.hid hB4
  clear hg hw hn hB4 hT4 hO4 hG4
  go_wp2_with fail
  refine Hg.out.mono ?_
  rintro e w5 ⟨rfl, rfl⟩
  go_wp2_with fail
  refine Hw.out.mono ?_
  rintro e w5 ⟨rfl, rfl⟩
  go_wp2_with fail
  refine Hn.out.mono ?_
  rintro e w5 ⟨rfl, hB5⟩
  have HB5 := Lib.hid (below_below HB4.out hB5)
  clear hB5
  go_wp2_with fail
  go_ret
  exact ⟨rfl, HB5.out⟩
end Go.Proofs.Ytcjgdnlacfpioaa.Pstat
