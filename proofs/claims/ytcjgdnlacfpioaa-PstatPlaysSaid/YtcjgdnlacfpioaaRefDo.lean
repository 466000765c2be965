/- Chapter 19: the contract of the document's Do. -/
import Derived.Test.YtcjgdnlacfpioaaRefSize
namespace Go.Proofs.Ytcjgdnlacfpioaa.Pstat
open Go.RowKit Go.Esc
set_option linter.unusedVariables false
set_option linter.unusedSimpArgs false

theorem turn_yes {l : List Pr} {i : Nat} {X : Int → Int → Pr} {B : Int → Int → Bool} (hi : i < l.length) (hb : B (l[i]?.getD pz).1 (l[i]?.getD pz).2 = true) : turnL l (i : Int) X B = l.set i (X (l[i]?.getD pz).1 (l[i]?.getD pz).2) ∧ turnF l (i : Int) B = 0 := by
  have hp : 0 ≤ (i : Int) ∧ (i : Int) < (l.length : Int) := by omega
  unfold turnL turnF
  simp only [if_pos hp, Int.toNat_natCast, hb, if_true]
  exact ⟨trivial, trivial⟩
theorem turn_no {l : List Pr} {i : Nat} {X : Int → Int → Pr} {B : Int → Int → Bool} (hi : i < l.length) (hb : B (l[i]?.getD pz).1 (l[i]?.getD pz).2 = false) : turnL l (i : Int) X B = l ∧ turnF l (i : Int) B = 9 := by
  have hp : 0 ≤ (i : Int) ∧ (i : Int) < (l.length : Int) := by omega
  unfold turnL turnF
  simp only [if_pos hp, Int.toNat_natCast, hb, Bool.false_eq_true, if_false]
  exact ⟨trivial, trivial⟩
theorem turn_out {l : List Pr} {p : Int} {X : Int → Int → Pr} {B : Int → Int → Bool} (hp : ¬ (0 ≤ p ∧ p < l.length)) : turnL l p X B = l ∧ turnF l p B = 8 := by
  unfold turnL turnF
  rw [if_neg hp, if_neg hp]
  exact ⟨rfl, rfl⟩
theorem by_ok {l : List Pr} {p m : Int} {X : Int → Int → Pr} {B : Int → Int → Bool} (hm : ¬ ((0 ≤ p ∧ p < l.length) ∧ mBad m)) : byL l p m X B = turnL l p X B ∧ byF l p m B = turnF l p B := by
  unfold byL byF
  rw [if_neg hm, if_neg hm]
  exact ⟨rfl, rfl⟩
theorem by_rng {l : List Pr} {p m : Int} {X : Int → Int → Pr} {B : Int → Int → Bool} (hm : (0 ≤ p ∧ p < l.length) ∧ mBad m) : byL l p m X B = l ∧ byF l p m B = 2 := by
  unfold byL byF
  rw [if_pos hm, if_pos hm]
  exact ⟨rfl, rfl⟩
theorem act_out' {l : List Pr} {kind p m : Int} (hk : 0 ≤ kind ∧ kind ≤ 5) (hp : ¬ (0 ≤ p ∧ p < l.length)) : actL l kind p m = l ∧ actF l kind p m = 8 := by
  unfold actL actF
  by_cases k0 : kind = 0
  · obtain ⟨e1, e2⟩ := by_ok (l := l) (p := p) (m := m) (X := fun s wh => (1, m)) (B := fun s wh => s == 0) (fun h => hp h.1)
    rw [if_pos k0, if_pos k0, e1, e2]; exact turn_out hp
  by_cases k1 : kind = 1
  · rw [if_neg k0, if_neg k0, if_pos k1, if_pos k1]; exact turn_out hp
  by_cases k2 : kind = 2
  · obtain ⟨e1, e2⟩ := by_ok (l := l) (p := p) (m := m) (X := fun s wh => (1, m)) (B := leaveB m) (fun h => hp h.1)
    rw [if_neg k0, if_neg k0, if_neg k1, if_neg k1, if_pos k2, if_pos k2, e1, e2]; exact turn_out hp
  by_cases k3 : kind = 3
  · rw [if_neg k0, if_neg k0, if_neg k1, if_neg k1, if_neg k2, if_neg k2, if_pos k3, if_pos k3]; exact turn_out hp
  by_cases k4 : kind = 4
  · rw [if_neg k0, if_neg k0, if_neg k1, if_neg k1, if_neg k2, if_neg k2, if_neg k3, if_neg k3, if_pos k4, if_pos k4]; exact turn_out hp
  have k5 : kind = 5 := by omega
  rw [if_neg k0, if_neg k0, if_neg k1, if_neg k1, if_neg k2, if_neg k2, if_neg k3, if_neg k3, if_neg k4, if_neg k4, if_pos k5, if_pos k5]; exact turn_out hp
theorem act_rng {l : List Pr} {kind p m : Int} (hk : kind = 0 ∨ kind = 2) (hp : 0 ≤ p ∧ p < l.length) (hm : mBad m) : actL l kind p m = l ∧ actF l kind p m = 2 := by
  unfold actL actF
  rcases hk with rfl | rfl
  · simp only [if_true]; exact by_rng ⟨hp, hm⟩
  · simp only [Int.reduceEq, if_true, if_false]; exact by_rng ⟨hp, hm⟩

set_option maxRecDepth 100000 in
set_option maxHeartbeats 4000000 in
theorem do_6 (base : Nat) (v : Value) (l : List Pr) (p m : Int) (w : World) (h : Rp w base v l) (hl : l.length ≤ 256) (hl0 : 0 < l.length) :
    Calls Try.prog 26 #[v, .agg #[.int .i64 6, .int .i64 p, .int .i64 m]] w (DoP base v l (actL l 6 p m) (actF l 6 p m) w) := by
  obtain ⟨g, cap, rfl, _, hg2, hc⟩ := h.wide hl0
  have HR := Lib.hid h
  have HC : Hid (Calls Try.prog 43 #[.slice (some ⟨g, 0, none⟩) l.length cap, .int .i64 p] (w.alloc (.cells #[.int .i64 6, .int .i64 p, .int .i64 m] 55)) (DoP base (.slice (some ⟨g, 0, none⟩) l.length cap) l (actL l 6 p m) (actF l 6 p m) (w.alloc (.cells #[.int .i64 6, .int .i64 p, .int .i64 m] 55)))) := by
    show Calls _ _ _ _ _
    unfold actL actF resAL resAF
    simp only [Int.reduceEq, if_false]
    by_cases hp : 1 ≤ p ∧ p ≤ 256
    · rw [if_pos hp, if_pos hp]
      obtain ⟨q, rfl⟩ := Int.eq_ofNat_of_zero_le (show 0 ≤ p by omega)
      rw [Int.toNat_natCast]
      exact rresize_any base _ l q _ (h.below (below_alloc (Below.refl _ _) _)) hl hl0 (by omega) (by omega)
    · rw [if_neg hp, if_neg hp]
      exact rresize_bad base _ l p _ ⟨_, _, _, rfl⟩ hp
  clear h
  generalize actL l 6 p m = l' at *
  generalize actF l 6 p m = f' at *
  obtain ⟨n, HN⟩ : ∃ n, Hid (l.length = n) := ⟨_, rfl⟩
  rw [HN.out] at HC ⊢
  go_enter Try.func26, Try.ntmps26
  go_wp2_with fail
  refine HC.out.mono ?_
  rintro e w1 ⟨v', rfl, hB1, hv⟩
  have HB1 := Lib.hid (below_below (below_alloc (Below.refl _ _) _) hB1)
  have HV := Lib.hid hv
  clear hB1 hv
  go_wp2_with fail
  go_ret2
  refine ⟨v', rfl, HB1.out, HV.out.imp id (fun h => h.mono (by simp))⟩

set_option maxRecDepth 100000 in
set_option maxHeartbeats 4000000 in
theorem do_out (base : Nat) (v : Value) (l : List Pr) (kind p m : Int) (w : World) (h : Rp w base v l) (hl : l.length ≤ 256) (hl0 : 0 < l.length) (hk : 0 ≤ kind ∧ kind ≤ 5) (hp : ¬ (0 ≤ p ∧ p < l.length)) :
    Calls Try.prog 26 #[v, .agg #[.int .i64 kind, .int .i64 p, .int .i64 m]] w (DoP base v l (actL l kind p m) (actF l kind p m) w) := by
  obtain ⟨g, cap, rfl, _, hg2, hc⟩ := h.wide hl0
  have HR := Lib.hid h
  obtain ⟨hL, hF⟩ := act_out' (m := m) hk hp
  rw [hL, hF]
  have k6 : (kind == 6) = false := by rw [beq_eq_false_iff_ne]; omega
  clear hL hF hk h
  by_cases h0 : p < 0
  · have d0 : decide (p < 0) = true := by simpa using h0
    generalize l.length = n at *
    clear hp
    go_enter Try.func26, Try.ntmps26
    go_wp2
    go_ret2
    exact ⟨_, rfl, below_alloc (Below.refl _ _) _, .inl ⟨rfl, rfl⟩⟩
  · have d0 : decide (p < 0) = false := by simpa using h0
    have d1 : decide ((l.length : Int) ≤ p) = true := by simp; omega
    generalize l.length = n at *
    clear hp h0
    go_enter Try.func26, Try.ntmps26
    go_wp2
    go_ret2
    exact ⟨_, rfl, below_alloc (Below.refl _ _) _, .inl ⟨rfl, rfl⟩⟩

set_option maxRecDepth 100000 in
set_option maxHeartbeats 4000000 in
theorem do_rng0 (base : Nat) (v : Value) (l : List Pr) (m : Int) (i : Nat) (w : World) (h : Rp w base v l) (hl : l.length ≤ 256) (hl0 : 0 < l.length) (hi : i < l.length) (hm : mBad m) :
    Calls Try.prog 26 #[v, .agg #[.int .i64 0, .int .i64 i, .int .i64 m]] w (DoP base v l (actL l 0 i m) (actF l 0 i m) w) := by
  obtain ⟨g, cap, rfl, _, hg2, hc⟩ := h.wide hl0
  have HR := Lib.hid h
  have hii : i < l.length := hi
  have d0 : decide ((i : Int) < 0) = false := by simp
  have d1 : decide ((l.length : Int) ≤ (i : Int)) = false := by simp; omega
  have d1' : decide (l.length ≤ i) = false := by simp; omega
  have hin : (i : Int) < (l.length : Int) := by omega
  obtain ⟨hL, hF⟩ := act_rng (l := l) (kind := 0) (p := i) (by decide) ⟨by omega, by omega⟩ hm
  rw [hL, hF]
  clear hL hF h hii
  unfold mBad at hm
  generalize l.length = n at *
  by_cases h0 : m < 0
  · have e0 : decide (m < 0) = true := by simpa using h0
    clear hm
    go_enter Try.func26, Try.ntmps26
    go_wp2
    go_ret2
    exact ⟨_, rfl, below_alloc (Below.refl _ _) _, .inl ⟨rfl, rfl⟩⟩
  · have e0 : decide (m < 0) = false := by simpa using h0
    have e1 : decide (64 ≤ m) = true := by simp; omega
    clear hm h0
    go_enter Try.func26, Try.ntmps26
    go_wp2
    go_ret2
    exact ⟨_, rfl, below_alloc (Below.refl _ _) _, .inl ⟨rfl, rfl⟩⟩

set_option maxRecDepth 100000 in
set_option maxHeartbeats 4000000 in
theorem do_rng2 (base : Nat) (v : Value) (l : List Pr) (m : Int) (i : Nat) (w : World) (h : Rp w base v l) (hl : l.length ≤ 256) (hl0 : 0 < l.length) (hi : i < l.length) (hm : mBad m) :
    Calls Try.prog 26 #[v, .agg #[.int .i64 2, .int .i64 i, .int .i64 m]] w (DoP base v l (actL l 2 i m) (actF l 2 i m) w) := by
  obtain ⟨g, cap, rfl, _, hg2, hc⟩ := h.wide hl0
  have HR := Lib.hid h
  have hii : i < l.length := hi
  have d0 : decide ((i : Int) < 0) = false := by simp
  have d1 : decide ((l.length : Int) ≤ (i : Int)) = false := by simp; omega
  have d1' : decide (l.length ≤ i) = false := by simp; omega
  have hin : (i : Int) < (l.length : Int) := by omega
  obtain ⟨hL, hF⟩ := act_rng (l := l) (kind := 2) (p := i) (by decide) ⟨by omega, by omega⟩ hm
  rw [hL, hF]
  clear hL hF h hii
  unfold mBad at hm
  generalize l.length = n at *
  by_cases h0 : m < 0
  · have e0 : decide (m < 0) = true := by simpa using h0
    clear hm
    go_enter Try.func26, Try.ntmps26
    go_wp2
    go_ret2
    exact ⟨_, rfl, below_alloc (Below.refl _ _) _, .inl ⟨rfl, rfl⟩⟩
  · have e0 : decide (m < 0) = false := by simpa using h0
    have e1 : decide (64 ≤ m) = true := by simp; omega
    clear hm h0
    go_enter Try.func26, Try.ntmps26
    go_wp2
    go_ret2
    exact ⟨_, rfl, below_alloc (Below.refl _ _) _, .inl ⟨rfl, rfl⟩⟩

set_option maxRecDepth 100000 in
set_option maxHeartbeats 4000000 in
theorem do_0 (base : Nat) (v : Value) (l : List Pr) (m : Int) (i : Nat) (w : World) (h : Rp w base v l) (hl : l.length ≤ 256) (hl0 : 0 < l.length) (hi : i < l.length) (hm : ¬ mBad m) :
    Calls Try.prog 26 #[v, .agg #[.int .i64 0, .int .i64 i, .int .i64 m]] w (DoP base v l (actL l 0 i m) (actF l 0 i m) w) := by
  obtain ⟨g, cap, rfl, _, hg2, hc⟩ := h.wide hl0
  have HR := Lib.hid h
  have hii : i < l.length := hi
  have d0 : decide ((i : Int) < 0) = false := by simp
  have d1 : decide ((l.length : Int) ≤ (i : Int)) = false := by simp; omega
  have d1' : decide (l.length ≤ i) = false := by simp; omega
  have hin : (i : Int) < (l.length : Int) := by omega
  obtain ⟨c0, c1⟩ := h.at i hi
  have HL0 : Hid (actL l 0 i m = turnL l i (fun s wh => (1, m)) (fun s wh => s == 0) ∧ actF l 0 i m = turnF l i (fun s wh => s == 0)) := by
    show _ ∧ _
    unfold actL actF
    simp only [Int.reduceEq, if_true, if_false]
    exact by_ok (fun h => hm h.2)
  have HY : Hid ((fun s wh => s == 0) (l[i]?.getD pz).1 (l[i]?.getD pz).2 = true → actL l 0 i m = l.set i ((fun s wh => (1, m)) (l[i]?.getD pz).1 (l[i]?.getD pz).2) ∧ actF l 0 i m = 0) := fun hb => by rw [HL0.out.1, HL0.out.2]; exact turn_yes hi hb
  have HNo : Hid ((fun s wh => s == 0) (l[i]?.getD pz).1 (l[i]?.getD pz).2 = false → actL l 0 i m = l ∧ actF l 0 i m = 9) := fun hb => by rw [HL0.out.1, HL0.out.2]; exact turn_no hi hb
  have HI := Lib.hid hi
  clear h HL0 hii hi
  obtain ⟨n, HN⟩ : ∃ n, Hid (l.length = n) := ⟨_, rfl⟩
  rw [HN.out] at HR d1 d1' hin hl hl0 hc ⊢
  generalize (l[i]?.getD pz).1 = s at *
  generalize (l[i]?.getD pz).2 = wh at *
  have e0 : decide (m < 0) = false := by unfold mBad at hm; simp; omega
  have e1 : decide (64 ≤ m) = false := by unfold mBad at hm; simp; omega
  clear hm
  have hcs : (s = 0) ∨ (¬ s = 0) := by omega
  rcases hcs with hc0 | hc1
  · obtain ⟨hL, hF⟩ := HY.out (by simp [hc0])
    rw [hL, hF]
    clear hL hF HY HNo
    subst hc0
    have HW := Lib.hid (with_any base _ l i (1, m) ((w.alloc (.cells #[.int .i64 0, .int .i64 i, .int .i64 m] 55)).alloc (.cells #[.int .i64 0, .int .i64 wh] 51)) (HR.out.below (below_alloc (below_alloc (Below.refl _ _) _) _)) HI.out (by rw [HN.out]; omega))
    go_enter Try.func26, Try.ntmps26
    go_wp2_with fail
    refine HW.out.mono ?_
    rintro e w1 ⟨v', rfl, hR1, hB1⟩
    have HB1 := Lib.hid (below_below (below_alloc (below_alloc (Below.refl _ _) _) _) hB1)
    have HR1 := Lib.hid (hR1.mono (show w.heap.size ≤ _ by simp; omega))
    clear hR1 hB1
    go_wp2_with fail
    go_ret2
    exact ⟨v', rfl, HB1.out, .inr HR1.out⟩
  · obtain ⟨hL, hF⟩ := HNo.out (by simp only [beq_eq_false_iff_ne]; omega)
    rw [hL, hF]
    clear hL hF HY HNo
    have fa0 : (s == 0) = false := by rw [beq_eq_false_iff_ne]; omega
    go_enter Try.func26, Try.ntmps26
    go_wp2
    go_ret2
    exact ⟨_, rfl, below_alloc (below_alloc (Below.refl _ _) _) _, .inl ⟨rfl, rfl⟩⟩
set_option maxRecDepth 100000 in
set_option maxHeartbeats 4000000 in
theorem do_1 (base : Nat) (v : Value) (l : List Pr) (m : Int) (i : Nat) (w : World) (h : Rp w base v l) (hl : l.length ≤ 256) (hl0 : 0 < l.length) (hi : i < l.length) :
    Calls Try.prog 26 #[v, .agg #[.int .i64 1, .int .i64 i, .int .i64 m]] w (DoP base v l (actL l 1 i m) (actF l 1 i m) w) := by
  obtain ⟨g, cap, rfl, _, hg2, hc⟩ := h.wide hl0
  have HR := Lib.hid h
  have hii : i < l.length := hi
  have d0 : decide ((i : Int) < 0) = false := by simp
  have d1 : decide ((l.length : Int) ≤ (i : Int)) = false := by simp; omega
  have d1' : decide (l.length ≤ i) = false := by simp; omega
  have hin : (i : Int) < (l.length : Int) := by omega
  obtain ⟨c0, c1⟩ := h.at i hi
  have HL0 : Hid (actL l 1 i m = turnL l i (fun s wh => (2, wh)) (fun s wh => s == 1) ∧ actF l 1 i m = turnF l i (fun s wh => s == 1)) := by
    show _ ∧ _
    unfold actL actF
    simp only [Int.reduceEq, if_true, if_false]
    exact ⟨by first | rfl | trivial, by first | rfl | trivial⟩
  have HY : Hid ((fun s wh => s == 1) (l[i]?.getD pz).1 (l[i]?.getD pz).2 = true → actL l 1 i m = l.set i ((fun s wh => (2, wh)) (l[i]?.getD pz).1 (l[i]?.getD pz).2) ∧ actF l 1 i m = 0) := fun hb => by rw [HL0.out.1, HL0.out.2]; exact turn_yes hi hb
  have HNo : Hid ((fun s wh => s == 1) (l[i]?.getD pz).1 (l[i]?.getD pz).2 = false → actL l 1 i m = l ∧ actF l 1 i m = 9) := fun hb => by rw [HL0.out.1, HL0.out.2]; exact turn_no hi hb
  have HI := Lib.hid hi
  clear h HL0 hii hi
  obtain ⟨n, HN⟩ : ∃ n, Hid (l.length = n) := ⟨_, rfl⟩
  rw [HN.out] at HR d1 d1' hin hl hl0 hc ⊢
  generalize (l[i]?.getD pz).1 = s at *
  generalize (l[i]?.getD pz).2 = wh at *
  have hcs : (s = 1) ∨ (¬ s = 1) := by omega
  rcases hcs with hc0 | hc1
  · obtain ⟨hL, hF⟩ := HY.out (by simp [hc0])
    rw [hL, hF]
    clear hL hF HY HNo
    subst hc0
    have HW := Lib.hid (with_any base _ l i (2, wh) ((w.alloc (.cells #[.int .i64 1, .int .i64 i, .int .i64 m] 55)).alloc (.cells #[.int .i64 1, .int .i64 wh] 51)) (HR.out.below (below_alloc (below_alloc (Below.refl _ _) _) _)) HI.out (by rw [HN.out]; omega))
    go_enter Try.func26, Try.ntmps26
    go_wp2_with fail
    refine HW.out.mono ?_
    rintro e w1 ⟨v', rfl, hR1, hB1⟩
    have HB1 := Lib.hid (below_below (below_alloc (below_alloc (Below.refl _ _) _) _) hB1)
    have HR1 := Lib.hid (hR1.mono (show w.heap.size ≤ _ by simp; omega))
    clear hR1 hB1
    go_wp2_with fail
    go_ret2
    exact ⟨v', rfl, HB1.out, .inr HR1.out⟩
  · obtain ⟨hL, hF⟩ := HNo.out (by simp only [beq_eq_false_iff_ne]; omega)
    rw [hL, hF]
    clear hL hF HY HNo
    have fa0 : (s == 1) = false := by rw [beq_eq_false_iff_ne]; omega
    go_enter Try.func26, Try.ntmps26
    go_wp2
    go_ret2
    exact ⟨_, rfl, below_alloc (below_alloc (Below.refl _ _) _) _, .inl ⟨rfl, rfl⟩⟩
set_option maxRecDepth 100000 in
set_option maxHeartbeats 4000000 in
theorem do_2 (base : Nat) (v : Value) (l : List Pr) (m : Int) (i : Nat) (w : World) (h : Rp w base v l) (hl : l.length ≤ 256) (hl0 : 0 < l.length) (hi : i < l.length) (hm : ¬ mBad m) :
    Calls Try.prog 26 #[v, .agg #[.int .i64 2, .int .i64 i, .int .i64 m]] w (DoP base v l (actL l 2 i m) (actF l 2 i m) w) := by
  obtain ⟨g, cap, rfl, _, hg2, hc⟩ := h.wide hl0
  have HR := Lib.hid h
  have hii : i < l.length := hi
  have d0 : decide ((i : Int) < 0) = false := by simp
  have d1 : decide ((l.length : Int) ≤ (i : Int)) = false := by simp; omega
  have d1' : decide (l.length ≤ i) = false := by simp; omega
  have hin : (i : Int) < (l.length : Int) := by omega
  obtain ⟨c0, c1⟩ := h.at i hi
  have HL0 : Hid (actL l 2 i m = turnL l i (fun s wh => (1, m)) (leaveB m) ∧ actF l 2 i m = turnF l i (leaveB m)) := by
    show _ ∧ _
    unfold actL actF
    simp only [Int.reduceEq, if_true, if_false]
    exact by_ok (fun h => hm h.2)
  have HY : Hid ((leaveB m) (l[i]?.getD pz).1 (l[i]?.getD pz).2 = true → actL l 2 i m = l.set i ((fun s wh => (1, m)) (l[i]?.getD pz).1 (l[i]?.getD pz).2) ∧ actF l 2 i m = 0) := fun hb => by rw [HL0.out.1, HL0.out.2]; exact turn_yes hi hb
  have HNo : Hid ((leaveB m) (l[i]?.getD pz).1 (l[i]?.getD pz).2 = false → actL l 2 i m = l ∧ actF l 2 i m = 9) := fun hb => by rw [HL0.out.1, HL0.out.2]; exact turn_no hi hb
  have HI := Lib.hid hi
  clear h HL0 hii hi
  obtain ⟨n, HN⟩ : ∃ n, Hid (l.length = n) := ⟨_, rfl⟩
  rw [HN.out] at HR d1 d1' hin hl hl0 hc ⊢
  generalize (l[i]?.getD pz).1 = s at *
  generalize (l[i]?.getD pz).2 = wh at *
  have e0 : decide (m < 0) = false := by unfold mBad at hm; simp; omega
  have e1 : decide (64 ≤ m) = false := by unfold mBad at hm; simp; omega
  clear hm
  have hcs : (s = 2 ∧ wh = m) ∨ (s = 2 ∧ ¬ wh = m) ∨ (¬ s = 2) := by omega
  rcases hcs with hc0 | hc1 | hc2
  · obtain ⟨hL, hF⟩ := HY.out (by simp [leaveB, hc0])
    rw [hL, hF]
    clear hL hF HY HNo
    obtain ⟨rfl, rfl⟩ := hc0
    have HW := Lib.hid (with_any base _ l i (1, wh) ((w.alloc (.cells #[.int .i64 2, .int .i64 i, .int .i64 wh] 55)).alloc (.cells #[.int .i64 2, .int .i64 wh] 51)) (HR.out.below (below_alloc (below_alloc (Below.refl _ _) _) _)) HI.out (by rw [HN.out]; omega))
    go_enter Try.func26, Try.ntmps26
    go_wp2_with fail
    refine HW.out.mono ?_
    rintro e w1 ⟨v', rfl, hR1, hB1⟩
    have HB1 := Lib.hid (below_below (below_alloc (below_alloc (Below.refl _ _) _) _) hB1)
    have HR1 := Lib.hid (hR1.mono (show w.heap.size ≤ _ by simp; omega))
    clear hR1 hB1
    go_wp2_with fail
    go_ret2
    exact ⟨v', rfl, HB1.out, .inr HR1.out⟩
  · obtain ⟨hL, hF⟩ := HNo.out (by simp only [leaveB, decide_eq_false_iff_not]; omega)
    rw [hL, hF]
    clear hL hF HY HNo
    have fa0 : (wh == m) = false := by rw [beq_eq_false_iff_ne]; omega
    obtain ⟨rfl, hc1⟩ := hc1
    go_enter Try.func26, Try.ntmps26
    go_wp2
    go_ret2
    exact ⟨_, rfl, below_alloc (below_alloc (Below.refl _ _) _) _, .inl ⟨rfl, rfl⟩⟩
  · obtain ⟨hL, hF⟩ := HNo.out (by simp only [leaveB, decide_eq_false_iff_not]; omega)
    rw [hL, hF]
    clear hL hF HY HNo
    have fa0 : (s == 2) = false := by rw [beq_eq_false_iff_ne]; omega
    go_enter Try.func26, Try.ntmps26
    go_wp2
    go_ret2
    exact ⟨_, rfl, below_alloc (below_alloc (Below.refl _ _) _) _, .inl ⟨rfl, rfl⟩⟩
set_option maxRecDepth 100000 in
set_option maxHeartbeats 4000000 in
theorem do_3 (base : Nat) (v : Value) (l : List Pr) (m : Int) (i : Nat) (w : World) (h : Rp w base v l) (hl : l.length ≤ 256) (hl0 : 0 < l.length) (hi : i < l.length) :
    Calls Try.prog 26 #[v, .agg #[.int .i64 3, .int .i64 i, .int .i64 m]] w (DoP base v l (actL l 3 i m) (actF l 3 i m) w) := by
  obtain ⟨g, cap, rfl, _, hg2, hc⟩ := h.wide hl0
  have HR := Lib.hid h
  have hii : i < l.length := hi
  have d0 : decide ((i : Int) < 0) = false := by simp
  have d1 : decide ((l.length : Int) ≤ (i : Int)) = false := by simp; omega
  have d1' : decide (l.length ≤ i) = false := by simp; omega
  have hin : (i : Int) < (l.length : Int) := by omega
  obtain ⟨c0, c1⟩ := h.at i hi
  have HL0 : Hid (actL l 3 i m = turnL l i (fun s wh => (0, -1)) (fun s wh => s == 1) ∧ actF l 3 i m = turnF l i (fun s wh => s == 1)) := by
    show _ ∧ _
    unfold actL actF
    simp only [Int.reduceEq, if_true, if_false]
    exact ⟨by first | rfl | trivial, by first | rfl | trivial⟩
  have HY : Hid ((fun s wh => s == 1) (l[i]?.getD pz).1 (l[i]?.getD pz).2 = true → actL l 3 i m = l.set i ((fun s wh => (0, -1)) (l[i]?.getD pz).1 (l[i]?.getD pz).2) ∧ actF l 3 i m = 0) := fun hb => by rw [HL0.out.1, HL0.out.2]; exact turn_yes hi hb
  have HNo : Hid ((fun s wh => s == 1) (l[i]?.getD pz).1 (l[i]?.getD pz).2 = false → actL l 3 i m = l ∧ actF l 3 i m = 9) := fun hb => by rw [HL0.out.1, HL0.out.2]; exact turn_no hi hb
  have HI := Lib.hid hi
  clear h HL0 hii hi
  obtain ⟨n, HN⟩ : ∃ n, Hid (l.length = n) := ⟨_, rfl⟩
  rw [HN.out] at HR d1 d1' hin hl hl0 hc ⊢
  generalize (l[i]?.getD pz).1 = s at *
  generalize (l[i]?.getD pz).2 = wh at *
  have hcs : (s = 1) ∨ (¬ s = 1) := by omega
  rcases hcs with hc0 | hc1
  · obtain ⟨hL, hF⟩ := HY.out (by simp [hc0])
    rw [hL, hF]
    clear hL hF HY HNo
    subst hc0
    have HW := Lib.hid (with_any base _ l i (0, -1) ((w.alloc (.cells #[.int .i64 3, .int .i64 i, .int .i64 m] 55)).alloc (.cells #[.int .i64 1, .int .i64 wh] 51)) (HR.out.below (below_alloc (below_alloc (Below.refl _ _) _) _)) HI.out (by rw [HN.out]; omega))
    go_enter Try.func26, Try.ntmps26
    go_wp2_with fail
    refine HW.out.mono ?_
    rintro e w1 ⟨v', rfl, hR1, hB1⟩
    have HB1 := Lib.hid (below_below (below_alloc (below_alloc (Below.refl _ _) _) _) hB1)
    have HR1 := Lib.hid (hR1.mono (show w.heap.size ≤ _ by simp; omega))
    clear hR1 hB1
    go_wp2_with fail
    go_ret2
    exact ⟨v', rfl, HB1.out, .inr HR1.out⟩
  · obtain ⟨hL, hF⟩ := HNo.out (by simp only [beq_eq_false_iff_ne]; omega)
    rw [hL, hF]
    clear hL hF HY HNo
    have fa0 : (s == 1) = false := by rw [beq_eq_false_iff_ne]; omega
    go_enter Try.func26, Try.ntmps26
    go_wp2
    go_ret2
    exact ⟨_, rfl, below_alloc (below_alloc (Below.refl _ _) _) _, .inl ⟨rfl, rfl⟩⟩
set_option maxRecDepth 100000 in
set_option maxHeartbeats 4000000 in
theorem do_4 (base : Nat) (v : Value) (l : List Pr) (m : Int) (i : Nat) (w : World) (h : Rp w base v l) (hl : l.length ≤ 256) (hl0 : 0 < l.length) (hi : i < l.length) :
    Calls Try.prog 26 #[v, .agg #[.int .i64 4, .int .i64 i, .int .i64 m]] w (DoP base v l (actL l 4 i m) (actF l 4 i m) w) := by
  obtain ⟨g, cap, rfl, _, hg2, hc⟩ := h.wide hl0
  have HR := Lib.hid h
  have hii : i < l.length := hi
  have d0 : decide ((i : Int) < 0) = false := by simp
  have d1 : decide ((l.length : Int) ≤ (i : Int)) = false := by simp; omega
  have d1' : decide (l.length ≤ i) = false := by simp; omega
  have hin : (i : Int) < (l.length : Int) := by omega
  obtain ⟨c0, c1⟩ := h.at i hi
  have HL0 : Hid (actL l 4 i m = turnL l i stopX (fun s wh => stopB s) ∧ actF l 4 i m = turnF l i (fun s wh => stopB s)) := by
    show _ ∧ _
    unfold actL actF
    simp only [Int.reduceEq, if_true, if_false]
    exact ⟨by first | rfl | trivial, by first | rfl | trivial⟩
  have HY : Hid ((fun s wh => stopB s) (l[i]?.getD pz).1 (l[i]?.getD pz).2 = true → actL l 4 i m = l.set i (stopX (l[i]?.getD pz).1 (l[i]?.getD pz).2) ∧ actF l 4 i m = 0) := fun hb => by rw [HL0.out.1, HL0.out.2]; exact turn_yes hi hb
  have HNo : Hid ((fun s wh => stopB s) (l[i]?.getD pz).1 (l[i]?.getD pz).2 = false → actL l 4 i m = l ∧ actF l 4 i m = 9) := fun hb => by rw [HL0.out.1, HL0.out.2]; exact turn_no hi hb
  have HI := Lib.hid hi
  clear h HL0 hii hi
  obtain ⟨n, HN⟩ : ∃ n, Hid (l.length = n) := ⟨_, rfl⟩
  rw [HN.out] at HR d1 d1' hin hl hl0 hc ⊢
  generalize (l[i]?.getD pz).1 = s at *
  generalize (l[i]?.getD pz).2 = wh at *
  have hcs : (s = 2) ∨ (s = 0) ∨ (s = 1) ∨ (¬ s = 2 ∧ ¬ s = 0 ∧ ¬ s = 1) := by omega
  rcases hcs with hc0 | hc1 | hc2 | hc3
  · obtain ⟨hL, hF⟩ := HY.out (by simp [stopB, hc0])
    rw [hL, hF]
    clear hL hF HY HNo
    rw [show stopX s wh = (3, -1) from by simp [stopX, hc0]]
    subst hc0
    have HW := Lib.hid (with_any base _ l i (3, -1) ((w.alloc (.cells #[.int .i64 4, .int .i64 i, .int .i64 m] 55)).alloc (.cells #[.int .i64 2, .int .i64 wh] 51)) (HR.out.below (below_alloc (below_alloc (Below.refl _ _) _) _)) HI.out (by rw [HN.out]; omega))
    go_enter Try.func26, Try.ntmps26
    go_wp2_with fail
    refine HW.out.mono ?_
    rintro e w1 ⟨v', rfl, hR1, hB1⟩
    have HB1 := Lib.hid (below_below (below_alloc (below_alloc (Below.refl _ _) _) _) hB1)
    have HR1 := Lib.hid (hR1.mono (show w.heap.size ≤ _ by simp; omega))
    clear hR1 hB1
    go_wp2_with fail
    go_ret2
    exact ⟨v', rfl, HB1.out, .inr HR1.out⟩
  · obtain ⟨hL, hF⟩ := HY.out (by simp [stopB, hc1])
    rw [hL, hF]
    clear hL hF HY HNo
    rw [show stopX s wh = (3, wh) from by simp [stopX, hc1]]
    subst hc1
    have HW := Lib.hid (with_any base _ l i (3, wh) ((w.alloc (.cells #[.int .i64 4, .int .i64 i, .int .i64 m] 55)).alloc (.cells #[.int .i64 0, .int .i64 wh] 51)) (HR.out.below (below_alloc (below_alloc (Below.refl _ _) _) _)) HI.out (by rw [HN.out]; omega))
    go_enter Try.func26, Try.ntmps26
    go_wp2_with fail
    refine HW.out.mono ?_
    rintro e w1 ⟨v', rfl, hR1, hB1⟩
    have HB1 := Lib.hid (below_below (below_alloc (below_alloc (Below.refl _ _) _) _) hB1)
    have HR1 := Lib.hid (hR1.mono (show w.heap.size ≤ _ by simp; omega))
    clear hR1 hB1
    go_wp2_with fail
    go_ret2
    exact ⟨v', rfl, HB1.out, .inr HR1.out⟩
  · obtain ⟨hL, hF⟩ := HY.out (by simp [stopB, hc2])
    rw [hL, hF]
    clear hL hF HY HNo
    rw [show stopX s wh = (3, wh) from by simp [stopX, hc2]]
    subst hc2
    have HW := Lib.hid (with_any base _ l i (3, wh) ((w.alloc (.cells #[.int .i64 4, .int .i64 i, .int .i64 m] 55)).alloc (.cells #[.int .i64 1, .int .i64 wh] 51)) (HR.out.below (below_alloc (below_alloc (Below.refl _ _) _) _)) HI.out (by rw [HN.out]; omega))
    go_enter Try.func26, Try.ntmps26
    go_wp2_with fail
    refine HW.out.mono ?_
    rintro e w1 ⟨v', rfl, hR1, hB1⟩
    have HB1 := Lib.hid (below_below (below_alloc (below_alloc (Below.refl _ _) _) _) hB1)
    have HR1 := Lib.hid (hR1.mono (show w.heap.size ≤ _ by simp; omega))
    clear hR1 hB1
    go_wp2_with fail
    go_ret2
    exact ⟨v', rfl, HB1.out, .inr HR1.out⟩
  · obtain ⟨hL, hF⟩ := HNo.out (by simp only [stopB, decide_eq_false_iff_not]; omega)
    rw [hL, hF]
    clear hL hF HY HNo
    have fa0 : (s == 2) = false := by rw [beq_eq_false_iff_ne]; omega
    have fa1 : (s == 0) = false := by rw [beq_eq_false_iff_ne]; omega
    have fa2 : (s == 1) = false := by rw [beq_eq_false_iff_ne]; omega
    go_enter Try.func26, Try.ntmps26
    go_wp2
    go_ret2
    exact ⟨_, rfl, below_alloc (below_alloc (Below.refl _ _) _) _, .inl ⟨rfl, rfl⟩⟩
set_option maxRecDepth 100000 in
set_option maxHeartbeats 4000000 in
theorem do_5 (base : Nat) (v : Value) (l : List Pr) (m : Int) (i : Nat) (w : World) (h : Rp w base v l) (hl : l.length ≤ 256) (hl0 : 0 < l.length) (hi : i < l.length) (hwh : -1 ≤ (l[i]?.getD pz).2) :
    Calls Try.prog 26 #[v, .agg #[.int .i64 5, .int .i64 i, .int .i64 m]] w (DoP base v l (actL l 5 i m) (actF l 5 i m) w) := by
  obtain ⟨g, cap, rfl, _, hg2, hc⟩ := h.wide hl0
  have HR := Lib.hid h
  have hii : i < l.length := hi
  have d0 : decide ((i : Int) < 0) = false := by simp
  have d1 : decide ((l.length : Int) ≤ (i : Int)) = false := by simp; omega
  have d1' : decide (l.length ≤ i) = false := by simp; omega
  have hin : (i : Int) < (l.length : Int) := by omega
  obtain ⟨c0, c1⟩ := h.at i hi
  have HL0 : Hid (actL l 5 i m = turnL l i (fun s wh => goX wh) (fun s wh => s == 3) ∧ actF l 5 i m = turnF l i (fun s wh => s == 3)) := by
    show _ ∧ _
    unfold actL actF
    simp only [Int.reduceEq, if_true, if_false]
    exact ⟨by first | rfl | trivial, by first | rfl | trivial⟩
  have HY : Hid ((fun s wh => s == 3) (l[i]?.getD pz).1 (l[i]?.getD pz).2 = true → actL l 5 i m = l.set i ((fun s wh => goX wh) (l[i]?.getD pz).1 (l[i]?.getD pz).2) ∧ actF l 5 i m = 0) := fun hb => by rw [HL0.out.1, HL0.out.2]; exact turn_yes hi hb
  have HNo : Hid ((fun s wh => s == 3) (l[i]?.getD pz).1 (l[i]?.getD pz).2 = false → actL l 5 i m = l ∧ actF l 5 i m = 9) := fun hb => by rw [HL0.out.1, HL0.out.2]; exact turn_no hi hb
  have HI := Lib.hid hi
  clear h HL0 hii hi
  obtain ⟨n, HN⟩ : ∃ n, Hid (l.length = n) := ⟨_, rfl⟩
  rw [HN.out] at HR d1 d1' hin hl hl0 hc ⊢
  generalize (l[i]?.getD pz).1 = s at *
  generalize (l[i]?.getD pz).2 = wh at *
  have hcs : (s = 3 ∧ wh = -1) ∨ (s = 3 ∧ ¬ wh = -1) ∨ (¬ s = 3) := by omega
  rcases hcs with hc0 | hc1 | hc2
  · obtain ⟨hL, hF⟩ := HY.out (by simp [hc0])
    rw [hL, hF]
    clear hL hF HY HNo
    show Calls _ _ _ _ (DoP _ _ _ (l.set i (goX wh)) _ _)
    rw [show goX wh = (0, -1) from by simp [goX, hc0]]
    obtain ⟨rfl, rfl⟩ := hc0
    have HW := Lib.hid (with_any base _ l i (0, -1) ((w.alloc (.cells #[.int .i64 5, .int .i64 i, .int .i64 m] 55)).alloc (.cells #[.int .i64 3, .int .i64 (-1)] 51)) (HR.out.below (below_alloc (below_alloc (Below.refl _ _) _) _)) HI.out (by rw [HN.out]; omega))
    go_enter Try.func26, Try.ntmps26
    go_wp2_with fail
    refine HW.out.mono ?_
    rintro e w1 ⟨v', rfl, hR1, hB1⟩
    have HB1 := Lib.hid (below_below (below_alloc (below_alloc (Below.refl _ _) _) _) hB1)
    have HR1 := Lib.hid (hR1.mono (show w.heap.size ≤ _ by simp; omega))
    clear hR1 hB1
    go_wp2_with fail
    go_ret2
    exact ⟨v', rfl, HB1.out, .inr HR1.out⟩
  · obtain ⟨hL, hF⟩ := HY.out (by simp [hc1])
    rw [hL, hF]
    clear hL hF HY HNo
    have fa0 : (wh == -1) = false := by rw [beq_eq_false_iff_ne]; omega
    have fa1 : decide (wh < 0) = false := by simp; omega
    show Calls _ _ _ _ (DoP _ _ _ (l.set i (goX wh)) _ _)
    rw [show goX wh = (1, wh) from by simp [goX, hc1]]
    obtain ⟨rfl, hc1⟩ := hc1
    have HW := Lib.hid (with_any base _ l i (1, wh) ((w.alloc (.cells #[.int .i64 5, .int .i64 i, .int .i64 m] 55)).alloc (.cells #[.int .i64 3, .int .i64 wh] 51)) (HR.out.below (below_alloc (below_alloc (Below.refl _ _) _) _)) HI.out (by rw [HN.out]; omega))
    go_enter Try.func26, Try.ntmps26
    go_wp2_with fail
    refine HW.out.mono ?_
    rintro e w1 ⟨v', rfl, hR1, hB1⟩
    have HB1 := Lib.hid (below_below (below_alloc (below_alloc (Below.refl _ _) _) _) hB1)
    have HR1 := Lib.hid (hR1.mono (show w.heap.size ≤ _ by simp; omega))
    clear hR1 hB1
    go_wp2_with fail
    go_ret2
    exact ⟨v', rfl, HB1.out, .inr HR1.out⟩
  · obtain ⟨hL, hF⟩ := HNo.out (by simp only [beq_eq_false_iff_ne]; omega)
    rw [hL, hF]
    clear hL hF HY HNo
    have fa0 : (s == 3) = false := by rw [beq_eq_false_iff_ne]; omega
    go_enter Try.func26, Try.ntmps26
    go_wp2
    go_ret2
    exact ⟨_, rfl, below_alloc (below_alloc (Below.refl _ _) _) _, .inl ⟨rfl, rfl⟩⟩

theorem do_any (base : Nat) (v : Value) (l : List Pr) (kind p m : Int) (w : World) (h : Rp w base v l) (hl : l.length ≤ 256) (hl0 : 0 < l.length) (hk : 0 ≤ kind ∧ kind ≤ 6) (hw : ∀ i, i < l.length → -1 ≤ (l[i]?.getD pz).2) :
    Calls Try.prog 26 #[v, .agg #[.int .i64 kind, .int .i64 p, .int .i64 m]] w (DoP base v l (actL l kind p m) (actF l kind p m) w) := by
  by_cases k6 : kind = 6
  · subst k6; exact do_6 base v l p m w h hl hl0
  by_cases hp : 0 ≤ p ∧ p < l.length
  · obtain ⟨i, rfl⟩ := Int.eq_ofNat_of_zero_le hp.1
    have hi : i < l.length := by omega
    by_cases k0 : kind = 0
    · subst k0
      by_cases hm : mBad m
      · exact do_rng0 base v l m i w h hl hl0 hi hm
      · exact do_0 base v l m i w h hl hl0 hi hm
    by_cases k1 : kind = 1
    · subst k1; exact do_1 base v l m i w h hl hl0 hi
    by_cases k2 : kind = 2
    · subst k2
      by_cases hm : mBad m
      · exact do_rng2 base v l m i w h hl hl0 hi hm
      · exact do_2 base v l m i w h hl hl0 hi hm
    by_cases k3 : kind = 3
    · subst k3; exact do_3 base v l m i w h hl hl0 hi
    by_cases k4 : kind = 4
    · subst k4; exact do_4 base v l m i w h hl hl0 hi
    obtain rfl : kind = 5 := by omega
    exact do_5 base v l m i w h hl hl0 hi (hw i hi)
  · exact do_out base v l kind p m w h hl hl0 (by omega) hp
end Go.Proofs.Ytcjgdnlacfpioaa.Pstat
