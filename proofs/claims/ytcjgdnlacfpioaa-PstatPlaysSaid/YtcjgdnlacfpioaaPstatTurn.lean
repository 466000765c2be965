/- Chapter 19: the contracts of Len, turn, by, Take, Enter, Leave, Release, Stop, Go. -/
import Derived.Test.YtcjgdnlacfpioaaPstatMay
namespace Go.Proofs.Ytcjgdnlacfpioaa.Pstat
open Go.RowKit Go.Esc
set_option linter.unusedVariables false

theorem ys_set (l : List Pr) (x : Pr) : ∀ i, i < l.length → ys (l.set i x) = ((ys l).set (i * 2) (.int .i64 x.1)).set (i * 2 + 1) (.int .i64 x.2) := by
  induction l with
  | nil => intro i hi; simp at hi
  | cons y l ih =>
    intro i hi
    cases i with
    | zero => simp [ys]
    | succ i =>
      have h := ih i (by simpa using hi)
      rw [List.set_cons_succ, ys, h, show (i + 1) * 2 = (i * 2) + 1 + 1 by omega]
      simp [ys]
/-- *x = next: how the table is then. -/
theorem Tb.put {w : World} {t g n cap : Nat} {l : List Pr} (h : Tb w t (.slice (some ⟨g, 0, none⟩) n cap) l) (i : Nat) (hi : i < l.length) (x : Pr) :
    Tb ((w.setCell ⟨g, i * 2, none⟩ (.int .i64 x.1)).setCell ⟨g, i * 2 + 1, none⟩ (.int .i64 x.2)) t (.slice (some ⟨g, 0, none⟩) n cap) (l.set i x) := by
  have hgt : g ≠ t := fun e => h.off (by rw [e]; rfl)
  refine ⟨(h.blk.setOther (Ne.symm hgt) _).setOther (Ne.symm hgt) _, ?_⟩
  obtain ⟨hl, ⟨h0, _⟩ | ⟨g', cap', cur, he, hb, hh, hn, hm, hs, ht⟩⟩ := h.own
  · cases h0
  · simp only [Value.slice.injEq, Option.some.injEq, Addr.mk.injEq] at he
    obtain ⟨⟨rfl, _⟩, rfl, rfl⟩ := he
    have hB : Blk w g cur 74 := hh
    refine ⟨by rw [List.length_set, ys_len, List.length_set], .inr ⟨g, cap, _, by rw [List.length_set], hb, (hB.set (i * 2) (.int .i64 x.1)).set (i * 2 + 1) (.int .i64 x.2), by rw [List.length_set]; exact hn, hm, by simpa using hs, ?_⟩⟩
    rw [List.length_set, ys_set l x i hi, ← ht]
    simp [List.take_set]
theorem Tb.free {w : World} {t g n cap : Nat} {l : List Pr} (h : Tb w t (.slice (some ⟨g, 0, none⟩) n cap) l) (i : Nat) : w.frozen? ⟨g, i, none⟩ = false ∧ g < w.heap.size := by
  obtain ⟨hl, ⟨h0, _⟩ | ⟨g', cap', cur, he, hb, hh, hn, hm, hs, ht⟩⟩ := h.own
  · cases h0
  · simp only [Value.slice.injEq, Option.some.injEq, Addr.mk.injEq] at he
    obtain ⟨⟨rfl, _⟩, rfl, rfl⟩ := he
    have hB : Blk w g cur 74 := hh
    exact ⟨hB.free i, hB.lt⟩

def PostT (t : Nat) (tv : Value) (l' : List Pr) (f : Int) (w : World) (e : Ending) (w' : World) : Prop :=
  e = .returned (.int .i64 f) ∧ ∃ tv', Tb w' t tv' l' ∧ Only (Tf t tv) w w' ∧ ∀ j, Tf t tv' j → Tf t tv j ∨ w.heap.size ≤ j
theorem PostT.same {t : Nat} {tv : Value} {l : List Pr} {f : Int} {w w' : World} (h : Tb w t tv l) (hb : Below w.heap.size w w') : PostT t tv l f w (.returned (.int .i64 f)) w' :=
  ⟨rfl, tv, h.below hb, (Only.refl _ w).below hb, fun j hj => .inl hj⟩
theorem PostT.put {t g n cap : Nat} {l : List Pr} {i : Nat} {x : Pr} {w w1 : World} {o : Obj} (h : Tb w t (.slice (some ⟨g, 0, none⟩) n cap) l) (hb : Below w.heap.size w w1) (hi : i < l.length) :
    PostT t (.slice (some ⟨g, 0, none⟩) n cap) (l.set i x) 0 w (.returned (.int .i64 0)) (((w1.setCell ⟨g, i * 2, none⟩ (.int .i64 x.1)).setCell ⟨g, i * 2 + 1, none⟩ (.int .i64 x.2)).alloc o) := by
  refine ⟨rfl, _, ((h.below hb).put i hi x).below (below_alloc (Below.refl _ _) o), ((((Only.refl (Tf t (.slice (some ⟨g, 0, none⟩) n cap)) w).below hb).set (.inr (.inr rfl)) _ _).set (.inr (.inr rfl)) _ _).alloc o, fun j hj => .inl hj⟩

/-- May Leave be? -/
@[reducible] def leaveB (m s wh : Int) : Bool := decide (s = 2 ∧ wh = m)
/-- What turn comes to. -/
def turnL (l : List Pr) (p : Int) (X : Int → Int → Pr) (B : Int → Int → Bool) : List Pr := if 0 ≤ p ∧ p < l.length then (if B (l[p.toNat]?.getD pz).1 (l[p.toNat]?.getD pz).2 then l.set p.toNat (X (l[p.toNat]?.getD pz).1 (l[p.toNat]?.getD pz).2) else l) else l
def turnF (l : List Pr) (p : Int) (B : Int → Int → Bool) : Int := if 0 ≤ p ∧ p < l.length then (if B (l[p.toNat]?.getD pz).1 (l[p.toNat]?.getD pz).2 then 0 else 9) else 8

def lenT (l : List Pr) : Int := (l.length : Int) - cnt 4 l
set_option maxRecDepth 100000 in
set_option maxHeartbeats 2000000 in
theorem len_any (t : Nat) (tv : Value) (l : List Pr) (w : World) (h : Tb w t tv l) (hl : l.length ≤ 100000) : Calls Try.prog 31 #[.pointer (some ⟨t, 0, none⟩)] w (CntP (lenT l) w) := by
  obtain ⟨a, cap, rfl⟩ := h.slice
  have c0 := h.blk.cell 0
  have hbl := h.blk.lt
  simp only [List.getElem?_toArray, List.getElem?_cons_zero] at c0
  have HC : Hid (Calls Try.prog 32 #[.pointer (some ⟨t, 0, none⟩), .int .i64 4] w.drew (CntP (cnt 4 l) w.drew)) := count_any t _ l 4 w.drew (h.below ⟨rfl, rfl, rfl, Nat.le_refl _, fun _ _ => rfl⟩) hl
  have hc := cnt_le 4 l
  unfold lenT
  generalize cnt 4 l = c at *
  generalize l.length = n at *
  have e1 : IntKind.i64.wrap ((n : Int) - c) = (n : Int) - c := IntWalk.i64_in _ (by omega)
  clear h hc hl
  go_enter Try.func31, Try.ntmps31
  go_wp2_with fail
  refine wp_region_any (by kernel_rfl) ?_
  try (change wpAny _ _ _ _ _ _ _ (World.drew _))
  refine wpAny_take (i := 0) (v := ?_) rfl (by kernel_rfl) (by kernel_rfl) (by kernel_rfl) (fun _ _ _ h => h) (Or.inl ⟨by kernel_rfl, ?_⟩) ?_
  rotate_left
  · intro w'; go_simp; try (with_reducible rfl)
  refine wpAny_take (i := 1) (v := ?_) rfl (by kernel_rfl) (by kernel_rfl) (by kernel_rfl) (fun _ _ _ h => h) (Or.inl ⟨by kernel_rfl, ?_⟩) ?_
  rotate_left
  · intro w'; go_simp; try (with_reducible rfl)
  refine wpAny_take (i := 2) (v := ?_) rfl (by kernel_rfl) (by kernel_rfl) (by kernel_rfl) (fun _ _ _ h => h) (Or.inl ⟨by kernel_rfl, ?_⟩) ?_
  rotate_left
  · intro w'; go_simp; try (with_reducible rfl)
  refine wpAny_take (i := 5) (v := ?_) rfl (by kernel_rfl) (by kernel_rfl) (by kernel_rfl) (fun _ _ _ h => h) (Or.inl ⟨by kernel_rfl, ?_⟩) ?_
  rotate_left
  · intro w'; go_simp; try (with_reducible rfl)
  refine wpAny_ready (rs := [3, 6]) (by kernel_rfl) (by simp) ?_
  refine AllReady.cons rfl (fun K hK => ?_) (AllReady.cons rfl (fun K hK => ?_) (AllReady.nil))
  · go_simp
    refine hK _ _ ?_
    clear hK K
    refine wpAny_take (i := 4) (v := ?_) rfl (by kernel_rfl) (by kernel_rfl) (by kernel_rfl) (fun _ _ _ h => h) (Or.inl ⟨by kernel_rfl, ?_⟩) ?_
    rotate_left
    · intro w'; go_simp; try (with_reducible rfl)
    refine wpAny_ready (rs := [6]) (by kernel_rfl) (by simp) ?_
    refine AllReady.cons rfl (fun K hK => ?_) (AllReady.nil)
    go_simp
    go_wp2_with (go_at_call 32; (with_reducible refine HC.out.mono ?_); rintro e w1 ⟨rfl, hb1⟩; have HB1 : Hid (Below w.heap.size w w1) := ⟨hb1.os, hb1.tape, hb1.output, hb1.size, hb1.block⟩; have d0 := (HB1.out.cell (p := ⟨t, 0, none⟩) hbl).trans c0; clear hb1)
    refine wpAny_take (i := 7) (v := ?_) rfl (by kernel_rfl) (by kernel_rfl) (by kernel_rfl) (fun _ _ _ h => h) (Or.inl ⟨by kernel_rfl, ?_⟩) ?_
    rotate_left
    · intro w'; go_simp; try (with_reducible rfl)
    refine wpAny_take (i := 8) (v := ?_) rfl (by kernel_rfl) (by kernel_rfl) (by kernel_rfl) (fun _ _ _ h => h) (Or.inl ⟨by kernel_rfl, ?_⟩) ?_
    rotate_left
    · intro w'; go_simp; try (with_reducible rfl)
    refine wpAny_done (by kernel_rfl) ?_ _
    go_wp2
    go_ret
    exact ⟨rfl, HB1.out⟩
  · go_simp
    go_wp2_with (go_at_call 32; (with_reducible refine HC.out.mono ?_); rintro e w1 ⟨rfl, hb1⟩; have HB1 : Hid (Below w.heap.size w w1) := ⟨hb1.os, hb1.tape, hb1.output, hb1.size, hb1.block⟩; have d0 := (HB1.out.cell (p := ⟨t, 0, none⟩) hbl).trans c0; clear hb1)
    refine wpAny_ready (rs := [3]) (by kernel_rfl) (by simp) ?_
    refine AllReady.cons rfl (fun K hK => ?_) (AllReady.nil)
    go_simp
    refine hK _ _ ?_
    clear hK K
    refine wpAny_take (i := 4) (v := ?_) rfl (by kernel_rfl) (by kernel_rfl) (by kernel_rfl) (fun _ _ _ h => h) (Or.inl ⟨by kernel_rfl, ?_⟩) ?_
    rotate_left
    · intro w'; go_simp; try (with_reducible rfl)
    refine wpAny_take (i := 7) (v := ?_) rfl (by kernel_rfl) (by kernel_rfl) (by kernel_rfl) (fun _ _ _ h => h) (Or.inl ⟨by kernel_rfl, ?_⟩) ?_
    rotate_left
    · intro w'; go_simp; try (with_reducible rfl)
    refine wpAny_take (i := 8) (v := ?_) rfl (by kernel_rfl) (by kernel_rfl) (by kernel_rfl) (fun _ _ _ h => h) (Or.inl ⟨by kernel_rfl, ?_⟩) ?_
    rotate_left
    · intro w'; go_simp; try (with_reducible rfl)
    refine wpAny_done (by kernel_rfl) ?_ _
    go_wp2
    go_ret
    exact ⟨rfl, HB1.out⟩

set_option maxHeartbeats 2000000 in
theorem turn_enter (t : Nat) (tv : Value) (l : List Pr) (p : Int) (w : World) (h : Tb w t tv l) : Calls Try.prog 53 #[.pointer (some ⟨t, 0, none⟩), .int .i64 p, .func (.func 54) #[] #[]] w (PostT t tv (turnL l p (fun s wh => (2, wh)) (fun s wh => s == 1)) (turnF l p (fun s wh => s == 1)) w) := by
  unfold turnL turnF
  by_cases hp : 0 ≤ p ∧ p < l.length
  · rw [if_pos hp, if_pos hp]
    obtain ⟨i, rfl⟩ := Int.eq_ofNat_of_zero_le hp.1
    rw [Int.toNat_natCast]
    have hi : i < l.length := by omega
    obtain ⟨a, cap, rfl⟩ := h.slice
    obtain ⟨hz, g, rfl, c0, c1⟩ := h.at i hi
    clear hz
    have HA := Lib.hid (at_in t g _ cap l i w h hi)
    have hfr := h.free (i * 2)
    have hfr1 := h.free (i * 2 + 1)
    have HT := Lib.hid h
    have HI := Lib.hid hi
    obtain ⟨s, hs⟩ : ∃ s, (l[i]?.getD pz).1 = s := ⟨_, rfl⟩
    obtain ⟨wh, hwh⟩ : ∃ wh, (l[i]?.getD pz).2 = wh := ⟨_, rfl⟩
    rw [hs, hwh]
    rw [hs] at c0
    rw [hwh] at c1
    have HM := Lib.hid (enter_may s wh w)
    clear hp hi h hs hwh
    obtain ⟨bb, HBB⟩ : ∃ bb, Hid ((fun s wh => s == 1) s wh = bb) := ⟨_, rfl⟩
    obtain ⟨x1, x2, HXX⟩ : ∃ x1 x2 : Int, Hid (((fun s wh => (2, wh)) : Int → Int → Pr) s wh = (x1, x2)) := ⟨_, _, rfl⟩
    rw [HBB.out, HXX.out]
    rw [show MayP _ _ _ = MayP (x1, x2) bb w from by rw [← HBB.out, ← HXX.out]] at HM
    obtain ⟨n, HL⟩ : ∃ n, Hid (l.length = n) := ⟨_, rfl⟩
    rw [HL.out] at HT ⊢
    cases bb with
    | true =>
      rw [if_pos rfl, if_pos rfl]
      go_enter Try.func53, Try.ntmps53
      go_wp2_with fail
      refine HA.out.mono ?_
      rintro e w1 ⟨rfl, rfl⟩
      go_wp2_with fail
      refine HM.out.mono ?_
      rintro e w1 ⟨rfl, hB1⟩
      have HB1 := Lib.hid hB1
      have hT1 := HT.out.below hB1
      have hgl := (hT1.free 0).2
      have hf0 := (hT1.free (i * 2)).1
      have hf1 := (hT1.free (i * 2 + 1)).1
      have e0 := (hB1.cell (p := ⟨g, i * 2, none⟩) hfr.2).trans c0
      have e1 := (hB1.cell (p := ⟨g, i * 2 + 1, none⟩) hfr.2).trans c1
      clear hB1 hT1
      go_wp2_with fail
      go_ret
      exact PostT.put (x := (x1, x2)) HT.out HB1.out HI.out
    | false =>
      rw [if_neg (by decide), if_neg (by decide)]
      go_enter Try.func53, Try.ntmps53
      go_wp2_with fail
      refine HA.out.mono ?_
      rintro e w1 ⟨rfl, rfl⟩
      go_wp2_with fail
      refine HM.out.mono ?_
      rintro e w1 ⟨rfl, hB1⟩
      have HB1 := Lib.hid hB1
      clear hB1
      go_wp2_with fail
      go_ret
      exact PostT.same HT.out (below_alloc HB1.out _)
  · rw [if_neg hp, if_neg hp]
    have HA := Lib.hid (at_out t tv l p w h hp)
    have HT := Lib.hid h
    clear h hp
    go_enter Try.func53, Try.ntmps53
    go_wp2_with fail
    refine HA.out.mono ?_
    rintro e w1 ⟨rfl, rfl⟩
    go_wp2_with fail
    go_ret
    exact PostT.same HT.out (Below.refl _ _)

set_option maxHeartbeats 2000000 in
theorem turn_release (t : Nat) (tv : Value) (l : List Pr) (p : Int) (w : World) (h : Tb w t tv l) : Calls Try.prog 53 #[.pointer (some ⟨t, 0, none⟩), .int .i64 p, .func (.func 57) #[] #[]] w (PostT t tv (turnL l p (fun s wh => (0, -1)) (fun s wh => s == 1)) (turnF l p (fun s wh => s == 1)) w) := by
  unfold turnL turnF
  by_cases hp : 0 ≤ p ∧ p < l.length
  · rw [if_pos hp, if_pos hp]
    obtain ⟨i, rfl⟩ := Int.eq_ofNat_of_zero_le hp.1
    rw [Int.toNat_natCast]
    have hi : i < l.length := by omega
    obtain ⟨a, cap, rfl⟩ := h.slice
    obtain ⟨hz, g, rfl, c0, c1⟩ := h.at i hi
    clear hz
    have HA := Lib.hid (at_in t g _ cap l i w h hi)
    have hfr := h.free (i * 2)
    have hfr1 := h.free (i * 2 + 1)
    have HT := Lib.hid h
    have HI := Lib.hid hi
    obtain ⟨s, hs⟩ : ∃ s, (l[i]?.getD pz).1 = s := ⟨_, rfl⟩
    obtain ⟨wh, hwh⟩ : ∃ wh, (l[i]?.getD pz).2 = wh := ⟨_, rfl⟩
    rw [hs, hwh]
    rw [hs] at c0
    rw [hwh] at c1
    have HM := Lib.hid (release_may s wh w)
    clear hp hi h hs hwh
    obtain ⟨bb, HBB⟩ : ∃ bb, Hid ((fun s wh => s == 1) s wh = bb) := ⟨_, rfl⟩
    obtain ⟨x1, x2, HXX⟩ : ∃ x1 x2 : Int, Hid (((fun s wh => (0, -1)) : Int → Int → Pr) s wh = (x1, x2)) := ⟨_, _, rfl⟩
    rw [HBB.out, HXX.out]
    rw [show MayP _ _ _ = MayP (x1, x2) bb w from by rw [← HBB.out, ← HXX.out]] at HM
    obtain ⟨n, HL⟩ : ∃ n, Hid (l.length = n) := ⟨_, rfl⟩
    rw [HL.out] at HT ⊢
    cases bb with
    | true =>
      rw [if_pos rfl, if_pos rfl]
      go_enter Try.func53, Try.ntmps53
      go_wp2_with fail
      refine HA.out.mono ?_
      rintro e w1 ⟨rfl, rfl⟩
      go_wp2_with fail
      refine HM.out.mono ?_
      rintro e w1 ⟨rfl, hB1⟩
      have HB1 := Lib.hid hB1
      have hT1 := HT.out.below hB1
      have hgl := (hT1.free 0).2
      have hf0 := (hT1.free (i * 2)).1
      have hf1 := (hT1.free (i * 2 + 1)).1
      have e0 := (hB1.cell (p := ⟨g, i * 2, none⟩) hfr.2).trans c0
      have e1 := (hB1.cell (p := ⟨g, i * 2 + 1, none⟩) hfr.2).trans c1
      clear hB1 hT1
      go_wp2_with fail
      go_ret
      exact PostT.put (x := (x1, x2)) HT.out HB1.out HI.out
    | false =>
      rw [if_neg (by decide), if_neg (by decide)]
      go_enter Try.func53, Try.ntmps53
      go_wp2_with fail
      refine HA.out.mono ?_
      rintro e w1 ⟨rfl, rfl⟩
      go_wp2_with fail
      refine HM.out.mono ?_
      rintro e w1 ⟨rfl, hB1⟩
      have HB1 := Lib.hid hB1
      clear hB1
      go_wp2_with fail
      go_ret
      exact PostT.same HT.out (below_alloc HB1.out _)
  · rw [if_neg hp, if_neg hp]
    have HA := Lib.hid (at_out t tv l p w h hp)
    have HT := Lib.hid h
    clear h hp
    go_enter Try.func53, Try.ntmps53
    go_wp2_with fail
    refine HA.out.mono ?_
    rintro e w1 ⟨rfl, rfl⟩
    go_wp2_with fail
    go_ret
    exact PostT.same HT.out (Below.refl _ _)

set_option maxHeartbeats 2000000 in
theorem turn_stop (t : Nat) (tv : Value) (l : List Pr) (p : Int) (w : World) (h : Tb w t tv l) : Calls Try.prog 53 #[.pointer (some ⟨t, 0, none⟩), .int .i64 p, .func (.func 55) #[] #[]] w (PostT t tv (turnL l p stopX (fun s wh => stopB s)) (turnF l p (fun s wh => stopB s)) w) := by
  unfold turnL turnF
  by_cases hp : 0 ≤ p ∧ p < l.length
  · rw [if_pos hp, if_pos hp]
    obtain ⟨i, rfl⟩ := Int.eq_ofNat_of_zero_le hp.1
    rw [Int.toNat_natCast]
    have hi : i < l.length := by omega
    obtain ⟨a, cap, rfl⟩ := h.slice
    obtain ⟨hz, g, rfl, c0, c1⟩ := h.at i hi
    clear hz
    have HA := Lib.hid (at_in t g _ cap l i w h hi)
    have hfr := h.free (i * 2)
    have hfr1 := h.free (i * 2 + 1)
    have HT := Lib.hid h
    have HI := Lib.hid hi
    obtain ⟨s, hs⟩ : ∃ s, (l[i]?.getD pz).1 = s := ⟨_, rfl⟩
    obtain ⟨wh, hwh⟩ : ∃ wh, (l[i]?.getD pz).2 = wh := ⟨_, rfl⟩
    rw [hs, hwh]
    rw [hs] at c0
    rw [hwh] at c1
    have HM := Lib.hid (stop_may s wh w)
    clear hp hi h hs hwh
    obtain ⟨bb, HBB⟩ : ∃ bb, Hid ((fun s wh => stopB s) s wh = bb) := ⟨_, rfl⟩
    obtain ⟨x1, x2, HXX⟩ : ∃ x1 x2 : Int, Hid ((stopX : Int → Int → Pr) s wh = (x1, x2)) := ⟨_, _, rfl⟩
    rw [HBB.out, HXX.out]
    rw [show MayP _ _ _ = MayP (x1, x2) bb w from by rw [← HBB.out, ← HXX.out]] at HM
    obtain ⟨n, HL⟩ : ∃ n, Hid (l.length = n) := ⟨_, rfl⟩
    rw [HL.out] at HT ⊢
    cases bb with
    | true =>
      rw [if_pos rfl, if_pos rfl]
      go_enter Try.func53, Try.ntmps53
      go_wp2_with fail
      refine HA.out.mono ?_
      rintro e w1 ⟨rfl, rfl⟩
      go_wp2_with fail
      refine HM.out.mono ?_
      rintro e w1 ⟨rfl, hB1⟩
      have HB1 := Lib.hid hB1
      have hT1 := HT.out.below hB1
      have hgl := (hT1.free 0).2
      have hf0 := (hT1.free (i * 2)).1
      have hf1 := (hT1.free (i * 2 + 1)).1
      have e0 := (hB1.cell (p := ⟨g, i * 2, none⟩) hfr.2).trans c0
      have e1 := (hB1.cell (p := ⟨g, i * 2 + 1, none⟩) hfr.2).trans c1
      clear hB1 hT1
      go_wp2_with fail
      go_ret
      exact PostT.put (x := (x1, x2)) HT.out HB1.out HI.out
    | false =>
      rw [if_neg (by decide), if_neg (by decide)]
      go_enter Try.func53, Try.ntmps53
      go_wp2_with fail
      refine HA.out.mono ?_
      rintro e w1 ⟨rfl, rfl⟩
      go_wp2_with fail
      refine HM.out.mono ?_
      rintro e w1 ⟨rfl, hB1⟩
      have HB1 := Lib.hid hB1
      clear hB1
      go_wp2_with fail
      go_ret
      exact PostT.same HT.out (below_alloc HB1.out _)
  · rw [if_neg hp, if_neg hp]
    have HA := Lib.hid (at_out t tv l p w h hp)
    have HT := Lib.hid h
    clear h hp
    go_enter Try.func53, Try.ntmps53
    go_wp2_with fail
    refine HA.out.mono ?_
    rintro e w1 ⟨rfl, rfl⟩
    go_wp2_with fail
    go_ret
    exact PostT.same HT.out (Below.refl _ _)

set_option maxHeartbeats 2000000 in
theorem turn_go (t : Nat) (tv : Value) (l : List Pr) (p : Int) (w : World) (h : Tb w t tv l) : Calls Try.prog 53 #[.pointer (some ⟨t, 0, none⟩), .int .i64 p, .func (.func 58) #[] #[]] w (PostT t tv (turnL l p (fun s wh => goX wh) (fun s wh => s == 3)) (turnF l p (fun s wh => s == 3)) w) := by
  unfold turnL turnF
  by_cases hp : 0 ≤ p ∧ p < l.length
  · rw [if_pos hp, if_pos hp]
    obtain ⟨i, rfl⟩ := Int.eq_ofNat_of_zero_le hp.1
    rw [Int.toNat_natCast]
    have hi : i < l.length := by omega
    obtain ⟨a, cap, rfl⟩ := h.slice
    obtain ⟨hz, g, rfl, c0, c1⟩ := h.at i hi
    clear hz
    have HA := Lib.hid (at_in t g _ cap l i w h hi)
    have hfr := h.free (i * 2)
    have hfr1 := h.free (i * 2 + 1)
    have HT := Lib.hid h
    have HI := Lib.hid hi
    obtain ⟨s, hs⟩ : ∃ s, (l[i]?.getD pz).1 = s := ⟨_, rfl⟩
    obtain ⟨wh, hwh⟩ : ∃ wh, (l[i]?.getD pz).2 = wh := ⟨_, rfl⟩
    rw [hs, hwh]
    rw [hs] at c0
    rw [hwh] at c1
    have HM := Lib.hid (go_may s wh w)
    clear hp hi h hs hwh
    obtain ⟨bb, HBB⟩ : ∃ bb, Hid ((fun s wh => s == 3) s wh = bb) := ⟨_, rfl⟩
    obtain ⟨x1, x2, HXX⟩ : ∃ x1 x2 : Int, Hid (((fun s wh => goX wh) : Int → Int → Pr) s wh = (x1, x2)) := ⟨_, _, rfl⟩
    rw [HBB.out, HXX.out]
    rw [show MayP _ _ _ = MayP (x1, x2) bb w from by rw [← HBB.out, ← HXX.out]] at HM
    obtain ⟨n, HL⟩ : ∃ n, Hid (l.length = n) := ⟨_, rfl⟩
    rw [HL.out] at HT ⊢
    cases bb with
    | true =>
      rw [if_pos rfl, if_pos rfl]
      go_enter Try.func53, Try.ntmps53
      go_wp2_with fail
      refine HA.out.mono ?_
      rintro e w1 ⟨rfl, rfl⟩
      go_wp2_with fail
      refine HM.out.mono ?_
      rintro e w1 ⟨rfl, hB1⟩
      have HB1 := Lib.hid hB1
      have hT1 := HT.out.below hB1
      have hgl := (hT1.free 0).2
      have hf0 := (hT1.free (i * 2)).1
      have hf1 := (hT1.free (i * 2 + 1)).1
      have e0 := (hB1.cell (p := ⟨g, i * 2, none⟩) hfr.2).trans c0
      have e1 := (hB1.cell (p := ⟨g, i * 2 + 1, none⟩) hfr.2).trans c1
      clear hB1 hT1
      go_wp2_with fail
      go_ret
      exact PostT.put (x := (x1, x2)) HT.out HB1.out HI.out
    | false =>
      rw [if_neg (by decide), if_neg (by decide)]
      go_enter Try.func53, Try.ntmps53
      go_wp2_with fail
      refine HA.out.mono ?_
      rintro e w1 ⟨rfl, rfl⟩
      go_wp2_with fail
      refine HM.out.mono ?_
      rintro e w1 ⟨rfl, hB1⟩
      have HB1 := Lib.hid hB1
      clear hB1
      go_wp2_with fail
      go_ret
      exact PostT.same HT.out (below_alloc HB1.out _)
  · rw [if_neg hp, if_neg hp]
    have HA := Lib.hid (at_out t tv l p w h hp)
    have HT := Lib.hid h
    clear h hp
    go_enter Try.func53, Try.ntmps53
    go_wp2_with fail
    refine HA.out.mono ?_
    rintro e w1 ⟨rfl, rfl⟩
    go_wp2_with fail
    go_ret
    exact PostT.same HT.out (Below.refl _ _)

set_option maxHeartbeats 2000000 in
theorem turn_take (t : Nat) (tv : Value) (l : List Pr) (p : Int) (b : Nat) (m : Int) (w : World) (h : Tb w t tv l) (hb : Blk w b #[.int .i64 m] 3) : Calls Try.prog 53 #[.pointer (some ⟨t, 0, none⟩), .int .i64 p, .func (.func 52) #[] #[.pointer (some ⟨b, 0, none⟩)]] w (PostT t tv (turnL l p (fun s wh => (1, m)) (fun s wh => s == 0)) (turnF l p (fun s wh => s == 0)) w) := by
  unfold turnL turnF
  by_cases hp : 0 ≤ p ∧ p < l.length
  · rw [if_pos hp, if_pos hp]
    obtain ⟨i, rfl⟩ := Int.eq_ofNat_of_zero_le hp.1
    rw [Int.toNat_natCast]
    have hi : i < l.length := by omega
    obtain ⟨a, cap, rfl⟩ := h.slice
    obtain ⟨hz, g, rfl, c0, c1⟩ := h.at i hi
    clear hz
    have HA := Lib.hid (at_in t g _ cap l i w h hi)
    have hfr := h.free (i * 2)
    have hfr1 := h.free (i * 2 + 1)
    have HT := Lib.hid h
    have HI := Lib.hid hi
    obtain ⟨s, hs⟩ : ∃ s, (l[i]?.getD pz).1 = s := ⟨_, rfl⟩
    obtain ⟨wh, hwh⟩ : ∃ wh, (l[i]?.getD pz).2 = wh := ⟨_, rfl⟩
    rw [hs, hwh]
    rw [hs] at c0
    rw [hwh] at c1
    have HM := Lib.hid (take_may b m s wh w hb)
    clear hp hi h hs hwh hb
    obtain ⟨bb, HBB⟩ : ∃ bb, Hid ((fun s wh => s == 0) s wh = bb) := ⟨_, rfl⟩
    obtain ⟨x1, x2, HXX⟩ : ∃ x1 x2 : Int, Hid (((fun s wh => (1, m)) : Int → Int → Pr) s wh = (x1, x2)) := ⟨_, _, rfl⟩
    rw [HBB.out, HXX.out]
    rw [show MayP _ _ _ = MayP (x1, x2) bb w from by rw [← HBB.out, ← HXX.out]] at HM
    obtain ⟨n, HL⟩ : ∃ n, Hid (l.length = n) := ⟨_, rfl⟩
    rw [HL.out] at HT ⊢
    cases bb with
    | true =>
      rw [if_pos rfl, if_pos rfl]
      go_enter Try.func53, Try.ntmps53
      go_wp2_with fail
      refine HA.out.mono ?_
      rintro e w1 ⟨rfl, rfl⟩
      go_wp2_with fail
      refine HM.out.mono ?_
      rintro e w1 ⟨rfl, hB1⟩
      have HB1 := Lib.hid hB1
      have hT1 := HT.out.below hB1
      have hgl := (hT1.free 0).2
      have hf0 := (hT1.free (i * 2)).1
      have hf1 := (hT1.free (i * 2 + 1)).1
      have e0 := (hB1.cell (p := ⟨g, i * 2, none⟩) hfr.2).trans c0
      have e1 := (hB1.cell (p := ⟨g, i * 2 + 1, none⟩) hfr.2).trans c1
      clear hB1 hT1
      go_wp2_with fail
      go_ret
      exact PostT.put (x := (x1, x2)) HT.out HB1.out HI.out
    | false =>
      rw [if_neg (by decide), if_neg (by decide)]
      go_enter Try.func53, Try.ntmps53
      go_wp2_with fail
      refine HA.out.mono ?_
      rintro e w1 ⟨rfl, rfl⟩
      go_wp2_with fail
      refine HM.out.mono ?_
      rintro e w1 ⟨rfl, hB1⟩
      have HB1 := Lib.hid hB1
      clear hB1
      go_wp2_with fail
      go_ret
      exact PostT.same HT.out (below_alloc HB1.out _)
  · rw [if_neg hp, if_neg hp]
    have HA := Lib.hid (at_out t tv l p w h hp)
    have HT := Lib.hid h
    clear h hp hb
    go_enter Try.func53, Try.ntmps53
    go_wp2_with fail
    refine HA.out.mono ?_
    rintro e w1 ⟨rfl, rfl⟩
    go_wp2_with fail
    go_ret
    exact PostT.same HT.out (Below.refl _ _)

set_option maxHeartbeats 2000000 in
theorem turn_leave (t : Nat) (tv : Value) (l : List Pr) (p : Int) (b c : Nat) (m : Int) (w : World) (h : Tb w t tv l) (hb : Blk w b #[.int .i64 m] 3) (hc : Blk w c #[.int .i64 2, .int .i64 m] 74) : Calls Try.prog 53 #[.pointer (some ⟨t, 0, none⟩), .int .i64 p, .func (.func 56) #[] #[.pointer (some ⟨b, 0, none⟩), .pointer (some ⟨c, 0, none⟩)]] w (PostT t tv (turnL l p (fun s wh => (1, m)) (leaveB m)) (turnF l p (leaveB m)) w) := by
  unfold turnL turnF
  by_cases hp : 0 ≤ p ∧ p < l.length
  · rw [if_pos hp, if_pos hp]
    obtain ⟨i, rfl⟩ := Int.eq_ofNat_of_zero_le hp.1
    rw [Int.toNat_natCast]
    have hi : i < l.length := by omega
    obtain ⟨a, cap, rfl⟩ := h.slice
    obtain ⟨hz, g, rfl, c0, c1⟩ := h.at i hi
    clear hz
    have HA := Lib.hid (at_in t g _ cap l i w h hi)
    have hfr := h.free (i * 2)
    have hfr1 := h.free (i * 2 + 1)
    have HT := Lib.hid h
    have HI := Lib.hid hi
    obtain ⟨s, hs⟩ : ∃ s, (l[i]?.getD pz).1 = s := ⟨_, rfl⟩
    obtain ⟨wh, hwh⟩ : ∃ wh, (l[i]?.getD pz).2 = wh := ⟨_, rfl⟩
    rw [hs, hwh]
    rw [hs] at c0
    rw [hwh] at c1
    have HM := Lib.hid (leave_may b c m s wh w hb hc)
    clear hp hi h hs hwh hb hc
    obtain ⟨bb, HBB⟩ : ∃ bb, Hid ((leaveB m) s wh = bb) := ⟨_, rfl⟩
    obtain ⟨x1, x2, HXX⟩ : ∃ x1 x2 : Int, Hid (((fun s wh => (1, m)) : Int → Int → Pr) s wh = (x1, x2)) := ⟨_, _, rfl⟩
    rw [HBB.out, HXX.out]
    rw [show MayP _ _ _ = MayP (x1, x2) bb w from by rw [← HBB.out, ← HXX.out]] at HM
    obtain ⟨n, HL⟩ : ∃ n, Hid (l.length = n) := ⟨_, rfl⟩
    rw [HL.out] at HT ⊢
    cases bb with
    | true =>
      rw [if_pos rfl, if_pos rfl]
      go_enter Try.func53, Try.ntmps53
      go_wp2_with fail
      refine HA.out.mono ?_
      rintro e w1 ⟨rfl, rfl⟩
      go_wp2_with fail
      refine HM.out.mono ?_
      rintro e w1 ⟨rfl, hB1⟩
      have HB1 := Lib.hid hB1
      have hT1 := HT.out.below hB1
      have hgl := (hT1.free 0).2
      have hf0 := (hT1.free (i * 2)).1
      have hf1 := (hT1.free (i * 2 + 1)).1
      have e0 := (hB1.cell (p := ⟨g, i * 2, none⟩) hfr.2).trans c0
      have e1 := (hB1.cell (p := ⟨g, i * 2 + 1, none⟩) hfr.2).trans c1
      clear hB1 hT1
      go_wp2_with fail
      go_ret
      exact PostT.put (x := (x1, x2)) HT.out HB1.out HI.out
    | false =>
      rw [if_neg (by decide), if_neg (by decide)]
      go_enter Try.func53, Try.ntmps53
      go_wp2_with fail
      refine HA.out.mono ?_
      rintro e w1 ⟨rfl, rfl⟩
      go_wp2_with fail
      refine HM.out.mono ?_
      rintro e w1 ⟨rfl, hB1⟩
      have HB1 := Lib.hid hB1
      clear hB1
      go_wp2_with fail
      go_ret
      exact PostT.same HT.out (below_alloc HB1.out _)
  · rw [if_neg hp, if_neg hp]
    have HA := Lib.hid (at_out t tv l p w h hp)
    have HT := Lib.hid h
    clear h hp hb hc
    go_enter Try.func53, Try.ntmps53
    go_wp2_with fail
    refine HA.out.mono ?_
    rintro e w1 ⟨rfl, rfl⟩
    go_wp2_with fail
    go_ret
    exact PostT.same HT.out (Below.refl _ _)

/-- What by comes to, ahead of turn. -/
def mBad (m : Int) : Prop := m < 0 ∨ 64 ≤ m
instance (m : Int) : Decidable (mBad m) := by unfold mBad; infer_instance
def byL (l : List Pr) (p m : Int) (X : Int → Int → Pr) (B : Int → Int → Bool) : List Pr := if (0 ≤ p ∧ p < l.length) ∧ mBad m then l else turnL l p X B
def byF (l : List Pr) (p m : Int) (B : Int → Int → Bool) : Int := if (0 ≤ p ∧ p < l.length) ∧ mBad m then 2 else turnF l p B


set_option maxHeartbeats 2000000 in
theorem by_take (t : Nat) (tv : Value) (l : List Pr) (p : Int) (b : Nat) (m : Int) (w : World) (h : Tb w t tv l) (hb : Blk w b #[.int .i64 m] 3) : Calls Try.prog 51 #[.pointer (some ⟨t, 0, none⟩), .int .i64 p, .int .i64 m, .func (.func 52) #[] #[.pointer (some ⟨b, 0, none⟩)]] w (PostT t tv (byL l p m (fun s wh => (1, m)) (fun s wh => s == 0)) (byF l p m (fun s wh => s == 0)) w) := by
  have HTu := Lib.hid (turn_take t tv l p b m w h hb)
  have HT := Lib.hid h
  unfold byL byF
  by_cases hp : 0 ≤ p ∧ p < l.length
  · obtain ⟨i, rfl⟩ := Int.eq_ofNat_of_zero_le hp.1
    have hi : i < l.length := by omega
    obtain ⟨a, cap, rfl⟩ := h.slice
    obtain ⟨hz, g, rfl, c0, c1⟩ := h.at i hi
    have HA := Lib.hid (at_in t g _ cap l i w h hi)
    clear hz c0 c1 h hb hi
    by_cases hm : mBad m
    · rw [if_pos ⟨hp, hm⟩, if_pos ⟨hp, hm⟩]
      clear hp HTu
      by_cases hm0 : m < 0
      · have hd0 : decide (m < 0) = true := by simpa using hm0
        clear hm
        go_enter Try.func51, Try.ntmps51
        go_wp2_with fail
        refine HA.out.mono ?_
        rintro e w1 ⟨rfl, rfl⟩
        go_wp2_with fail
        go_ret
        exact PostT.same HT.out (Below.refl _ _)
      · have hd0 : decide (m < 0) = false := by simpa using hm0
        have hd1 : decide (64 ≤ m) = true := by unfold mBad at hm; simp; omega
        clear hm hm0
        go_enter Try.func51, Try.ntmps51
        go_wp2_with fail
        refine HA.out.mono ?_
        rintro e w1 ⟨rfl, rfl⟩
        go_wp2_with fail
        go_ret
        exact PostT.same HT.out (Below.refl _ _)
    · rw [if_neg (fun h => hm h.2), if_neg (fun h => hm h.2)]
      have hd0 : decide (m < 0) = false := by unfold mBad at hm; simp; omega
      have hd1 : decide (64 ≤ m) = false := by unfold mBad at hm; simp; omega
      clear hp hm
      go_enter Try.func51, Try.ntmps51
      go_wp2_with fail
      refine HA.out.mono ?_
      rintro e w1 ⟨rfl, rfl⟩
      go_wp2_with fail
      refine HTu.out.mono ?_
      rintro e w1 ⟨rfl, hP⟩
      have HP := Lib.hid hP
      clear hP
      go_wp2_with fail
      go_ret
      exact ⟨rfl, HP.out⟩
  · rw [if_neg (fun h => hp h.1), if_neg (fun h => hp h.1)]
    have HA := Lib.hid (at_out t tv l p w h hp)
    clear h hp hb
    go_enter Try.func51, Try.ntmps51
    go_wp2_with fail
    refine HA.out.mono ?_
    rintro e w1 ⟨rfl, rfl⟩
    go_wp2_with fail
    refine HTu.out.mono ?_
    rintro e w1 ⟨rfl, hP⟩
    have HP := Lib.hid hP
    clear hP
    go_wp2_with fail
    go_ret
    exact ⟨rfl, HP.out⟩

set_option maxHeartbeats 2000000 in
theorem by_leave (t : Nat) (tv : Value) (l : List Pr) (p : Int) (b c : Nat) (m : Int) (w : World) (h : Tb w t tv l) (hb : Blk w b #[.int .i64 m] 3) (hc : Blk w c #[.int .i64 2, .int .i64 m] 74) : Calls Try.prog 51 #[.pointer (some ⟨t, 0, none⟩), .int .i64 p, .int .i64 m, .func (.func 56) #[] #[.pointer (some ⟨b, 0, none⟩), .pointer (some ⟨c, 0, none⟩)]] w (PostT t tv (byL l p m (fun s wh => (1, m)) (leaveB m)) (byF l p m (leaveB m)) w) := by
  have HTu := Lib.hid (turn_leave t tv l p b c m w h hb hc)
  have HT := Lib.hid h
  unfold byL byF
  by_cases hp : 0 ≤ p ∧ p < l.length
  · obtain ⟨i, rfl⟩ := Int.eq_ofNat_of_zero_le hp.1
    have hi : i < l.length := by omega
    obtain ⟨a, cap, rfl⟩ := h.slice
    obtain ⟨hz, g, rfl, c0, c1⟩ := h.at i hi
    have HA := Lib.hid (at_in t g _ cap l i w h hi)
    clear hz c0 c1 h hb hc hi
    by_cases hm : mBad m
    · rw [if_pos ⟨hp, hm⟩, if_pos ⟨hp, hm⟩]
      clear hp HTu
      by_cases hm0 : m < 0
      · have hd0 : decide (m < 0) = true := by simpa using hm0
        clear hm
        go_enter Try.func51, Try.ntmps51
        go_wp2_with fail
        refine HA.out.mono ?_
        rintro e w1 ⟨rfl, rfl⟩
        go_wp2_with fail
        go_ret
        exact PostT.same HT.out (Below.refl _ _)
      · have hd0 : decide (m < 0) = false := by simpa using hm0
        have hd1 : decide (64 ≤ m) = true := by unfold mBad at hm; simp; omega
        clear hm hm0
        go_enter Try.func51, Try.ntmps51
        go_wp2_with fail
        refine HA.out.mono ?_
        rintro e w1 ⟨rfl, rfl⟩
        go_wp2_with fail
        go_ret
        exact PostT.same HT.out (Below.refl _ _)
    · rw [if_neg (fun h => hm h.2), if_neg (fun h => hm h.2)]
      have hd0 : decide (m < 0) = false := by unfold mBad at hm; simp; omega
      have hd1 : decide (64 ≤ m) = false := by unfold mBad at hm; simp; omega
      clear hp hm
      go_enter Try.func51, Try.ntmps51
      go_wp2_with fail
      refine HA.out.mono ?_
      rintro e w1 ⟨rfl, rfl⟩
      go_wp2_with fail
      refine HTu.out.mono ?_
      rintro e w1 ⟨rfl, hP⟩
      have HP := Lib.hid hP
      clear hP
      go_wp2_with fail
      go_ret
      exact ⟨rfl, HP.out⟩
  · rw [if_neg (fun h => hp h.1), if_neg (fun h => hp h.1)]
    have HA := Lib.hid (at_out t tv l p w h hp)
    clear h hp hb hc
    go_enter Try.func51, Try.ntmps51
    go_wp2_with fail
    refine HA.out.mono ?_
    rintro e w1 ⟨rfl, rfl⟩
    go_wp2_with fail
    refine HTu.out.mono ?_
    rintro e w1 ⟨rfl, hP⟩
    have HP := Lib.hid hP
    clear hP
    go_wp2_with fail
    go_ret
    exact ⟨rfl, HP.out⟩

theorem enter_any (t : Nat) (tv : Value) (l : List Pr) (p : Int) (w : World) (h : Tb w t tv l) : Calls Try.prog 40 #[.pointer (some ⟨t, 0, none⟩), .int .i64 p] w (PostT t tv (turnL l p (fun s wh => (2, wh)) (fun s wh => s == 1)) (turnF l p (fun s wh => s == 1)) w) := by
  have HTu := Lib.hid (turn_enter t tv l p w h)
  clear h
  go_enter Try.func40, Try.ntmps40
  go_wp2_with fail
  refine HTu.out.mono ?_
  rintro e w1 ⟨rfl, hP⟩
  have HP := Lib.hid hP
  clear hP
  go_wp2_with fail
  go_ret
  exact ⟨rfl, HP.out⟩

theorem release_any (t : Nat) (tv : Value) (l : List Pr) (p : Int) (w : World) (h : Tb w t tv l) : Calls Try.prog 46 #[.pointer (some ⟨t, 0, none⟩), .int .i64 p] w (PostT t tv (turnL l p (fun s wh => (0, -1)) (fun s wh => s == 1)) (turnF l p (fun s wh => s == 1)) w) := by
  have HTu := Lib.hid (turn_release t tv l p w h)
  clear h
  go_enter Try.func46, Try.ntmps46
  go_wp2_with fail
  refine HTu.out.mono ?_
  rintro e w1 ⟨rfl, hP⟩
  have HP := Lib.hid hP
  clear hP
  go_wp2_with fail
  go_ret
  exact ⟨rfl, HP.out⟩

theorem stop_any (t : Nat) (tv : Value) (l : List Pr) (p : Int) (w : World) (h : Tb w t tv l) : Calls Try.prog 41 #[.pointer (some ⟨t, 0, none⟩), .int .i64 p] w (PostT t tv (turnL l p stopX (fun s wh => stopB s)) (turnF l p (fun s wh => stopB s)) w) := by
  have HTu := Lib.hid (turn_stop t tv l p w h)
  clear h
  go_enter Try.func41, Try.ntmps41
  go_wp2_with fail
  refine HTu.out.mono ?_
  rintro e w1 ⟨rfl, hP⟩
  have HP := Lib.hid hP
  clear hP
  go_wp2_with fail
  go_ret
  exact ⟨rfl, HP.out⟩

theorem go_any (t : Nat) (tv : Value) (l : List Pr) (p : Int) (w : World) (h : Tb w t tv l) : Calls Try.prog 47 #[.pointer (some ⟨t, 0, none⟩), .int .i64 p] w (PostT t tv (turnL l p (fun s wh => goX wh) (fun s wh => s == 3)) (turnF l p (fun s wh => s == 3)) w) := by
  have HTu := Lib.hid (turn_go t tv l p w h)
  clear h
  go_enter Try.func47, Try.ntmps47
  go_wp2_with fail
  refine HTu.out.mono ?_
  rintro e w1 ⟨rfl, hP⟩
  have HP := Lib.hid hP
  clear hP
  go_wp2_with fail
  go_ret
  exact ⟨rfl, HP.out⟩

theorem post_after {t : Nat} {tv : Value} {l' : List Pr} {w w1 w' : World} (hb : Below w.heap.size w w1) (h : ∃ tv', Tb w' t tv' l' ∧ Only (Tf t tv) w1 w' ∧ ∀ j, Tf t tv' j → Tf t tv j ∨ w1.heap.size ≤ j) : ∃ tv', Tb w' t tv' l' ∧ Only (Tf t tv) w w' ∧ ∀ j, Tf t tv' j → Tf t tv j ∨ w.heap.size ≤ j := by
  obtain ⟨tv', h1, h2, h3⟩ := h
  exact ⟨tv', h1, ((Only.refl (Tf t tv) w).below hb).andThen h2 (fun j _ hj => hj), fun j hj => (h3 j hj).imp id (fun x => Nat.le_trans hb.size x)⟩
theorem take_any (t : Nat) (tv : Value) (l : List Pr) (p m : Int) (w : World) (h : Tb w t tv l) : Calls Try.prog 39 #[.pointer (some ⟨t, 0, none⟩), .int .i64 p, .int .i64 m] w (PostT t tv (byL l p m (fun s wh => (1, m)) (fun s wh => s == 0)) (byF l p m (fun s wh => s == 0)) w) := by
  have HB := Lib.hid (by_take t tv l p w.heap.size m (w.alloc (.cells #[.int .i64 m] 3)) (h.below (below_alloc (Below.refl _ _) _)) (Blk.new w _ 3))
  clear h
  go_enter Try.func39, Try.ntmps39
  go_wp2_with fail
  refine HB.out.mono ?_
  rintro e w1 ⟨rfl, hP⟩
  have HP := Lib.hid (post_after (below_alloc (Below.refl _ _) _) hP)
  clear hP
  go_wp2_with fail
  go_ret
  exact ⟨rfl, HP.out⟩
theorem leave_any (t : Nat) (tv : Value) (l : List Pr) (p m : Int) (w : World) (h : Tb w t tv l) : Calls Try.prog 45 #[.pointer (some ⟨t, 0, none⟩), .int .i64 p, .int .i64 m] w (PostT t tv (byL l p m (fun s wh => (1, m)) (leaveB m)) (byF l p m (leaveB m)) w) := by
  have HB := Lib.hid (by_leave t tv l p w.heap.size (w.heap.size + 1) m ((w.alloc (.cells #[.int .i64 m] 3)).alloc (.cells #[.int .i64 2, .int .i64 m] 74)) (h.below (below_alloc (below_alloc (Below.refl _ _) _) _)) ((Blk.new w _ 3).alloc _) (Blk.new' _ _ (by simp)))
  clear h
  go_enter Try.func45, Try.ntmps45
  go_wp2_with fail
  refine HB.out.mono ?_
  rintro e w1 ⟨rfl, hP⟩
  have HP := Lib.hid (post_after (below_alloc (below_alloc (Below.refl _ _) _) _) hP)
  clear hP
  go_wp2_with fail
  go_ret
  exact ⟨rfl, HP.out⟩
end Go.Proofs.Ytcjgdnlacfpioaa.Pstat
