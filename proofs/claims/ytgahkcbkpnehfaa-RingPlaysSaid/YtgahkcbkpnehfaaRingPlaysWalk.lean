/- Chapter 13: the walk of RingPlays. -/
import Derived.Test.YtgahkcbkpnehfaaRingAct
import Derived.Test.YtgahkcbkpnehfaaRingLight
namespace Go.Proofs.Ytgahkcbkpnehfaa.Ring
open Go.RowKit Go.Esc
set_option linter.unusedVariables false

def ActAny (w0 : World) (b g bb size : Nat) (e : Ending) (w' : World) : Prop := e = .returned (.bool true) ∧ ∃ nx row, Both w0 w' b g bb size nx row

theorem act_any (w0 w : World) (b g bb size : Nat) (nx : Int) (row : List Int) (kind x : Int) (u : Value) (l : List Int) (h : Both w0 w b g bb size nx row) (hu : Slw w0 u l) (hl : l.length ≤ 30) :
    Calls Try.prog 36 #[.pointer (some ⟨b, 0, none⟩), .pointer (some ⟨bb, 0, none⟩), .agg #[.int .i64 kind, .int .i64 x, u]] w (ActAny w0 b g bb size) := by
  by_cases h0 : kind = 0 ∨ kind = 1
  · exact (act_put w0 w b g bb size nx row kind x u h h0).mono fun e w' ⟨h1, h2⟩ => ⟨h1, _, _, h2⟩
  by_cases h2 : kind = 2
  · subst h2; exact (act_get w0 w b g bb size nx row x u h).mono fun e w' ⟨h1, h2⟩ => ⟨h1, _, _, h2⟩
  by_cases h3 : kind = 3
  · subst h3; exact (act_grab w0 w b g bb size nx row x u h).mono fun e w' ⟨h1, h2⟩ => ⟨h1, _, _, h2⟩
  by_cases h4 : kind = 4
  · subst h4; exact (act_fill w0 w b g bb size nx row x u l h hu hl).mono fun e w' ⟨h1, h2⟩ => ⟨h1, _, _, h2⟩
  exact (act_drain w0 w b g bb size nx row kind x u h (by omega)).mono fun e w' ⟨h1, h2⟩ => ⟨h1, _, _, h2⟩

theorem Both.next {w0 w : World} {b g bb size : Nat} {nx : Int} {row : List Int} (h : Both w0 w b g bb size nx row) : w.cell? ⟨bb, 1, none⟩ = some (.int .i64 nx) := by
  obtain ⟨cs, v, hr, _⟩ := h.refr
  exact hr.cell1
theorem Both.at2 {w0 w w6 : World} {b g bb size n5 n6 : Nat} {nx : Int} {row : List Int} (h : Both w0 w b g bb size nx row) (e : w6 = (w.drewN n5).drewN n6) : Both w0 w6 b g bb size nx row := by
  rw [e]; exact (h.drewN n5).drewN n6
theorem Both.start {w w1 : World} {m : Nat} (hR : Rw w1 (w.heap.size + 1) w.heap.size m 0 []) (hB : Below w.heap.size w w1) : Both w (w1.alloc (.cells #[.int .i64 m, .int .i64 0, .slice none 0 0] 54)) (w.heap.size + 1) w.heap.size w1.heap.size m 0 [] := by
  have hl := hR.lt
  exact ⟨hR.below (below_alloc (Below.refl _ _) _), ⟨_, .slice none 0 0, ⟨Blk.new _ _ _, rfl, rfl, rfl, Slw.nil _, fun h => absurd rfl h⟩, Off.nil _⟩, by omega, by omega, by omega, Nat.le_refl _, by omega, below_alloc hB _⟩

attribute [local go_sem ↓] Go.wp_at_zero Go.wp_at_succ

set_option maxRecDepth 100000 in
set_option maxHeartbeats 4000000 in
theorem plays_good (w : World) (m : Nat) (hm : ¬ ringBad m) (a : Option Addr) (len cap : Nat) (f : Nat → Nat → Int) (v : Nat → Value) (l : Nat → List Int) (hr : ARow w a len 2 f v l) (hl : len ≤ 100 ∧ ∀ i, i < len → (l i).length ≤ 30) (HLi : Calls Try.prog 21 #[.slice a len cap] w (fun e w' => e = .returned (.bool true) ∧ w = w')) :
    Calls Try.prog 8 #[.int .i64 m, .slice a len cap] w fun e w' => e = .returned (.bool true) ∧ Below w.heap.size w w' := by
  have HN := Lib.hid (new_good m w hm)
  have HL := Lib.hid HLi
  clear HLi
  unfold ringBad at hm
  have hd1 : decide ((m : Int) < 2) = false := by simp; omega
  have hd2 : decide ((256 : Int) < (m : Int)) = false := by simp; omega
  have hd3 : ((m : Int) % 2 == 1) = false := by rw [beq_eq_false_iff_ne]; omega
  have h1 : 2 ≤ m := by omega
  have h2 : m ≤ 256 := by omega
  clear hm
  obtain ⟨hlen, hll⟩ := hl
  have HLL := Lib.hid hll
  have HRow := Lib.hid hr
  clear hll hr
  go_enter Try.func8, Try.ntmps8
  go_wp2_with fail
  refine HL.out.mono ?_
  rintro e w1 ⟨rfl, rfl⟩
  go_wp2_with fail
  refine HN.out.mono ?_
  rintro e w1 ⟨rfl, hR, hB⟩
  have HS := Lib.hid (Both.start hR hB)
  clear hR hB
  go_wp2_with fail
  obtain ⟨bb, hbb⟩ : ∃ bb, bb = w1.heap.size := ⟨_, rfl⟩
  rw [← hbb] at HS ⊢
  obtain ⟨wq, hwq⟩ : ∃ wq, wq = w1.alloc (.cells #[.int .i64 m, .int .i64 0, .slice none 0 0] 54) := ⟨_, rfl⟩
  rw [← hwq] at HS ⊢
  clear hbb hwq
  go_loopw [7] (fun i wr => ∃ (k : Nat) (nx : Int) (row : List Int), k ≤ len ∧ i = .int .i64 k ∧ Both w wr (w.heap.size + 1) w.heap.size bb m nx row) (fun i _ => len - (intOf i).toNat)
  case atStart => exact ⟨0, 0, [], Nat.zero_le _, rfl, HS.out⟩
  case round =>
    obtain ⟨k, nx, row, hk, rfl, hB⟩ := hrel
    clear HS
    by_cases hlt : k < len
    · rcases HRow.out with h0 | ⟨ba, off, rfl, hbl, hml, hcell, hwf, hs⟩
      · omega
      have cA0 := (hB.bel.cell (p := ⟨ba, off + (k * (2 + 1) + 0), none⟩) hbl).trans (hcell k 0 hlt (by omega))
      have cA1 := (hB.bel.cell (p := ⟨ba, off + (k * (2 + 1) + 1), none⟩) hbl).trans (hcell k 1 hlt (by omega))
      obtain ⟨cA2, hsl⟩ := hs k hlt
      replace cA2 := (hB.bel.cell (p := ⟨ba, off + (k * (2 + 1) + 2), none⟩) hbl).trans cA2
      have HLk := Lib.hid (HLL.out k hlt)
      rw [← Nat.add_assoc] at cA1 cA2
      simp only [Nat.reduceAdd, Nat.add_zero] at cA0 cA1 cA2
      have HSl := Lib.hid hsl
      generalize f k 0 = x0 at *
      generalize f k 1 = x1 at *
      generalize v k = u at *
      generalize l k = l0 at *
      have HBd : Hid (Both w wr.drew (w.heap.size + 1) w.heap.size bb m nx row) := hB.drewN 1
      clear hB hs hcell hwf hsl
      have hki : (k : Int) < (len : Int) := by omega
      go_wp2_with fail
      refine wp_region_any (by kernel_rfl) ?_
      try (change wpAny _ _ _ _ _ _ _ (World.drew _))
      refine wpAny_take (i := 0) (v := ?_) rfl (by kernel_rfl) (by kernel_rfl) (by kernel_rfl) (fun _ _ _ h => h) (Or.inl ⟨by kernel_rfl, ?_⟩) ?_
      rotate_left
      · intro w'; go_simp; try (with_reducible rfl)
      refine wpAny_take (i := 1) (v := ?_) rfl (by kernel_rfl) (by kernel_rfl) (by kernel_rfl) (fun _ _ _ h => h) (Or.inl ⟨by kernel_rfl, ?_⟩) ?_
      rotate_left
      · intro w'; go_simp; try (with_reducible rfl)
      refine wpAny_take (i := 2) (v := ?_) rfl (by kernel_rfl) (by kernel_rfl) (by kernel_rfl) (fun _ _ _ h => h) (Or.inl ⟨by kernel_rfl, ?_⟩) ?_
      rotate_left
      · intro w'; go_simp; try (with_reducible rfl)
      refine wpAny_take (i := 3) (v := ?_) rfl (by kernel_rfl) (by kernel_rfl) (by kernel_rfl) (fun _ _ _ h => h) (Or.inl ⟨by kernel_rfl, ?_⟩) ?_
      rotate_left
      · intro w'; go_simp; try (with_reducible rfl)
      refine wpAny_take (i := 4) (v := ?_) rfl (by kernel_rfl) (by kernel_rfl) (by kernel_rfl) (fun _ _ _ h => h) (Or.inl ⟨by kernel_rfl, ?_⟩) ?_
      rotate_left
      · intro w'; go_simp; try (with_reducible rfl)
      refine wpAny_ready (rs := [5]) (by kernel_rfl) (by simp) ?_
      refine AllReady.cons rfl (fun K hK => ?_) AllReady.nil
      go_simp
      refine hK _ _ ?_
      clear hK K
      refine wpAny_ready (rs := [6]) (by kernel_rfl) (by simp) ?_
      refine AllReady.cons rfl (fun K hK => ?_) AllReady.nil
      go_simp
      go_wp2_with (go_at_call 36; (with_reducible refine (act_any w _ _ _ bb m nx row x0 x1 u l0 HBd.out HSl.out HLk.out).mono ?_); rintro e w2 ⟨rfl, nx2, row2, hB2⟩; have HB2 := Lib.hid hB2; have d2 := hB2.next; obtain ⟨r2l, _, _, hnx2, _⟩ := hB2.ring.nums; clear hB2 cA0 cA1 cA2)
      refine wpAny_take (i := 7) (v := ?_) rfl (by kernel_rfl) (by kernel_rfl) (by kernel_rfl) (fun _ _ _ h => h) (Or.inl ⟨by kernel_rfl, ?_⟩) ?_
      rotate_left
      · intro w'; go_simp; try (with_reducible rfl)
      refine wpAny_take (i := 8) (v := ?_) rfl (by kernel_rfl) (by kernel_rfl) (by kernel_rfl) (fun _ _ _ h => h) (Or.inl ⟨by kernel_rfl, ?_⟩) ?_
      rotate_left
      · intro w'; go_simp; try (with_reducible rfl)
      refine wpAny_take (i := 9) (v := ?_) rfl (by kernel_rfl) (by kernel_rfl) (by kernel_rfl) (fun _ _ _ h => h) (Or.inl ⟨by kernel_rfl, ?_⟩) ?_
      rotate_left
      · intro w'; go_simp; try (with_reducible rfl)
      refine wpAny_take (i := 11) (v := ?_) rfl (by kernel_rfl) (by kernel_rfl) (by kernel_rfl) (fun _ _ _ h => h) (Or.inl ⟨by kernel_rfl, ?_⟩) ?_
      rotate_left
      · intro w'; go_simp; try (with_reducible rfl)
      refine wpAny_ready (rs := [10]) (by kernel_rfl) (by simp) ?_
      refine AllReady.cons rfl (fun K hK => ?_) AllReady.nil
      go_simp
      go_wp2_with (go_at_call 28; (with_reducible refine (list_any _ _ _ _ _ _ HB2.out.ring).mono ?_); rintro e w3 ⟨v3, rfl, ho3, hb3⟩; have HB3 := Lib.hid (HB2.out.below hb3); have HO3 := Lib.hid ho3; have d3 := HB3.out.next; clear ho3 hb3)
      refine wpAny_ready (rs := [12]) (by kernel_rfl) (by simp) ?_
      refine AllReady.cons rfl (fun K hK => ?_) AllReady.nil
      go_simp
      go_wp2_with (go_at_call 37; obtain ⟨cs3, vv3, hrr3, _⟩ := HB3.out.refr; (with_reducible refine (rlist_any bb 0 cs3 54 m nx2 vv3 row2 _ hrr3 hnx2 (by omega)).mono ?_); rintro e w4 ⟨v4, rfl, ho4, hb4⟩; have HB4 := Lib.hid (HB3.out.below hb4); have HO4 := Lib.hid (HO3.out.below hb4); have HRl := Lib.hid ho4; have d4 := HB4.out.next; clear ho4 hb4 hrr3)
      refine wpAny_ready (rs := [13]) (by kernel_rfl) (by simp) ?_
      refine AllReady.cons rfl (fun K hK => ?_) AllReady.nil
      go_simp
      go_wp2_with (go_at_call 20; (with_reducible refine (Ref.same_yes _ _ _ _ (Sl.ofOwn HO4.out) (Sl.ofOwn HRl.out)).mono ?_); rintro e w5 ⟨rfl, n5, rfl⟩; have d5 : (w4.drewN n5).cell? ⟨bb, 1, none⟩ = some (.int .i64 nx2) := (HB4.out.drewN n5).next)
      refine wpAny_take (i := 14) (v := ?_) rfl (by kernel_rfl) (by kernel_rfl) (by kernel_rfl) (fun _ _ _ h => h) (Or.inl ⟨by kernel_rfl, ?_⟩) ?_
      rotate_left
      · intro w'; go_simp; try (with_reducible rfl)
      refine wpAny_take (i := 15) (v := ?_) rfl (by kernel_rfl) (by kernel_rfl) (by kernel_rfl) (fun _ _ _ h => h) (Or.inl ⟨by kernel_rfl, ?_⟩) ?_
      rotate_left
      · intro w'; go_simp; try (with_reducible rfl)
      refine wpAny_take (i := 16) (v := ?_) rfl (by kernel_rfl) (by kernel_rfl) (by kernel_rfl) (fun _ _ _ h => h) (Or.inl ⟨by kernel_rfl, ?_⟩) ?_
      rotate_left
      · intro w'; go_simp; try (with_reducible rfl)
      refine wpAny_take (i := 17) (v := ?_) rfl (by kernel_rfl) (by kernel_rfl) (by kernel_rfl) (fun _ _ _ h => h) (Or.inl ⟨by kernel_rfl, ?_⟩) ?_
      rotate_left
      · intro w'; go_simp; try (with_reducible rfl)
      refine wpAny_take (i := 19) (v := ?_) rfl (by kernel_rfl) (by kernel_rfl) (by kernel_rfl) (fun _ _ _ h => h) (Or.inl ⟨by kernel_rfl, ?_⟩) ?_
      rotate_left
      · intro w'; go_simp; try (with_reducible rfl)
      refine wpAny_ready (rs := [18]) (by kernel_rfl) (by simp) ?_
      refine AllReady.cons rfl (fun K hK => ?_) AllReady.nil
      go_simp
      go_wp2_with (go_at_call 38; (with_reducible refine (len_w _ _ _ _ _ _ (HB4.out.drewN n5).ring).mono ?_); rintro e w6 ⟨rfl, n6, hw6⟩; have HB6 := Lib.hid (Both.at2 HB4.out hw6); have d6 := HB6.out.next; clear hw6)
      refine wpAny_ready (rs := [20]) (by kernel_rfl) (by simp) ?_
      refine AllReady.cons rfl (fun K hK => ?_) AllReady.nil
      go_simp
      go_wp2_with (go_at_call 37; obtain ⟨cs6, v6, hrr6, _⟩ := HB6.out.refr; (with_reducible refine (rlist_any bb 0 cs6 54 m nx2 v6 row2 _ hrr6 hnx2 (by omega)).mono ?_); rintro e w7 ⟨v7, rfl, ho7, hb7⟩; have HB7 := Lib.hid (HB6.out.below hb7); have d7 := HB7.out.next; obtain ⟨a7, c7, rfl⟩ := Glob.own_len ho7; clear ho7 hb7 hrr6)
      refine wpAny_take (i := 21) (v := ?_) rfl (by kernel_rfl) (by kernel_rfl) (by kernel_rfl) (fun _ _ _ h => h) (Or.inl ⟨by kernel_rfl, ?_⟩) ?_
      rotate_left
      · intro w'; go_simp; try (with_reducible rfl)
      refine wpAny_take (i := 22) (v := ?_) rfl (by kernel_rfl) (by kernel_rfl) (by kernel_rfl) (fun _ _ _ h => h) (Or.inl ⟨by kernel_rfl, ?_⟩) ?_
      rotate_left
      · intro w'; go_simp; try (with_reducible rfl)
      refine wpAny_take (i := 23) (v := ?_) rfl (by kernel_rfl) (by kernel_rfl) (by kernel_rfl) (fun _ _ _ h => h) (Or.inl ⟨by kernel_rfl, ?_⟩) ?_
      rotate_left
      · intro w'; go_simp; try (with_reducible rfl)
      refine wpAny_take (i := 24) (v := ?_) rfl (by kernel_rfl) (by kernel_rfl) (by kernel_rfl) (fun _ _ _ h => h) (Or.inl ⟨by kernel_rfl, ?_⟩) ?_
      rotate_left
      · intro w'; go_simp; try (with_reducible rfl)
      refine wpAny_take (i := 25) (v := ?_) rfl (by kernel_rfl) (by kernel_rfl) (by kernel_rfl) (fun _ _ _ h => h) (Or.inl ⟨by kernel_rfl, ?_⟩) ?_
      rotate_left
      · intro w'; go_simp; try (with_reducible rfl)
      refine wpAny_take (i := 27) (v := ?_) rfl (by kernel_rfl) (by kernel_rfl) (by kernel_rfl) (fun _ _ _ h => h) (Or.inl ⟨by kernel_rfl, ?_⟩) ?_
      rotate_left
      · intro w'; go_simp; try (with_reducible rfl)
      refine wpAny_take (i := 28) (v := ?_) rfl (by kernel_rfl) (by kernel_rfl) (by kernel_rfl) (fun _ _ _ h => h) (Or.inl ⟨by kernel_rfl, ?_⟩) ?_
      rotate_left
      · intro w'; go_simp; try (with_reducible rfl)
      refine wpAny_take (i := 29) (v := ?_) rfl (by kernel_rfl) (by kernel_rfl) (by kernel_rfl) (fun _ _ _ h => h) (Or.inl ⟨by kernel_rfl, ?_⟩) ?_
      rotate_left
      · intro w'; go_simp; try (with_reducible rfl)
      refine wpAny_ready (rs := [26, 30]) (by kernel_rfl) (by simp) ?_
      refine AllReady.cons rfl (fun K hK => ?_) (AllReady.cons rfl (fun K hK => ?_) AllReady.nil)
      · go_simp
        go_wp2_with (go_at_call 39; (with_reducible refine (next_w _ _ _ _ _ _ HB7.out.ring).mono ?_); rintro e w8 ⟨rfl, rfl⟩)
        refine wpAny_ready (rs := [30]) (by kernel_rfl) (by simp) ?_
        refine AllReady.cons rfl (fun K hK => ?_) AllReady.nil
        go_simp
        refine hK _ _ ?_
        clear hK K
        refine wpAny_take (i := 31) (v := ?_) rfl (by kernel_rfl) (by kernel_rfl) (by kernel_rfl) (fun _ _ _ h => h) (Or.inl ⟨by kernel_rfl, ?_⟩) ?_
        rotate_left
        · intro w'; go_simp; try (with_reducible rfl)
        refine wpAny_take (i := 32) (v := ?_) rfl (by kernel_rfl) (by kernel_rfl) (by kernel_rfl) (fun _ _ _ h => h) (Or.inl ⟨by kernel_rfl, ?_⟩) ?_
        rotate_left
        · intro w'; go_simp; try (with_reducible rfl)
        refine wpAny_take (i := 33) (v := ?_) rfl (by kernel_rfl) (by kernel_rfl) (by kernel_rfl) (fun _ _ _ h => h) (Or.inl ⟨by kernel_rfl, ?_⟩) ?_
        rotate_left
        · intro w'; go_simp; try (with_reducible rfl)
        refine wpAny_take (i := 34) (v := ?_) rfl (by kernel_rfl) (by kernel_rfl) (by kernel_rfl) (fun _ _ _ h => h) (Or.inl ⟨by kernel_rfl, ?_⟩) ?_
        rotate_left
        · intro w'; go_simp; try (with_reducible rfl)
        refine wpAny_take (i := 36) (v := ?_) rfl (by kernel_rfl) (by kernel_rfl) (by kernel_rfl) (fun _ _ _ h => h) (Or.inl ⟨by kernel_rfl, ?_⟩) ?_
        rotate_left
        · intro w'; go_simp; try (with_reducible rfl)
        refine wpAny_ready (rs := [35]) (by kernel_rfl) (by simp) ?_
        refine AllReady.cons rfl (fun K hK => ?_) AllReady.nil
        go_simp
        go_wp2_with (go_at_call 40; (with_reducible refine (size_w _ _ _ _ _ _ HB7.out.ring).mono ?_); rintro e w8 ⟨rfl, rfl⟩)
        refine wpAny_take (i := 37) (v := ?_) rfl (by kernel_rfl) (by kernel_rfl) (by kernel_rfl) (fun _ _ _ h => h) (Or.inl ⟨by kernel_rfl, ?_⟩) ?_
        rotate_left
        · intro w'; go_simp; try (with_reducible rfl)
        refine wpAny_take (i := 38) (v := ?_) rfl (by kernel_rfl) (by kernel_rfl) (by kernel_rfl) (fun _ _ _ h => h) (Or.inl ⟨by kernel_rfl, ?_⟩) ?_
        rotate_left
        · intro w'; go_simp; try (with_reducible rfl)
        refine wpAny_done (by kernel_rfl) ?_ _
        go_wp2_with fail
        go_roundw
        case rel => exact ⟨k + 1, _, _, by omega, by go_num, HB7.out⟩
        case measure => simp [intOf]; omega
      · go_simp
        refine hK _ _ ?_
        clear hK K
        refine wpAny_ready (rs := [26]) (by kernel_rfl) (by simp) ?_
        refine AllReady.cons rfl (fun K hK => ?_) AllReady.nil
        go_simp
        go_wp2_with (go_at_call 39; (with_reducible refine (next_w _ _ _ _ _ _ HB7.out.ring).mono ?_); rintro e w8 ⟨rfl, rfl⟩)
        refine wpAny_take (i := 31) (v := ?_) rfl (by kernel_rfl) (by kernel_rfl) (by kernel_rfl) (fun _ _ _ h => h) (Or.inl ⟨by kernel_rfl, ?_⟩) ?_
        rotate_left
        · intro w'; go_simp; try (with_reducible rfl)
        refine wpAny_take (i := 32) (v := ?_) rfl (by kernel_rfl) (by kernel_rfl) (by kernel_rfl) (fun _ _ _ h => h) (Or.inl ⟨by kernel_rfl, ?_⟩) ?_
        rotate_left
        · intro w'; go_simp; try (with_reducible rfl)
        refine wpAny_take (i := 33) (v := ?_) rfl (by kernel_rfl) (by kernel_rfl) (by kernel_rfl) (fun _ _ _ h => h) (Or.inl ⟨by kernel_rfl, ?_⟩) ?_
        rotate_left
        · intro w'; go_simp; try (with_reducible rfl)
        refine wpAny_take (i := 34) (v := ?_) rfl (by kernel_rfl) (by kernel_rfl) (by kernel_rfl) (fun _ _ _ h => h) (Or.inl ⟨by kernel_rfl, ?_⟩) ?_
        rotate_left
        · intro w'; go_simp; try (with_reducible rfl)
        refine wpAny_take (i := 36) (v := ?_) rfl (by kernel_rfl) (by kernel_rfl) (by kernel_rfl) (fun _ _ _ h => h) (Or.inl ⟨by kernel_rfl, ?_⟩) ?_
        rotate_left
        · intro w'; go_simp; try (with_reducible rfl)
        refine wpAny_ready (rs := [35]) (by kernel_rfl) (by simp) ?_
        refine AllReady.cons rfl (fun K hK => ?_) AllReady.nil
        go_simp
        go_wp2_with (go_at_call 40; (with_reducible refine (size_w _ _ _ _ _ _ HB7.out.ring).mono ?_); rintro e w8 ⟨rfl, rfl⟩)
        refine wpAny_take (i := 37) (v := ?_) rfl (by kernel_rfl) (by kernel_rfl) (by kernel_rfl) (fun _ _ _ h => h) (Or.inl ⟨by kernel_rfl, ?_⟩) ?_
        rotate_left
        · intro w'; go_simp; try (with_reducible rfl)
        refine wpAny_take (i := 38) (v := ?_) rfl (by kernel_rfl) (by kernel_rfl) (by kernel_rfl) (fun _ _ _ h => h) (Or.inl ⟨by kernel_rfl, ?_⟩) ?_
        rotate_left
        · intro w'; go_simp; try (with_reducible rfl)
        refine wpAny_done (by kernel_rfl) ?_ _
        go_wp2_with fail
        go_roundw
        case rel => exact ⟨k + 1, _, _, by omega, by go_num, HB7.out⟩
        case measure => simp [intOf]; omega
    · have HBel := Lib.hid hB.bel
      clear hB
      go_wp2_with (go_at_call 22; refine (alive_any _).mono ?_; rintro e w' ⟨rfl, hb⟩)
      go_ret
      exact ⟨rfl, below_below HBel.out hb⟩

set_option maxHeartbeats 1000000 in
theorem plays (w : World) (n : Int) (_ : (Lit.int .i64 n).wf = true) (a : Option Addr) (len cap : Nat) (f : Nat → Nat → Int) (v : Nat → Value) (l : Nat → List Int) (hr : ARow w a len 2 f v l) :
    Calls Try.prog 8 #[.int .i64 n, .slice a len cap] w fun e w' => e = .returned (.bool true) ∧ Below w.heap.size w w' := by
  by_cases hc : len ≤ 100 ∧ ∀ i, i < len → (l i).length ≤ 30
  · have HL := Lib.hid (light_yes w a len cap f v l hr hc)
    by_cases hm : ringBad n
    · have HN := Lib.hid (new_bad n w hm)
      unfold ringBad at hm
      clear hr hc
      by_cases h1 : n < 2
      · clear hm
        go_enter Try.func8, Try.ntmps8
        go_wp2_with (first | (go_at_call 22; refine (alive_any _).mono ?_; rintro e w' ⟨rfl, hb⟩) | (go_at_call 21; refine HL.out.mono ?_; rintro e w' ⟨rfl, rfl⟩) | (go_at_call 23; refine HN.out.mono ?_; rintro e w' ⟨rfl, rfl⟩))
        go_ret
        exact ⟨rfl, hb⟩
      · have hd1 : decide (n < 2) = false := by simp; omega
        by_cases h2 : 256 < n
        · clear hm
          go_enter Try.func8, Try.ntmps8
          go_wp2_with (first | (go_at_call 22; refine (alive_any _).mono ?_; rintro e w' ⟨rfl, hb⟩) | (go_at_call 21; refine HL.out.mono ?_; rintro e w' ⟨rfl, rfl⟩) | (go_at_call 23; refine HN.out.mono ?_; rintro e w' ⟨rfl, rfl⟩))
          go_ret
          exact ⟨rfl, hb⟩
        · have hd2 : decide (256 < n) = false := by simp; omega
          have hd3 : (n % 2 == 1) = true := by rw [beq_iff_eq]; omega
          clear hm
          go_enter Try.func8, Try.ntmps8
          go_wp2_with (first | (go_at_call 22; refine (alive_any _).mono ?_; rintro e w' ⟨rfl, hb⟩) | (go_at_call 21; refine HL.out.mono ?_; rintro e w' ⟨rfl, rfl⟩) | (go_at_call 23; refine HN.out.mono ?_; rintro e w' ⟨rfl, rfl⟩))
          go_ret
          exact ⟨rfl, hb⟩
    · obtain ⟨m, rfl⟩ := Int.eq_ofNat_of_zero_le (show 0 ≤ n by unfold ringBad at hm; omega)
      exact plays_good w m hm a len cap f v l hr hc HL.out
  · have HL := Lib.hid (light_no w a len cap f v l hr hc)
    clear hr hc
    go_enter Try.func8, Try.ntmps8
    go_wp2_with (first | (go_at_call 22; refine (alive_any _).mono ?_; rintro e w' ⟨rfl, hb⟩) | (go_at_call 21; refine HL.out.mono ?_; rintro e w' ⟨rfl, rfl⟩))
    go_ret
    exact ⟨rfl, hb⟩

end Go.Proofs.Ytgahkcbkpnehfaa.Ring
