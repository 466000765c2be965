/- Chapter 23: the walk of ProcsPlays. -/
import Derived.Test.YtgahkcbkpnehfaaProcsPlaysA
namespace Go.Proofs.Ytgahkcbkpnehfaa.Procs
open Go.RowKit Go.Esc
open Go.Proofs.Ytgahkcbkpnehfaa.Ring (Rw Sg allL RefR Turned)
open Go.Proofs.Ytgahkcbkpnehfaa.Glob (Gr Queue)
set_option linter.unusedVariables false

set_option maxHeartbeats 2000000 in
theorem plays_dark (w : World) (n : Int) (a : Option Addr) (len cap : Nat) (h : ¬ (len ≤ 60 ∧ (n ≤ 20 ∨ 256 < n))) :
    Calls Try.prog 12 #[.int .i64 n, .slice a len cap] w fun e w' => e = .returned (.bool true) ∧ Below w.heap.size w w' := by
  have HL := Lib.hid (light_any n a len cap w)
  rw [decide_eq_false h] at HL
  clear h
  go_enter Try.func12, Try.ntmps12
  go_wp2_with fail
  refine HL.out.mono ?_
  rintro e w1 ⟨rfl, rfl⟩
  go_wp2_with fail
  refine (alive_any _).mono ?_
  rintro e w1 ⟨rfl, hB⟩
  have HB := Lib.hid hB
  clear hB
  go_wp2_with fail
  go_ret
  exact ⟨rfl, HB.out⟩

set_option maxHeartbeats 2000000 in
theorem plays_bad (w : World) (n : Int) (a : Option Addr) (len cap : Nat) (h : len ≤ 60 ∧ (n ≤ 20 ∨ 256 < n)) (hn : ¬ (1 ≤ n ∧ n ≤ 256)) :
    Calls Try.prog 12 #[.int .i64 n, .slice a len cap] w fun e w' => e = .returned (.bool true) ∧ Below w.heap.size w w' := by
  have HL := Lib.hid (light_any n a len cap w)
  rw [decide_eq_true h] at HL
  have HN := Lib.hid (new_bad n w hn)
  by_cases h1 : n < 1
  · clear h hn
    go_enter Try.func12, Try.ntmps12
    go_wp2_with fail
    refine HL.out.mono ?_
    rintro e w1 ⟨rfl, rfl⟩
    go_wp2_with fail
    refine HN.out.mono ?_
    rintro e w1 ⟨rfl, rfl⟩
    go_wp2_with fail
    refine (alive_any _).mono ?_
    rintro e w1 ⟨rfl, hB⟩
    have HB := Lib.hid hB
    clear hB
    go_wp2_with fail
    go_ret
    exact ⟨rfl, HB.out⟩
  · have d1 : decide (n < 1) = false := by simpa using h1
    have h2 : 256 < n := by omega
    clear h hn
    go_enter Try.func12, Try.ntmps12
    go_wp2_with fail
    refine HL.out.mono ?_
    rintro e w1 ⟨rfl, rfl⟩
    go_wp2_with fail
    refine HN.out.mono ?_
    rintro e w1 ⟨rfl, rfl⟩
    go_wp2_with fail
    refine (alive_any _).mono ?_
    rintro e w1 ⟨rfl, hB⟩
    have HB := Lib.hid hB
    clear hB
    go_wp2_with fail
    go_ret
    exact ⟨rfl, HB.out⟩

set_option maxRecDepth 100000 in
set_option maxHeartbeats 16000000 in
theorem plays_good (w : World) (n : Nat) (h1 : 1 ≤ n) (h2 : n ≤ 20) (a : Option Addr) (len cap : Nat) (f : Nat → Nat → Int) (hr : Row w a len 3 f) (hlen : len ≤ 60) :
    Calls Try.prog 12 #[.int .i64 n, .slice a len cap] w fun e w' => e = .returned (.bool true) ∧ Below w.heap.size w w' := by
  have HL := Lib.hid (light_any n a len cap w)
  rw [decide_eq_true ⟨hlen, .inl (by omega)⟩] at HL
  have HN := Lib.hid (new_good n w h1 (by omega))
  have HRow := Lib.hid hr
  have d1 : decide ((n : Int) < 1) = false := by simp; omega
  have d2 : decide ((256 : Int) < (n : Int)) = false := by simp; omega
  clear hr
  go_enter Try.func12, Try.ntmps12
  go_wp2_with fail
  refine HL.out.mono ?_
  rintro e w1 ⟨rfl, rfl⟩
  go_wp2_with fail
  refine HN.out.mono ?_
  rintro e w1 ⟨rfl, rv, R0, hP, h0, hB, hF⟩
  have HQn := Lib.hid (new_q _ _ _ _ _ hP)
  have HB1 := Lib.hid hB
  have HF := Lib.hid hF
  have H0 := Lib.hid h0
  clear hP h0 hB hF
  go_wp2_with fail
  refine HQn.out.mono ?_
  rintro e w2 ⟨rfl, hPQ, hB2⟩
  have HPQ := Lib.hid hPQ
  have HB2 := Lib.hid hB2
  have HDz := Lib.hid (Dz.start w2)
  have HSt : Hid (∀ wr g cap, Dz w2 w2.heap.size (.slice (some ⟨g, 0, none⟩) n cap) n wr → Bth w wr w.heap.size w1.heap.size w2.heap.size n R0 []) := fun wr g cap hd => Bt.start HPQ.out HB1.out HB2.out HF.out (Nat.le_refl _) H0.out hd
  clear hPQ hB2 HQn
  go_wp2_with fail
  obtain ⟨w3, hw3⟩ : ∃ w3, w3 = w2.alloc (.cells #[.slice none 0 0, .slice none 0 0] 72) := ⟨_, rfl⟩
  rw [← hw3] at HDz ⊢
  clear hw3 HPQ HB1 HB2 HF H0
  generalize w2.heap.size = d at *
  generalize w1.heap.size = q at *
  obtain ⟨p, HPp⟩ : ∃ p, Hid (w.heap.size = p) := ⟨_, rfl⟩
  have HSt1 : Hid (∀ wr g cap, Dz w2 d (.slice (some ⟨g, 0, none⟩) n cap) n wr → Bth w wr p q d n R0 []) := by rw [← HPp.out]; exact HSt.out
  rw [show (⟨w.heap.size, 0, none⟩ : Addr) = ⟨p, 0, none⟩ by rw [HPp.out]]
  clear HPp HSt
  go_loopw [8] (fun i wr => ∃ (k : Nat) (sv : Value), k ≤ n ∧ i = .int .i64 k ∧ Dz w2 d sv k wr) (fun i _ => n - (intOf i).toNat)
  case atStart => exact ⟨0, _, Nat.zero_le _, rfl, HDz.out⟩
  case round =>
    obtain ⟨k, sv, hk, rfl, hD⟩ := hrel
    have c0 := hD.blk.cell 0
    have hdl := hD.blk.lt
    simp only [List.getElem?_toArray, List.getElem?_cons_zero] at c0
    have HD := Lib.hid hD
    clear hD HDz
    by_cases hlt : k < n
    · have hd : decide (k < n) = true := by simpa using hlt
      have hd' : decide ((k : Int) < (n : Int)) = true := by simp; omega
      go_wp2_with (at_builtin; refine appV Try.underlying70 info54 rfl (by decide) (by decide) (d + 1) _ rfl _ _ rfl sv k (xs Z ZV k) ⟨wr.heap.size, 0, none⟩ 1 [.int .i64 256, .int .i64 0, .slice none 0 0] rfl rfl (.inl (rowv_below HD.out.own (below_alloc (Below.refl _ _) _))) rfl (new3 wr _ _ _ 54) (one3 _ _ _ _) (by simp; omega) (by omega) ?_; intro v' w' hA; obtain ⟨g', cap', rfl⟩ := hA.some; obtain ⟨hb', hD'⟩ := HD.out.more hA; have q0 := hb'.cell 0; have qf := hb'.free 0; have hql := hb'.lt; simp only [List.getElem?_toArray, List.getElem?_cons_zero] at q0; have HD' := Lib.hid hD'; clear hA hb' hD')
      go_roundw
      case rel => exact ⟨k + 1, _, by omega, by go_num, HD'.out⟩
      case measure => simp [intOf]; omega
    · have hd : decide (k < n) = false := by simpa using hlt
      have hd' : decide ((k : Int) < (n : Int)) = false := by simp; omega
      obtain rfl : k = n := by omega
      obtain ⟨gg, cc, rfl⟩ : ∃ g cap, sv = .slice (some ⟨g, 0, none⟩) k cap := by
        rcases rowv_open HD.out.own with ⟨_, h0⟩ | ⟨g, cap, h0, _⟩
        · omega
        · exact ⟨g, cap, h0⟩
      have HB0 := Lib.hid (HSt1.out _ _ _ HD.out)
      clear HD HSt1 c0 hdl
      go_wp2_with fail
      go_loopw [9] (fun i wr => ∃ (k n2 : Nat) (R2 : Nat → Rn) (L2 : List Int), k ≤ len ∧ i = .int .i64 k ∧ 1 ≤ n2 ∧ n2 ≤ 20 ∧ L2.length ≤ 5140 * k ∧ Bth w wr p q d n2 R2 L2) (fun i _ => len - (intOf i).toNat)
      case atStart => exact ⟨0, k, R0, [], Nat.zero_le _, rfl, h1, h2, by simp, HB0.out⟩
      case round =>
        obtain ⟨k, n1, R1, L1, hk1, rfl, hn11, hn12, hL1, hB1⟩ := hrel
        have HB1 := Lib.hid hB1
        clear hB1 HB0
        by_cases hlt : k < len
        · rcases HRow.out with h0 | ⟨ba, off, rfl, hbl, hml, hcell, hwf⟩
          · omega
          have hBel : Below w.heap.size w wr := by obtain ⟨_, _, _, _, _, _, _, hb⟩ := HB1.out; exact hb.bel
          have cA0 := (hBel.cell (p := ⟨ba, off + (k * 3 + 0), none⟩) hbl).trans (hcell k 0 hlt (by omega))
          have cA1 := (hBel.cell (p := ⟨ba, off + (k * 3 + 1), none⟩) hbl).trans (hcell k 1 hlt (by omega))
          have cA2 := (hBel.cell (p := ⟨ba, off + (k * 3 + 2), none⟩) hbl).trans (hcell k 2 hlt (by omega))
          rw [← Nat.add_assoc] at cA1 cA2
          simp only [Nat.add_zero] at cA0
          generalize f k 0 = kind at *
          generalize f k 1 = pp at *
          generalize f k 2 = x at *
          clear hcell hwf hBel
          have hki : (k : Int) < (len : Int) := by omega
          by_cases hskip : kind = 4 ∧ 20 < pp ∧ pp ≤ 256
          · obtain ⟨rfl, s2, s3⟩ := hskip
            go_wp2_with fail
            go_roundw
            case rel => exact ⟨k + 1, n1, R1, L1, by omega, by go_num, hn11, hn12, by omega, HB1.out⟩
            case measure => simp [intOf]; omega
          have HAct := Lib.hid (act_any w wr.drew p q d n1 R1 L1 kind pp x (HB1.out.below (below_drewN (Below.refl _ _) 1)) hn11 hn12 (by omega) hskip)
          have hcase : (kind == 4) = false ∨ ((kind == 4) = true ∧ decide (20 < pp) = false) ∨ ((kind == 4) = true ∧ decide (20 < pp) = true ∧ decide (pp ≤ 256) = false) := by
            by_cases e : kind = 4
            · by_cases e2 : 20 < pp
              · right; right; refine ⟨by simpa using e, by simpa using e2, ?_⟩
                simp; omega
              · right; left; exact ⟨by simpa using e, by simpa using e2⟩
            · left; rw [beq_eq_false_iff_ne]; exact e
          clear hskip
          rcases hcase with k4 | ⟨k4, k20⟩ | ⟨k4, k20, k256⟩
          all_goals
            go_wp2_with fail
            refine wp_region_any (by kernel_rfl) ?_
            try (change wpAny _ _ _ _ _ _ _ (World.drew _))
            refine wpAny_take (i := 0) (v := ?_) rfl (by kernel_rfl) (by kernel_rfl) (by kernel_rfl) (fun _ _ _ h => h) (Or.inl ⟨by kernel_rfl, ?_⟩) ?_
            rotate_left
            · intro w'; go_simp; try (with_reducible rfl)
            refine wpAny_take (i := 1) (v := ?_) rfl (by kernel_rfl) (by kernel_rfl) (by kernel_rfl) (fun _ _ _ h => h) (Or.inl ⟨by kernel_rfl, ?_⟩) ?_
            rotate_left
            · intro w'; go_simp; try (with_reducible rfl)
            refine wpAny_take (i := 2) (v := ?_) rfl (by kernel_rfl) (by kernel_rfl) (by kernel_rfl) (fun _ _ _ h => h) (Or.inl ⟨by kernel_rfl, ?_⟩) ?_
            rotate_left
            · intro w'; go_simp; try (with_reducible rfl)
            refine wpAny_take (i := 3) (v := ?_) rfl (by kernel_rfl) (by kernel_rfl) (by kernel_rfl) (fun _ _ _ h => h) (Or.inl ⟨by kernel_rfl, ?_⟩) ?_
            rotate_left
            · intro w'; go_simp; try (with_reducible rfl)
            refine wpAny_take (i := 4) (v := ?_) rfl (by kernel_rfl) (by kernel_rfl) (by kernel_rfl) (fun _ _ _ h => h) (Or.inl ⟨by kernel_rfl, ?_⟩) ?_
            rotate_left
            · intro w'; go_simp; try (with_reducible rfl)
            refine wpAny_take (i := 5) (v := ?_) rfl (by kernel_rfl) (by kernel_rfl) (by kernel_rfl) (fun _ _ _ h => h) (Or.inl ⟨by kernel_rfl, ?_⟩) ?_
            rotate_left
            · intro w'; go_simp; try (with_reducible rfl)
            refine wpAny_ready (rs := [6]) (by kernel_rfl) (by simp) ?_
            refine AllReady.cons rfl (fun K hK => ?_) (AllReady.nil)
            go_simp
            refine hK _ _ ?_
            clear hK K
            refine wpAny_ready (rs := [7]) (by kernel_rfl) (by simp) ?_
            refine AllReady.cons rfl (fun K hK => ?_) (AllReady.nil)
            go_simp
            go_wp2_with (go_at_call 53; (with_reducible refine HAct.out.mono ?_); rintro e w2 ⟨rfl, n2, R2, L2, hn21, hn22, hL2, rv2, S2, g2, cap2, cs2, vs2, gv2, hB2⟩; have HB2 := Lib.hid hB2; have e0 := hB2.dp.blk.cell 0; simp only [List.getElem?_toArray, List.getElem?_cons_zero] at e0; have hbne : ((n2 : Int) != (n2 : Int)) = false := (by simp); clear hB2 cA0 cA1 cA2)
            refine wpAny_take (i := 8) (v := ?_) rfl (by kernel_rfl) (by kernel_rfl) (by kernel_rfl) (fun _ _ _ h => h) (Or.inl ⟨by kernel_rfl, ?_⟩) ?_
            rotate_left
            · intro w'; go_simp; try (with_reducible rfl)
            refine wpAny_take (i := 9) (v := ?_) rfl (by kernel_rfl) (by kernel_rfl) (by kernel_rfl) (fun _ _ _ h => h) (Or.inl ⟨by kernel_rfl, ?_⟩) ?_
            rotate_left
            · intro w'; go_simp; try (with_reducible rfl)
            refine wpAny_take (i := 10) (v := ?_) rfl (by kernel_rfl) (by kernel_rfl) (by kernel_rfl) (fun _ _ _ h => h) (Or.inl ⟨by kernel_rfl, ?_⟩) ?_
            rotate_left
            · intro w'; go_simp; try (with_reducible rfl)
            refine wpAny_take (i := 12) (v := ?_) rfl (by kernel_rfl) (by kernel_rfl) (by kernel_rfl) (fun _ _ _ h => h) (Or.inl ⟨by kernel_rfl, ?_⟩) ?_
            rotate_left
            · intro w'; go_simp; try (with_reducible rfl)
            refine wpAny_take (i := 13) (v := ?_) rfl (by kernel_rfl) (by kernel_rfl) (by kernel_rfl) (fun _ _ _ h => h) (Or.inl ⟨by kernel_rfl, ?_⟩) ?_
            rotate_left
            · intro w'; go_simp; try (with_reducible rfl)
            refine wpAny_take (i := 14) (v := ?_) rfl (by kernel_rfl) (by kernel_rfl) (by kernel_rfl) (fun _ _ _ h => h) (Or.inl ⟨by kernel_rfl, ?_⟩) ?_
            rotate_left
            · intro w'; go_simp; try (with_reducible rfl)
            refine wpAny_ready (rs := [11, 15]) (by kernel_rfl) (by simp) ?_
            refine AllReady.cons rfl (fun K hK => ?_) (AllReady.cons rfl (fun K hK => ?_) (AllReady.nil))
            · go_simp
              go_wp2_with (go_at_call 51; (with_reducible refine (len_any p rv2 n2 R2 w2 HB2.out.pq.prc).mono ?_); rintro e w2' ⟨rfl, rfl⟩)
              refine wpAny_ready (rs := [15]) (by kernel_rfl) (by simp) ?_
              refine AllReady.cons rfl (fun K hK => ?_) (AllReady.nil)
              go_simp
              refine hK _ _ ?_
              clear hK K
              refine wpAny_take (i := 16) (v := ?_) rfl (by kernel_rfl) (by kernel_rfl) (by kernel_rfl) (fun _ _ _ h => h) (Or.inl ⟨by kernel_rfl, ?_⟩) ?_
              rotate_left
              · intro w'; go_simp; try (with_reducible rfl)
              refine wpAny_take (i := 17) (v := ?_) rfl (by kernel_rfl) (by kernel_rfl) (by kernel_rfl) (fun _ _ _ h => h) (Or.inl ⟨by kernel_rfl, ?_⟩) ?_
              rotate_left
              · intro w'; go_simp; try (with_reducible rfl)
              refine wpAny_take (i := 18) (v := ?_) rfl (by kernel_rfl) (by kernel_rfl) (by kernel_rfl) (fun _ _ _ h => h) (Or.inl ⟨by kernel_rfl, ?_⟩) ?_
              rotate_left
              · intro w'; go_simp; try (with_reducible rfl)
              refine wpAny_take (i := 19) (v := ?_) rfl (by kernel_rfl) (by kernel_rfl) (by kernel_rfl) (fun _ _ _ h => h) (Or.inl ⟨by kernel_rfl, ?_⟩) ?_
              rotate_left
              · intro w'; go_simp; try (with_reducible rfl)
              refine wpAny_take (i := 20) (v := ?_) rfl (by kernel_rfl) (by kernel_rfl) (by kernel_rfl) (fun _ _ _ h => h) (Or.inl ⟨by kernel_rfl, ?_⟩) ?_
              rotate_left
              · intro w'; go_simp; try (with_reducible rfl)
              refine wpAny_take (i := 22) (v := ?_) rfl (by kernel_rfl) (by kernel_rfl) (by kernel_rfl) (fun _ _ _ h => h) (Or.inl ⟨by kernel_rfl, ?_⟩) ?_
              rotate_left
              · intro w'; go_simp; try (with_reducible rfl)
              refine wpAny_ready (rs := [21]) (by kernel_rfl) (by simp) ?_
              refine AllReady.cons rfl (fun K hK => ?_) (AllReady.nil)
              go_simp
              go_wp2_with (go_at_call 45; (with_reducible refine (queues_any p rv2 n2 R2 w2 HB2.out.pq.prc (by omega)).mono ?_); rintro e w3 ⟨v3, rfl, hv3, hb3⟩; have HB3 := Lib.hid (HB2.out.below hb3); have HV3 := Lib.hid hv3; clear hv3 hb3 e0)
              refine wpAny_ready (rs := [23]) (by kernel_rfl) (by simp) ?_
              refine AllReady.cons rfl (fun K hK => ?_) (AllReady.nil)
              go_simp
              go_wp2_with (go_at_call 54; (with_reducible refine (dqueues_any d g2 n2 cap2 cs2 vs2 gv2 R2 L2 w3 HB3.out.dp (by omega)).mono ?_); rintro e w4 ⟨v4, rfl, hv4, hb4⟩; have HB4 := Lib.hid (HB3.out.below hb4); have HV4 := Lib.hid hv4; have HV3' := Lib.hid (HV3.out.below hb4); clear hv4 hb4)
              refine wpAny_ready (rs := [24]) (by kernel_rfl) (by simp) ?_
              refine AllReady.cons rfl (fun K hK => ?_) (AllReady.nil)
              go_simp
              go_wp2_with (go_at_call 47; (with_reducible refine (lists_yes _ _ v3 v4 (qs R2 n2) w4 HV3'.out HV4.out (by rw [qs_len]; omega)).mono ?_); rintro e w5 ⟨rfl, n5, hw5⟩; have HB5 : Hid (Bt w w5 p rv2 n2 R2 q S2 L2 d g2 cap2 cs2 vs2 gv2) := (by rw [hw5]; exact HB4.out.below (below_drewN (Below.refl _ _) _)); have g5 := HB5.out.dp.blk.cell 1; simp only [List.getElem?_toArray, List.getElem?_cons_zero, List.getElem?_cons_succ] at g5; clear hw5)
              refine wpAny_take (i := 25) (v := ?_) rfl (by kernel_rfl) (by kernel_rfl) (by kernel_rfl) (fun _ _ _ h => h) (Or.inl ⟨by kernel_rfl, ?_⟩) ?_
              rotate_left
              · intro w'; go_simp; try (with_reducible rfl)
              refine wpAny_take (i := 26) (v := ?_) rfl (by kernel_rfl) (by kernel_rfl) (by kernel_rfl) (fun _ _ _ h => h) (Or.inl ⟨by kernel_rfl, ?_⟩) ?_
              rotate_left
              · intro w'; go_simp; try (with_reducible rfl)
              refine wpAny_take (i := 27) (v := ?_) rfl (by kernel_rfl) (by kernel_rfl) (by kernel_rfl) (fun _ _ _ h => h) (Or.inl ⟨by kernel_rfl, ?_⟩) ?_
              rotate_left
              · intro w'; go_simp; try (with_reducible rfl)
              refine wpAny_take (i := 28) (v := ?_) rfl (by kernel_rfl) (by kernel_rfl) (by kernel_rfl) (fun _ _ _ h => h) (Or.inl ⟨by kernel_rfl, ?_⟩) ?_
              rotate_left
              · intro w'; go_simp; try (with_reducible rfl)
              refine wpAny_take (i := 30) (v := ?_) rfl (by kernel_rfl) (by kernel_rfl) (by kernel_rfl) (fun _ _ _ h => h) (Or.inl ⟨by kernel_rfl, ?_⟩) ?_
              rotate_left
              · intro w'; go_simp; try (with_reducible rfl)
              refine wpAny_take (i := 31) (v := ?_) rfl (by kernel_rfl) (by kernel_rfl) (by kernel_rfl) (fun _ _ _ h => h) (Or.inl ⟨by kernel_rfl, ?_⟩) ?_
              rotate_left
              · intro w'; go_simp; try (with_reducible rfl)
              refine wpAny_take (i := 32) (v := ?_) rfl (by kernel_rfl) (by kernel_rfl) (by kernel_rfl) (fun _ _ _ h => h) (Or.inl ⟨by kernel_rfl, ?_⟩) ?_
              rotate_left
              · intro w'; go_simp; try (with_reducible rfl)
              refine wpAny_ready (rs := [29, 33]) (by kernel_rfl) (by simp) ?_
              refine AllReady.cons rfl (fun K hK => ?_) (AllReady.cons rfl (fun K hK => ?_) (AllReady.nil))
              · go_simp
                go_wp2_with (go_at_call 19; (with_reducible refine (Glob.list_any q S2 L2 w5 HB5.out.pq.que (by omega)).mono ?_); rintro e w6 ⟨v6, rfl, hv6, hb6⟩; have HB6 := Lib.hid (HB5.out.below hb6); have HV6 := Lib.hid hv6; have g6 := HB6.out.dp.blk.cell 1; simp only [List.getElem?_toArray, List.getElem?_cons_zero, List.getElem?_cons_succ] at g6; clear hv6 hb6)
                refine wpAny_ready (rs := [33]) (by kernel_rfl) (by simp) ?_
                refine AllReady.cons rfl (fun K hK => ?_) (AllReady.nil)
                go_simp
                refine hK _ _ ?_
                clear hK K
                refine wpAny_ready (rs := [34]) (by kernel_rfl) (by simp) ?_
                refine AllReady.cons rfl (fun K hK => ?_) (AllReady.nil)
                go_simp
                go_wp2_with (go_at_call 20; (with_reducible refine (Ref.same_yes v6 gv2 L2 w6 (Sl.ofOwn HV6.out) HB6.out.dp.glob.sl).mono ?_); rintro e w7 ⟨rfl, n7, hw7⟩; have HB7 : Hid (Bt w w7 p rv2 n2 R2 q S2 L2 d g2 cap2 cs2 vs2 gv2) := (by rw [hw7]; exact HB6.out.below (below_drewN (Below.refl _ _) _)); clear hw7)
                refine wpAny_take (i := 35) (v := ?_) rfl (by kernel_rfl) (by kernel_rfl) (by kernel_rfl) (fun _ _ _ h => h) (Or.inl ⟨by kernel_rfl, ?_⟩) ?_
                rotate_left
                · intro w'; go_simp; try (with_reducible rfl)
                refine wpAny_take (i := 36) (v := ?_) rfl (by kernel_rfl) (by kernel_rfl) (by kernel_rfl) (fun _ _ _ h => h) (Or.inl ⟨by kernel_rfl, ?_⟩) ?_
                rotate_left
                · intro w'; go_simp; try (with_reducible rfl)
                refine wpAny_done (by kernel_rfl) ?_ _
                go_wp2_with fail
                refine (most_any p rv2 n2 R2 w7 HB7.out.pq.prc hn21 (by omega)).mono ?_
                rintro e w8 ⟨rfl, n8, hw8⟩
                have HB8 : Hid (Bt w w8 p rv2 n2 R2 q S2 L2 d g2 cap2 cs2 vs2 gv2) := (by rw [hw8]; exact HB7.out.below (below_drewN (Below.refl _ _) _))
                clear hw8
                go_wp2_with fail
                refine (dmost_any d g2 n2 cap2 cs2 vs2 gv2 R2 L2 w8 HB8.out.dp hn21 (by omega)).mono ?_
                rintro e w9 ⟨rfl, hb9⟩
                have HB9 := Lib.hid (HB8.out.below hb9)
                clear hb9
                have t1 : ((mostI R2 n2 : Int) != (mostI R2 n2 : Int)) = false := by simp
                have t2 : (mostB R2 n2 != mostB R2 n2) = false := by simp
                generalize (mostI R2 n2 : Int) = mi at *
                generalize mostB R2 n2 = mb at *
                go_wp2_with fail
                go_roundw
                case rel => exact ⟨k + 1, n2, R2, L2, by omega, by go_num, hn21, hn22, by omega, _, _, _, _, _, _, _, HB9.out⟩
                case measure => simp [intOf]; omega
              · go_simp
                refine hK _ _ ?_
                clear hK K
                refine wpAny_ready (rs := [29]) (by kernel_rfl) (by simp) ?_
                refine AllReady.cons rfl (fun K hK => ?_) (AllReady.nil)
                go_simp
                go_wp2_with (go_at_call 19; (with_reducible refine (Glob.list_any q S2 L2 w5 HB5.out.pq.que (by omega)).mono ?_); rintro e w6 ⟨v6, rfl, hv6, hb6⟩; have HB6 := Lib.hid (HB5.out.below hb6); have HV6 := Lib.hid hv6; have g6 := HB6.out.dp.blk.cell 1; simp only [List.getElem?_toArray, List.getElem?_cons_zero, List.getElem?_cons_succ] at g6; clear hv6 hb6)
                refine wpAny_ready (rs := [34]) (by kernel_rfl) (by simp) ?_
                refine AllReady.cons rfl (fun K hK => ?_) (AllReady.nil)
                go_simp
                go_wp2_with (go_at_call 20; (with_reducible refine (Ref.same_yes v6 gv2 L2 w6 (Sl.ofOwn HV6.out) HB6.out.dp.glob.sl).mono ?_); rintro e w7 ⟨rfl, n7, hw7⟩; have HB7 : Hid (Bt w w7 p rv2 n2 R2 q S2 L2 d g2 cap2 cs2 vs2 gv2) := (by rw [hw7]; exact HB6.out.below (below_drewN (Below.refl _ _) _)); clear hw7)
                refine wpAny_take (i := 35) (v := ?_) rfl (by kernel_rfl) (by kernel_rfl) (by kernel_rfl) (fun _ _ _ h => h) (Or.inl ⟨by kernel_rfl, ?_⟩) ?_
                rotate_left
                · intro w'; go_simp; try (with_reducible rfl)
                refine wpAny_take (i := 36) (v := ?_) rfl (by kernel_rfl) (by kernel_rfl) (by kernel_rfl) (fun _ _ _ h => h) (Or.inl ⟨by kernel_rfl, ?_⟩) ?_
                rotate_left
                · intro w'; go_simp; try (with_reducible rfl)
                refine wpAny_done (by kernel_rfl) ?_ _
                go_wp2_with fail
                refine (most_any p rv2 n2 R2 w7 HB7.out.pq.prc hn21 (by omega)).mono ?_
                rintro e w8 ⟨rfl, n8, hw8⟩
                have HB8 : Hid (Bt w w8 p rv2 n2 R2 q S2 L2 d g2 cap2 cs2 vs2 gv2) := (by rw [hw8]; exact HB7.out.below (below_drewN (Below.refl _ _) _))
                clear hw8
                go_wp2_with fail
                refine (dmost_any d g2 n2 cap2 cs2 vs2 gv2 R2 L2 w8 HB8.out.dp hn21 (by omega)).mono ?_
                rintro e w9 ⟨rfl, hb9⟩
                have HB9 := Lib.hid (HB8.out.below hb9)
                clear hb9
                have t1 : ((mostI R2 n2 : Int) != (mostI R2 n2 : Int)) = false := by simp
                have t2 : (mostB R2 n2 != mostB R2 n2) = false := by simp
                generalize (mostI R2 n2 : Int) = mi at *
                generalize mostB R2 n2 = mb at *
                go_wp2_with fail
                go_roundw
                case rel => exact ⟨k + 1, n2, R2, L2, by omega, by go_num, hn21, hn22, by omega, _, _, _, _, _, _, _, HB9.out⟩
                case measure => simp [intOf]; omega
            · go_simp
              refine hK _ _ ?_
              clear hK K
              refine wpAny_take (i := 16) (v := ?_) rfl (by kernel_rfl) (by kernel_rfl) (by kernel_rfl) (fun _ _ _ h => h) (Or.inl ⟨by kernel_rfl, ?_⟩) ?_
              rotate_left
              · intro w'; go_simp; try (with_reducible rfl)
              refine wpAny_ready (rs := [11]) (by kernel_rfl) (by simp) ?_
              refine AllReady.cons rfl (fun K hK => ?_) (AllReady.nil)
              go_simp
              go_wp2_with (go_at_call 51; (with_reducible refine (len_any p rv2 n2 R2 w2 HB2.out.pq.prc).mono ?_); rintro e w2' ⟨rfl, rfl⟩)
              refine wpAny_take (i := 17) (v := ?_) rfl (by kernel_rfl) (by kernel_rfl) (by kernel_rfl) (fun _ _ _ h => h) (Or.inl ⟨by kernel_rfl, ?_⟩) ?_
              rotate_left
              · intro w'; go_simp; try (with_reducible rfl)
              refine wpAny_take (i := 18) (v := ?_) rfl (by kernel_rfl) (by kernel_rfl) (by kernel_rfl) (fun _ _ _ h => h) (Or.inl ⟨by kernel_rfl, ?_⟩) ?_
              rotate_left
              · intro w'; go_simp; try (with_reducible rfl)
              refine wpAny_take (i := 19) (v := ?_) rfl (by kernel_rfl) (by kernel_rfl) (by kernel_rfl) (fun _ _ _ h => h) (Or.inl ⟨by kernel_rfl, ?_⟩) ?_
              rotate_left
              · intro w'; go_simp; try (with_reducible rfl)
              refine wpAny_take (i := 20) (v := ?_) rfl (by kernel_rfl) (by kernel_rfl) (by kernel_rfl) (fun _ _ _ h => h) (Or.inl ⟨by kernel_rfl, ?_⟩) ?_
              rotate_left
              · intro w'; go_simp; try (with_reducible rfl)
              refine wpAny_take (i := 22) (v := ?_) rfl (by kernel_rfl) (by kernel_rfl) (by kernel_rfl) (fun _ _ _ h => h) (Or.inl ⟨by kernel_rfl, ?_⟩) ?_
              rotate_left
              · intro w'; go_simp; try (with_reducible rfl)
              refine wpAny_ready (rs := [21]) (by kernel_rfl) (by simp) ?_
              refine AllReady.cons rfl (fun K hK => ?_) (AllReady.nil)
              go_simp
              go_wp2_with (go_at_call 45; (with_reducible refine (queues_any p rv2 n2 R2 w2 HB2.out.pq.prc (by omega)).mono ?_); rintro e w3 ⟨v3, rfl, hv3, hb3⟩; have HB3 := Lib.hid (HB2.out.below hb3); have HV3 := Lib.hid hv3; clear hv3 hb3 e0)
              refine wpAny_ready (rs := [23]) (by kernel_rfl) (by simp) ?_
              refine AllReady.cons rfl (fun K hK => ?_) (AllReady.nil)
              go_simp
              go_wp2_with (go_at_call 54; (with_reducible refine (dqueues_any d g2 n2 cap2 cs2 vs2 gv2 R2 L2 w3 HB3.out.dp (by omega)).mono ?_); rintro e w4 ⟨v4, rfl, hv4, hb4⟩; have HB4 := Lib.hid (HB3.out.below hb4); have HV4 := Lib.hid hv4; have HV3' := Lib.hid (HV3.out.below hb4); clear hv4 hb4)
              refine wpAny_ready (rs := [24]) (by kernel_rfl) (by simp) ?_
              refine AllReady.cons rfl (fun K hK => ?_) (AllReady.nil)
              go_simp
              go_wp2_with (go_at_call 47; (with_reducible refine (lists_yes _ _ v3 v4 (qs R2 n2) w4 HV3'.out HV4.out (by rw [qs_len]; omega)).mono ?_); rintro e w5 ⟨rfl, n5, hw5⟩; have HB5 : Hid (Bt w w5 p rv2 n2 R2 q S2 L2 d g2 cap2 cs2 vs2 gv2) := (by rw [hw5]; exact HB4.out.below (below_drewN (Below.refl _ _) _)); have g5 := HB5.out.dp.blk.cell 1; simp only [List.getElem?_toArray, List.getElem?_cons_zero, List.getElem?_cons_succ] at g5; clear hw5)
              refine wpAny_take (i := 25) (v := ?_) rfl (by kernel_rfl) (by kernel_rfl) (by kernel_rfl) (fun _ _ _ h => h) (Or.inl ⟨by kernel_rfl, ?_⟩) ?_
              rotate_left
              · intro w'; go_simp; try (with_reducible rfl)
              refine wpAny_take (i := 26) (v := ?_) rfl (by kernel_rfl) (by kernel_rfl) (by kernel_rfl) (fun _ _ _ h => h) (Or.inl ⟨by kernel_rfl, ?_⟩) ?_
              rotate_left
              · intro w'; go_simp; try (with_reducible rfl)
              refine wpAny_take (i := 27) (v := ?_) rfl (by kernel_rfl) (by kernel_rfl) (by kernel_rfl) (fun _ _ _ h => h) (Or.inl ⟨by kernel_rfl, ?_⟩) ?_
              rotate_left
              · intro w'; go_simp; try (with_reducible rfl)
              refine wpAny_take (i := 28) (v := ?_) rfl (by kernel_rfl) (by kernel_rfl) (by kernel_rfl) (fun _ _ _ h => h) (Or.inl ⟨by kernel_rfl, ?_⟩) ?_
              rotate_left
              · intro w'; go_simp; try (with_reducible rfl)
              refine wpAny_take (i := 30) (v := ?_) rfl (by kernel_rfl) (by kernel_rfl) (by kernel_rfl) (fun _ _ _ h => h) (Or.inl ⟨by kernel_rfl, ?_⟩) ?_
              rotate_left
              · intro w'; go_simp; try (with_reducible rfl)
              refine wpAny_take (i := 31) (v := ?_) rfl (by kernel_rfl) (by kernel_rfl) (by kernel_rfl) (fun _ _ _ h => h) (Or.inl ⟨by kernel_rfl, ?_⟩) ?_
              rotate_left
              · intro w'; go_simp; try (with_reducible rfl)
              refine wpAny_take (i := 32) (v := ?_) rfl (by kernel_rfl) (by kernel_rfl) (by kernel_rfl) (fun _ _ _ h => h) (Or.inl ⟨by kernel_rfl, ?_⟩) ?_
              rotate_left
              · intro w'; go_simp; try (with_reducible rfl)
              refine wpAny_ready (rs := [29, 33]) (by kernel_rfl) (by simp) ?_
              refine AllReady.cons rfl (fun K hK => ?_) (AllReady.cons rfl (fun K hK => ?_) (AllReady.nil))
              · go_simp
                go_wp2_with (go_at_call 19; (with_reducible refine (Glob.list_any q S2 L2 w5 HB5.out.pq.que (by omega)).mono ?_); rintro e w6 ⟨v6, rfl, hv6, hb6⟩; have HB6 := Lib.hid (HB5.out.below hb6); have HV6 := Lib.hid hv6; have g6 := HB6.out.dp.blk.cell 1; simp only [List.getElem?_toArray, List.getElem?_cons_zero, List.getElem?_cons_succ] at g6; clear hv6 hb6)
                refine wpAny_ready (rs := [33]) (by kernel_rfl) (by simp) ?_
                refine AllReady.cons rfl (fun K hK => ?_) (AllReady.nil)
                go_simp
                refine hK _ _ ?_
                clear hK K
                refine wpAny_ready (rs := [34]) (by kernel_rfl) (by simp) ?_
                refine AllReady.cons rfl (fun K hK => ?_) (AllReady.nil)
                go_simp
                go_wp2_with (go_at_call 20; (with_reducible refine (Ref.same_yes v6 gv2 L2 w6 (Sl.ofOwn HV6.out) HB6.out.dp.glob.sl).mono ?_); rintro e w7 ⟨rfl, n7, hw7⟩; have HB7 : Hid (Bt w w7 p rv2 n2 R2 q S2 L2 d g2 cap2 cs2 vs2 gv2) := (by rw [hw7]; exact HB6.out.below (below_drewN (Below.refl _ _) _)); clear hw7)
                refine wpAny_take (i := 35) (v := ?_) rfl (by kernel_rfl) (by kernel_rfl) (by kernel_rfl) (fun _ _ _ h => h) (Or.inl ⟨by kernel_rfl, ?_⟩) ?_
                rotate_left
                · intro w'; go_simp; try (with_reducible rfl)
                refine wpAny_take (i := 36) (v := ?_) rfl (by kernel_rfl) (by kernel_rfl) (by kernel_rfl) (fun _ _ _ h => h) (Or.inl ⟨by kernel_rfl, ?_⟩) ?_
                rotate_left
                · intro w'; go_simp; try (with_reducible rfl)
                refine wpAny_done (by kernel_rfl) ?_ _
                go_wp2_with fail
                refine (most_any p rv2 n2 R2 w7 HB7.out.pq.prc hn21 (by omega)).mono ?_
                rintro e w8 ⟨rfl, n8, hw8⟩
                have HB8 : Hid (Bt w w8 p rv2 n2 R2 q S2 L2 d g2 cap2 cs2 vs2 gv2) := (by rw [hw8]; exact HB7.out.below (below_drewN (Below.refl _ _) _))
                clear hw8
                go_wp2_with fail
                refine (dmost_any d g2 n2 cap2 cs2 vs2 gv2 R2 L2 w8 HB8.out.dp hn21 (by omega)).mono ?_
                rintro e w9 ⟨rfl, hb9⟩
                have HB9 := Lib.hid (HB8.out.below hb9)
                clear hb9
                have t1 : ((mostI R2 n2 : Int) != (mostI R2 n2 : Int)) = false := by simp
                have t2 : (mostB R2 n2 != mostB R2 n2) = false := by simp
                generalize (mostI R2 n2 : Int) = mi at *
                generalize mostB R2 n2 = mb at *
                go_wp2_with fail
                go_roundw
                case rel => exact ⟨k + 1, n2, R2, L2, by omega, by go_num, hn21, hn22, by omega, _, _, _, _, _, _, _, HB9.out⟩
                case measure => simp [intOf]; omega
              · go_simp
                refine hK _ _ ?_
                clear hK K
                refine wpAny_ready (rs := [29]) (by kernel_rfl) (by simp) ?_
                refine AllReady.cons rfl (fun K hK => ?_) (AllReady.nil)
                go_simp
                go_wp2_with (go_at_call 19; (with_reducible refine (Glob.list_any q S2 L2 w5 HB5.out.pq.que (by omega)).mono ?_); rintro e w6 ⟨v6, rfl, hv6, hb6⟩; have HB6 := Lib.hid (HB5.out.below hb6); have HV6 := Lib.hid hv6; have g6 := HB6.out.dp.blk.cell 1; simp only [List.getElem?_toArray, List.getElem?_cons_zero, List.getElem?_cons_succ] at g6; clear hv6 hb6)
                refine wpAny_ready (rs := [34]) (by kernel_rfl) (by simp) ?_
                refine AllReady.cons rfl (fun K hK => ?_) (AllReady.nil)
                go_simp
                go_wp2_with (go_at_call 20; (with_reducible refine (Ref.same_yes v6 gv2 L2 w6 (Sl.ofOwn HV6.out) HB6.out.dp.glob.sl).mono ?_); rintro e w7 ⟨rfl, n7, hw7⟩; have HB7 : Hid (Bt w w7 p rv2 n2 R2 q S2 L2 d g2 cap2 cs2 vs2 gv2) := (by rw [hw7]; exact HB6.out.below (below_drewN (Below.refl _ _) _)); clear hw7)
                refine wpAny_take (i := 35) (v := ?_) rfl (by kernel_rfl) (by kernel_rfl) (by kernel_rfl) (fun _ _ _ h => h) (Or.inl ⟨by kernel_rfl, ?_⟩) ?_
                rotate_left
                · intro w'; go_simp; try (with_reducible rfl)
                refine wpAny_take (i := 36) (v := ?_) rfl (by kernel_rfl) (by kernel_rfl) (by kernel_rfl) (fun _ _ _ h => h) (Or.inl ⟨by kernel_rfl, ?_⟩) ?_
                rotate_left
                · intro w'; go_simp; try (with_reducible rfl)
                refine wpAny_done (by kernel_rfl) ?_ _
                go_wp2_with fail
                refine (most_any p rv2 n2 R2 w7 HB7.out.pq.prc hn21 (by omega)).mono ?_
                rintro e w8 ⟨rfl, n8, hw8⟩
                have HB8 : Hid (Bt w w8 p rv2 n2 R2 q S2 L2 d g2 cap2 cs2 vs2 gv2) := (by rw [hw8]; exact HB7.out.below (below_drewN (Below.refl _ _) _))
                clear hw8
                go_wp2_with fail
                refine (dmost_any d g2 n2 cap2 cs2 vs2 gv2 R2 L2 w8 HB8.out.dp hn21 (by omega)).mono ?_
                rintro e w9 ⟨rfl, hb9⟩
                have HB9 := Lib.hid (HB8.out.below hb9)
                clear hb9
                have t1 : ((mostI R2 n2 : Int) != (mostI R2 n2 : Int)) = false := by simp
                have t2 : (mostB R2 n2 != mostB R2 n2) = false := by simp
                generalize (mostI R2 n2 : Int) = mi at *
                generalize mostB R2 n2 = mb at *
                go_wp2_with fail
                go_roundw
                case rel => exact ⟨k + 1, n2, R2, L2, by omega, by go_num, hn21, hn22, by omega, _, _, _, _, _, _, _, HB9.out⟩
                case measure => simp [intOf]; omega
        · have hd : decide ((k : Int) < (len : Int)) = false := by simp; omega
          have hd' : decide (k < len) = false := by simp; omega
          go_wp2_with fail
          refine (alive_any _).mono ?_
          rintro e w9 ⟨rfl, hB9⟩
          have hBel : Below w.heap.size w wr := by obtain ⟨_, _, _, _, _, _, _, hb⟩ := HB1.out; exact hb.bel
          have HE := Lib.hid (below_below hBel hB9)
          clear hB9 hBel
          go_wp2_with fail
          go_ret
          exact ⟨rfl, HE.out⟩

theorem plays (w : World) (n : Int) (_ : (Lit.int .i64 n).wf = true) (a : Option Addr) (len cap : Nat) (f : Nat → Nat → Int) (hr : Row w a len 3 f) :
    Calls Try.prog 12 #[.int .i64 n, .slice a len cap] w fun e w' => e = .returned (.bool true) ∧ Below w.heap.size w w' := by
  by_cases h : len ≤ 60 ∧ (n ≤ 20 ∨ 256 < n)
  · by_cases hn : 1 ≤ n ∧ n ≤ 256
    · obtain ⟨m, rfl⟩ := Int.eq_ofNat_of_zero_le (show 0 ≤ n by omega)
      exact plays_good w m (by omega) (by omega) a len cap f hr h.1
    · exact plays_bad w n a len cap h hn
  · exact plays_dark w n a len cap h
end Go.Proofs.Ytgahkcbkpnehfaa.Procs
