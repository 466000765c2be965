/- Chapter 23: the walk of ProcsKeeps. -/
import Derived.Test.YtgahkcbkpnehfaaProcsKeepsA
namespace Go.Proofs.Ytgahkcbkpnehfaa.Procs
open Go.RowKit Go.Esc
open Go.Proofs.Ytgahkcbkpnehfaa.Ring (Rw Sg allL putN putR putO)
open Go.Proofs.Ytgahkcbkpnehfaa.Glob (Gr Queue right PutP)
set_option linter.unusedVariables false

theorem off_new {w0 w w2 : World} {p : Nat} {rv : Value} {n : Nat} {R : Nat → Rn} {q : Nat} {S : Nat → Prop} {L : List Int} {vi : Value} {I : List Int} {v : Value} {l : List Int} (h : Kq w0 w p rv n R q S L vi I) (ho : OwnI w2 w.heap.size v l) (l' : List Int) : l' ≠ [] → Off S v := fun _ j hj hs => by
  have h1 := (ho.lt j hj).1
  have h2 := h.pq.que.lt hs
  omega
theorem Kq.start {w w1 w2 : World} {rv : Value} {n : Nat} {R0 : Nat → Rn} (hPQ : PQ w2 w.heap.size rv n R0 w1.heap.size (fun j => j = w1.heap.size) []) (hF : ∀ j, Pf w.heap.size rv n R0 j → w.heap.size ≤ j) (hB1 : Below w.heap.size w w1) (hB2 : Below w1.heap.size w1 w2) (H0 : ∀ i, i < n → (R0 i).nx = 0 ∧ (R0 i).row = []) :
    Kq w w2 w.heap.size rv n R0 w1.heap.size (fun j => j = w1.heap.size) [] (.slice none 0 0) [] := by
  have hsz := hB1.size
  refine ⟨hPQ, OwnI.nil _ _, Off.nil _, fun j hj => ?_, below_below hB1 hB2, fun i hi => ?_, ?_⟩
  · rcases hj with hj | hj
    · exact hF j hj
    · have e' : j = w1.heap.size := hj
      omega
  · rw [(H0 i hi).2]; exact fun x hx => by simp at hx
  · have := fl_more (R := R0) (R' := R0) (n := 0) (fun i hi => rfl) n (fun i h1 h2 => H0 i (by omega))
    rw [Nat.zero_add] at this
    rw [this]
    exact List.Perm.refl _
theorem size_le {w0 w : World} {p : Nat} {rv : Value} {n : Nat} {R : Nat → Rn} {q : Nat} {S : Nat → Prop} {L : List Int} {vi : Value} {I : List Int} (h : Kq w0 w p rv n R q S L vi I) : (insAll [] I) = insAll [] (L ++ fl R n) := insAll_perm h.perm []


set_option maxRecDepth 100000 in
set_option maxHeartbeats 8000000 in
theorem keeps_good (w : World) (n : Nat) (h1 : 1 ≤ n) (h2 : n ≤ 20) (a : Option Addr) (len cap : Nat) (f : Nat → Nat → Int) (hr : Row w a len 3 f) (hlen : len ≤ 60) (t : Nat) (ht1 : 1 ≤ t) (ht2 : t ≤ 20) :
    Calls Try.prog 10 #[.int .i64 n, .slice a len cap, .int .i64 t] w fun e w' => e = .returned (.bool true) ∧ Below w.heap.size w w' := by
  have HN := Lib.hid (new_good n w h1 (by omega))
  have HRow := Lib.hid hr
  have d1 : decide ((n : Int) < 1) = false := by simp; omega
  have d2 : decide ((20 : Int) < (n : Int)) = false := by simp; omega
  have d3 : decide ((60 : Int) < (len : Int)) = false := by simp; omega
  have d4 : decide ((20 : Int) < (t : Int)) = false := by simp; omega
  have d5 : decide ((1 : Int) ≤ (t : Int)) = true := by simp; omega
  have d6 : decide ((t : Int) ≤ 256) = true := by simp; omega
  clear hr
  go_enter Try.func10, Try.ntmps10
  go_wp2_with fail
  refine HN.out.mono ?_
  rintro e w1 ⟨rfl, rv, R0, hP, h0, hB, hF⟩
  have HQn := Lib.hid (new_q _ _ _ _ _ hP)
  have HB1 := Lib.hid hB
  have HF := Lib.hid hF
  have H0 := Lib.hid h0
  clear hP h0 hB hF
  go_wp2_with fail
  refine HQn.out.mono ?_
  rintro e w2 ⟨rfl, hPQ, hB2⟩
  have HK0 := Lib.hid (Kq.start hPQ HF.out HB1.out hB2 H0.out)
  clear hPQ hB2 HF HB1 H0 HQn
  generalize w1.heap.size = q at *
  obtain ⟨p, HPp⟩ : ∃ p, Hid (w.heap.size = p) := ⟨_, rfl⟩
  have HK1 : Hid (Kq w w2 p rv n R0 q (fun j => j = q) [] (.slice none 0 0) []) := by rw [← HPp.out]; exact HK0.out
  rw [show (⟨w.heap.size, 0, none⟩ : Addr) = ⟨p, 0, none⟩ by rw [HPp.out]]
  clear HPp HK0
  go_wp2_with fail
  go_loopw [9, 10] (fun v9 i wr => ∃ (k : Nat) (R : Nat → Rn) (S : Nat → Prop) (L I : List Int), k ≤ len ∧ i = .int .i64 k ∧ I.length ≤ k ∧ Kq w wr p rv n R q S L v9 I) (fun _ i _ => len - (intOf i).toNat)
  case atStart => exact ⟨0, R0, _, [], [], Nat.zero_le _, rfl, Nat.le_refl _, HK1.out⟩
  case round =>
    obtain ⟨k, R, S, L, I, hk, rfl, hIl, hK⟩ := hrel
    clear HK1
    have hLl := hK.len
    by_cases hlt : k < len
    · rcases HRow.out with h0 | ⟨ba, off, rfl, hbl, hml, hcell, hwf⟩
      · omega
      have cA0 := (hK.bel.cell (p := ⟨ba, off + (k * 3 + 0), none⟩) hbl).trans (hcell k 0 hlt (by omega))
      have cA1 := (hK.bel.cell (p := ⟨ba, off + (k * 3 + 1), none⟩) hbl).trans (hcell k 1 hlt (by omega))
      have cA2 := (hK.bel.cell (p := ⟨ba, off + (k * 3 + 2), none⟩) hbl).trans (hcell k 2 hlt (by omega))
      have cW2 := hcell k 2 hlt (by omega)
      rw [← Nat.add_assoc] at cA1 cA2 cW2
      simp only [Nat.add_zero] at cA0
      have HC2 := Lib.hid cW2
      have HBl := Lib.hid hbl
      generalize f k 0 = kind at *
      generalize f k 1 = pp at *
      generalize f k 2 = x at *
      have HK := Lib.hid hK
      have HRi := Lib.hid (ring_any p rv n R pp wr hK.pq.prc)
      clear hK hcell hwf cW2
      have hki : (k : Int) < (len : Int) := by omega
      by_cases hin : 0 ≤ pp ∧ pp < n
      · unfold ringP at HRi
        rw [if_pos hin] at HRi
        obtain ⟨i, hi⟩ := Int.eq_ofNat_of_zero_le hin.1
        have hin' : i < n := by omega
        rw [show pp.toNat = i by omega] at HRi
        by_cases hx : 1 ≤ x
        · have hx1 : decide (x < 1) = false := by simp; omega
          obtain ⟨nb, hnb⟩ : ∃ nb, (kind == 1) = nb := ⟨_, rfl⟩
          have HKd : Hid (Kq w wr.drew p rv n R q S L u9 I) := HK.out.drew
          obtain ⟨hrl, _, _, hnx, _⟩ := (HK.out.pq.prc.ring i hin').nums
          have HNx := Lib.hid hnx
          have HPut := Lib.hid (Ring.put_any _ _ _ _ _ x nb wr.drew (HKd.out.pq.prc.ring i hin'))
          have HPos := Lib.hid (put_pos (size := 256) (x := x) (q := nb) (HK.out.pos i hin') hnx)
          have HLn : Hid (L.length + (putO 256 (R i).nx (R i).row x nb).length < 10000000) := by
            have := putO_len (R i).nx (R i).row x nb hrl
            show _ < _
            omega
          have HLi : Hid (I.length + [x].length < 100000000) := by show _ < _; simp; omega
          have HIn := Lib.hid hin'
          clear hin hi hrl hnx hin'
          go_wp2_with fail
          refine HRi.out.mono ?_
          rintro e w1 ⟨rfl, rfl⟩
          go_wp2_with fail
          refine wp_region_any (by kernel_rfl) ?_
          try (change wpAny _ _ _ _ _ _ _ (World.drew _))
          refine wpAny_take (i := 0) (v := ?_) rfl (by kernel_rfl) (by kernel_rfl) (by kernel_rfl) (fun _ _ _ h => h) (Or.inl ⟨by kernel_rfl, ?_⟩) ?_
          rotate_left
          · intro w'; go_simp; try (with_reducible rfl)
          refine wpAny_take (i := 1) (v := ?_) rfl (by kernel_rfl) (by kernel_rfl) (by kernel_rfl) (fun _ _ _ h => h) (Or.inl ⟨by kernel_rfl, ?_⟩) ?_
          rotate_left
          · intro w'; go_simp; try (with_reducible rfl)
          refine wpAny_take (i := 2) (v := ?_) rfl (by kernel_rfl) (by kernel_rfl) (by kernel_rfl) (fun _ _ _ h => h) (Or.inl ⟨by kernel_rfl, ?_⟩) ?_
          rotate_left
          · intro w'; go_simp; try (with_reducible rfl)
          refine wpAny_take (i := 3) (v := ?_) rfl (by kernel_rfl) (by kernel_rfl) (by kernel_rfl) (fun _ _ _ h => h) (Or.inl ⟨by kernel_rfl, ?_⟩) ?_
          rotate_left
          · intro w'; go_simp; try (with_reducible rfl)
          refine wpAny_take (i := 4) (v := ?_) rfl (by kernel_rfl) (by kernel_rfl) (by kernel_rfl) (fun _ _ _ h => h) (Or.inl ⟨by kernel_rfl, ?_⟩) ?_
          rotate_left
          · intro w'; go_simp; try (with_reducible rfl)
          refine wpAny_take (i := 5) (v := ?_) rfl (by kernel_rfl) (by kernel_rfl) (by kernel_rfl) (fun _ _ _ h => h) (Or.inl ⟨by kernel_rfl, ?_⟩) ?_
          rotate_left
          · intro w'; go_simp; try (with_reducible rfl)
          refine wpAny_take (i := 7) (v := ?_) rfl (by kernel_rfl) (by kernel_rfl) (by kernel_rfl) (fun _ _ _ h => h) (Or.inl ⟨by kernel_rfl, ?_⟩) ?_
          rotate_left
          · intro w'; go_simp; try (with_reducible rfl)
          refine wpAny_take (i := 8) (v := ?_) rfl (by kernel_rfl) (by kernel_rfl) (by kernel_rfl) (fun _ _ _ h => h) (Or.inl ⟨by kernel_rfl, ?_⟩) ?_
          rotate_left
          · intro w'; go_simp; try (with_reducible rfl)
          refine wpAny_take (i := 9) (v := ?_) rfl (by kernel_rfl) (by kernel_rfl) (by kernel_rfl) (fun _ _ _ h => h) (Or.inl ⟨by kernel_rfl, ?_⟩) ?_
          rotate_left
          · intro w'; go_simp; try (with_reducible rfl)
          refine wpAny_take (i := 10) (v := ?_) rfl (by kernel_rfl) (by kernel_rfl) (by kernel_rfl) (fun _ _ _ h => h) (Or.inl ⟨by kernel_rfl, ?_⟩) ?_
          rotate_left
          · intro w'; go_simp; try (with_reducible rfl)
          refine wpAny_ready (rs := [6, 11]) (by kernel_rfl) (by simp) ?_
          refine AllReady.cons rfl (fun K hK => ?_) (AllReady.cons rfl (fun K hK => ?_) (AllReady.nil))
          · go_simp
            refine hK _ _ ?_
            clear hK K
            refine wpAny_ready (rs := [11]) (by kernel_rfl) (by simp) ?_
            refine AllReady.cons rfl (fun K hK => ?_) (AllReady.nil)
            go_simp
            refine hK _ _ ?_
            clear hK K
            refine wpAny_take (i := 12) (v := ?_) rfl (by kernel_rfl) (by kernel_rfl) (by kernel_rfl) (fun _ _ _ h => h) (Or.inl ⟨by kernel_rfl, ?_⟩) ?_
            rotate_left
            · intro w'; go_simp; try (with_reducible rfl)
            refine wpAny_ready (rs := [13]) (by kernel_rfl) (by simp) ?_
            refine AllReady.cons rfl (fun K hK => ?_) (AllReady.nil)
            go_simp
            go_wp2_with (go_at_call 24; (with_reducible refine HPut.out.mono ?_); rintro e w2 ⟨v2, rfl, ho2, hR2, hO2⟩; have HO2 := Lib.hid hO2; have HR2 := Lib.hid hR2; have HPQ2 := Lib.hid (HKd.out.pq.turn HIn.out hR2 hO2); have HSl2 := Lib.hid (Slw.ofOwn ho2); have HOf2 := Lib.hid (off_new HKd.out ho2 (putO 256 (R i).nx (R i).row x nb)); clear ho2 hR2 hO2)
            refine wpAny_ready (rs := [14]) (by kernel_rfl) (by simp) ?_
            refine AllReady.cons rfl (fun K hK => ?_) (AllReady.nil)
            go_simp
            go_wp2_with (go_at_call 17; (with_reducible refine (Glob.put_any2 q S L v2 _ w2 HPQ2.out.que HSl2.out HOf2.out HLn.out).mono ?_); rintro e w3 ⟨rfl, S3, hQ3, hO3, hG3⟩; have HK3 := Lib.hid (HKd.out.mid HIn.out HR2.out HO2.out hQ3 hO3 hG3 HPos.out.2); have cB2 := (HK3.out.1.cell (p := ⟨ba, off + k * 3 + 2, none⟩) HBl.out).trans HC2.out; have hws : w.heap.size ≤ w3.heap.size := HK3.out.1.size; clear hQ3 hO3 hG3 cA0 cA1 cA2)
            refine wpAny_done (by kernel_rfl) ?_ _
            go_wp2_with (at_builtin; refine appX Try.underlying25 Glob.info3 w.heap.size _ rfl _ _ rfl u9 I _ [x] rfl rfl (HK3.out.2.1.alloc _) (Slw.new1 w3 x) (Ring.size_lit hws) HLi.out ?_; intro vi' w4 hA; have HK4 := Lib.hid (Kq.put HKd.out HIn.out HK3.out hA hx HPos.out.1 HNx.out); clear hA)
            go_roundw
            case rel => exact ⟨k + 1, _, _, _, _, by omega, by go_num, by simp; omega, HK4.out⟩
            case measure => simp [intOf]; omega
          · go_simp
            refine hK _ _ ?_
            clear hK K
            refine wpAny_take (i := 12) (v := ?_) rfl (by kernel_rfl) (by kernel_rfl) (by kernel_rfl) (fun _ _ _ h => h) (Or.inl ⟨by kernel_rfl, ?_⟩) ?_
            rotate_left
            · intro w'; go_simp; try (with_reducible rfl)
            refine wpAny_ready (rs := [6]) (by kernel_rfl) (by simp) ?_
            refine AllReady.cons rfl (fun K hK => ?_) (AllReady.nil)
            go_simp
            refine hK _ _ ?_
            clear hK K
            refine wpAny_ready (rs := [13]) (by kernel_rfl) (by simp) ?_
            refine AllReady.cons rfl (fun K hK => ?_) (AllReady.nil)
            go_simp
            go_wp2_with (go_at_call 24; (with_reducible refine HPut.out.mono ?_); rintro e w2 ⟨v2, rfl, ho2, hR2, hO2⟩; have HO2 := Lib.hid hO2; have HR2 := Lib.hid hR2; have HPQ2 := Lib.hid (HKd.out.pq.turn HIn.out hR2 hO2); have HSl2 := Lib.hid (Slw.ofOwn ho2); have HOf2 := Lib.hid (off_new HKd.out ho2 (putO 256 (R i).nx (R i).row x nb)); clear ho2 hR2 hO2)
            refine wpAny_ready (rs := [14]) (by kernel_rfl) (by simp) ?_
            refine AllReady.cons rfl (fun K hK => ?_) (AllReady.nil)
            go_simp
            go_wp2_with (go_at_call 17; (with_reducible refine (Glob.put_any2 q S L v2 _ w2 HPQ2.out.que HSl2.out HOf2.out HLn.out).mono ?_); rintro e w3 ⟨rfl, S3, hQ3, hO3, hG3⟩; have HK3 := Lib.hid (HKd.out.mid HIn.out HR2.out HO2.out hQ3 hO3 hG3 HPos.out.2); have cB2 := (HK3.out.1.cell (p := ⟨ba, off + k * 3 + 2, none⟩) HBl.out).trans HC2.out; have hws : w.heap.size ≤ w3.heap.size := HK3.out.1.size; clear hQ3 hO3 hG3 cA0 cA1 cA2)
            refine wpAny_done (by kernel_rfl) ?_ _
            go_wp2_with (at_builtin; refine appX Try.underlying25 Glob.info3 w.heap.size _ rfl _ _ rfl u9 I _ [x] rfl rfl (HK3.out.2.1.alloc _) (Slw.new1 w3 x) (Ring.size_lit hws) HLi.out ?_; intro vi' w4 hA; have HK4 := Lib.hid (Kq.put HKd.out HIn.out HK3.out hA hx HPos.out.1 HNx.out); clear hA)
            go_roundw
            case rel => exact ⟨k + 1, _, _, _, _, by omega, by go_num, by simp; omega, HK4.out⟩
            case measure => simp [intOf]; omega
        · have hx1 : decide (x < 1) = true := by simp; omega
          clear hin hi hin'
          go_wp2_with fail
          refine HRi.out.mono ?_
          rintro e w1 ⟨rfl, rfl⟩
          go_wp2_with fail
          go_roundw
          case rel => exact ⟨k + 1, _, _, _, _, by omega, by go_num, by omega, HK.out⟩
          case measure => simp [intOf]; omega
      · unfold ringP at HRi
        rw [if_neg hin] at HRi
        clear hin
        go_wp2_with fail
        refine HRi.out.mono ?_
        rintro e w1 ⟨rfl, rfl⟩
        go_wp2_with fail
        go_roundw
        case rel => exact ⟨k + 1, _, _, _, _, by omega, by go_num, by omega, HK.out⟩
        case measure => simp [intOf]; omega
    · have hd : decide ((k : Int) < (len : Int)) = false := by simp; omega
      have hd' : decide (k < len) = false := by simp; omega
      have HK := Lib.hid hK
      have HQ := Lib.hid (queues_any p rv n R wr hK.pq.prc (by omega))
      have hIl2 : I.length ≤ 60 := by omega
      clear hK
      go_wp2_with fail
      refine HQ.out.mono ?_
      rintro e w3 ⟨vw, rfl, hLLw, hB3⟩
      have HK3 := Lib.hid (HK.out.below hB3)
      have HLW : Hid (LL w3 wr.heap.size vw (qs R n)) := hLLw
      have HOldP : Hid (∀ j, Pb p rv n R S j → j < wr.heap.size) := fun j hj => HK.out.pq.lt hj
      obtain ⟨aw, cw, rfl⟩ := hLLw.len
      rw [qs_len] at *
      clear hLLw hB3
      have HRs := Lib.hid (resize_any p rv n t R q S L w3 HK3.out.pq h1 (by omega) ht1 (by omega) (by omega))
      go_wp2_with fail
      refine HRs.out.mono ?_
      rintro e w4 ⟨rfl, rv4, R4, S4, hPQ4, hO4, hG4, hold, hnew⟩
      have HZ := Lib.hid (HK3.out.resized ht2 hPQ4 hO4 hG4 hold hnew)
      clear hPQ4 hO4 hG4 hold hnew
      obtain ⟨m, rv4, R4, S4, L4, HM⟩ : ∃ m rv4 R4 S4 L4, Hid (Rz w w3 w4 p rv n R q S L u9 I rv4 m R4 S4 L4) := ⟨_, _, _, _, _, HZ⟩
      have HLW4 := Lib.hid (HLW.out.only HM.out.only HOldP.out)
      have HQ4 := Lib.hid (queues_any p rv4 m R4 w4 HM.out.kq.pq.prc (by have := HM.out.le; omega))
      clear HZ
      go_wp2_with fail
      refine HQ4.out.mono ?_
      rintro e w5 ⟨vx, rfl, hLLx, hB5⟩
      have HK5 := Lib.hid (HM.out.kq.below hB5)
      have HLW5 := Lib.hid (HLW4.out.below hB5)
      have HLX5 : Hid (LL w5 w4.heap.size vx (qs R4 m)) := hLLx
      obtain ⟨ax, cx, rfl⟩ := hLLx.len
      rw [qs_len] at *
      clear hLLx hB5
      go_wp2_with fail
      obtain ⟨w6, HW6⟩ : ∃ w6, Hid (w6 = w5) := ⟨_, rfl⟩
      rw [← HW6.out] at HK5 HLW5 HLX5 ⊢
      have HK6 := HK5
      have HLW6 := HLW5
      have HLX6 := HLX5
      clear HK5 HLW5 HLX5 HW6
      have HLst := Lib.hid (Glob.list_any q S4 L4 w6 HK6.out.pq.que (by have := HK6.out.len; omega))
      refine HLst.out.mono ?_
      rintro e w7 ⟨vo, rfl, hown7, hB7⟩
      have HK7 := Lib.hid (HK6.out.below hB7)
      have HLW7 := Lib.hid (HLW6.out.below hB7)
      have HLX7 := Lib.hid (HLX6.out.below hB7)
      have HO7 : Hid (OwnI w7 w6.heap.size vo L4) := hown7
      have hlen7 := HK7.out.perm.length_eq
      rw [List.length_append, fl_len] at hlen7
      have HLen7 := Lib.hid hlen7
      clear hlen7
      have hm20 := HM.out.le
      clear hown7 hB7
      go_wp2_with fail
      go_loopw [15, 16] (fun v15 i wr => ∃ (k : Nat), k ≤ m ∧ i = .int .i64 k ∧ Below w7.heap.size w7 wr ∧ OwnI wr 0 v15 (L4 ++ fl R4 k)) (fun _ i _ => m - (intOf i).toNat)
      case atStart => exact ⟨0, Nat.zero_le _, rfl, Below.refl _ _, by simpa [fl, qs] using HO7.out.mono (Nat.zero_le _)⟩
      case round =>
        obtain ⟨j, hj, rfl, hBr, hOr⟩ := hrel
        by_cases hjm : j < m
        · have HBr := Lib.hid hBr
          have hLXr := HLX7.out.below hBr
          obtain ⟨ex, gx, ux, rfl, cux, hux⟩ := hLXr.at j (by rw [qs_len]; exact hjm)
          rw [qs_at R4 hjm] at hux
          have hle : (L4 ++ fl R4 j).length + (allL (R4 j).nx (R4 j).row).length < 10000000 := by
            have e1 : (L4 ++ fl R4 (j + 1)).length ≤ 100000 := by
              rw [List.length_append, fl_len]
              have := tot_le HK7.out.pq.prc (j + 1) (by omega)
              have := HM.out.le
              have := HLen7.out
              omega
            rw [join_take, List.length_append] at e1
            omega
          have HJ := Lib.hid (Ref.join_any u15 _ ux _ wr (Slw.ofOwn hOr) (Slw.ofOwn hux) hle)
          obtain ⟨aux, nux, cux', rfl⟩ : ∃ a n c, ux = .slice a n c := by obtain ⟨a, c, hv⟩ := Glob.own_len hux; exact ⟨a, _, c, hv⟩
          have HUX := Lib.hid hux
          have HCX := Lib.hid cux
          clear hLXr hux hOr hBr hle ex
          go_wp2_with fail
          refine HJ.out.mono ?_
          rintro e w8 ⟨v8, rfl, ho8, hB8⟩
          have HO8 : Hid (OwnI w8 0 v8 (L4 ++ fl R4 (j + 1))) := by show OwnI _ _ _ _; rw [join_take]; exact ho8.mono (Nat.zero_le _)
          have HB8 := Lib.hid (below_below HBr.out hB8)
          have cx8 := (hB8.cell (p := ⟨gx, j, none⟩) (lt_of_cell HCX.out)).trans HCX.out
          have HUX8 := Lib.hid (HUX.out.below hB8)
          clear ho8 hB8 cux
          by_cases hjn : j < n
          · obtain ⟨ew, gw, uw, rfl, cuw, huw⟩ := (HLW7.out.below HB8.out).at j (by rw [qs_len]; exact hjn)
            rw [qs_at R hjn, ← HM.out.old j hjm hjn] at huw
            have HSm := Lib.hid (fun m' => Ref.same_yes uw _ _ (w8.drewN m') (Sl.ofOwn huw) (Sl.ofOwn HUX8.out))
            obtain ⟨auw, nuw, cuw', rfl⟩ : ∃ a n c, uw = .slice a n c := by obtain ⟨a, c, hv⟩ := Glob.own_len huw; exact ⟨a, _, c, hv⟩
            have hjn' : decide (j < n) = true := by simpa using hjn
            clear huw ew
            go_wp2_with fail
            go_quiet ((go_at_call 20; exact Calls.quiet_of (HSm.out _)))
            go_wp2_with fail
            go_roundw
            case rel => exact ⟨j + 1, by omega, by go_num, below_drewN HB8.out _, HO8.out.drewN _⟩
            case measure => simp [intOf]; omega
          · have hjn' : decide (j < n) = false := by simpa using hjn
            go_wp2_with fail
            go_quiet (fail)
            go_wp2_with fail
            go_roundw
            case rel => exact ⟨j + 1, by omega, by go_num, below_drewN HB8.out _, HO8.out.drewN _⟩
            case measure => simp [intOf]; omega
        · obtain rfl : j = m := by omega
          have HK8 := Lib.hid (HK7.out.below hBr)
          have HOr := Lib.hid hOr
          obtain ⟨a9, c9, rfl⟩ := Glob.own_len HK8.out.own
          have HS1 := Lib.hid (Ref.sorted_any _ I wr (Slw.ofOwn HK8.out.own) (by omega))
          have hln2 : (L4 ++ fl R4 j).length ≤ 100000 := by rw [← HK8.out.perm.length_eq]; omega
          have HLn2 := Lib.hid hln2
          have hLI : L4.length ≤ I.length := HK8.out.len
          clear hBr hOr hln2
          go_wp2_with fail
          refine HS1.out.mono ?_
          rintro e w8 ⟨v8, rfl, ho8, hB8⟩
          have HO8 := Lib.hid ho8
          have HK9 := Lib.hid (HK8.out.below hB8)
          have HS2 := Lib.hid (Ref.sorted_any _ _ w8 (Slw.ofOwn (HOr.out.below hB8)) HLn2.out)
          clear ho8 hB8 HK8
          go_wp2_with fail
          refine HS2.out.mono ?_
          rintro e w9 ⟨v9, rfl, ho9, hB9⟩
          have HKa := Lib.hid (HK9.out.below hB9)
          have HSm := Lib.hid (Ref.same_yes v8 v9 (insAll [] I) w9 (Sl.ofOwn (HO8.out.below hB9)) (by rw [size_le HK9.out]; exact Sl.ofOwn ho9))
          clear ho9 hB9 HK9
          go_wp2_with fail
          refine HSm.out.mono ?_
          rintro e wa ⟨rfl, na, hwa⟩
          have hBa : Below w9.heap.size w9 wa := by rw [hwa]; exact below_drewN (Below.refl _ _) na
          have HKb := Lib.hid (HKa.out.below hBa)
          have HT := Lib.hid (total_any p rv4 j R4 wa HKb.out.pq.prc (by omega))
          have e1 : IntKind.i64.wrap ((tot R4 j : Int) + (L4.length : Int)) = (I.length : Int) := by
            have := HLen7.out
            rw [IntWalk.i64_in _ (by omega)]
            omega
          have HE1 := Lib.hid e1
          generalize tot R4 j = tt at *
          clear hwa hBa HKa
          go_wp2_with fail
          refine HT.out.mono ?_
          rintro e wb ⟨rfl, nb, hwb⟩
          have hBb : Below wa.heap.size wa wb := by rw [hwb]; exact below_drewN (Below.refl _ _) nb
          have HKc := Lib.hid (HKb.out.below hBb)
          have HLq := Lib.hid (Glob.len_any q S4 L4 wb HKc.out.pq.que (by omega))
          clear hwb hBb HKb
          go_wp2_with fail
          refine HLq.out.mono ?_
          rintro e wc ⟨rfl, nc, hwc⟩
          have hBc : Below wb.heap.size wb wc := by rw [hwc]; exact below_drewN (Below.refl _ _) nc
          have HKd := Lib.hid (HKc.out.below hBc)
          clear hwc hBc HKc
          go_wp2_with fail
          refine (alive_any _).mono ?_
          rintro e wd ⟨rfl, hBd⟩
          have HKe := Lib.hid (HKd.out.below hBd)
          clear hBd HKd
          go_wp2_with fail
          go_ret
          exact ⟨rfl, HKe.out.bel⟩


set_option maxRecDepth 100000 in
set_option maxHeartbeats 8000000 in
theorem keeps_low (w : World) (n : Nat) (h1 : 1 ≤ n) (h2 : n ≤ 20) (a : Option Addr) (len cap : Nat) (f : Nat → Nat → Int) (hr : Row w a len 3 f) (hlen : len ≤ 60) (to : Int) (hto : to < 1) :
    Calls Try.prog 10 #[.int .i64 n, .slice a len cap, .int .i64 to] w fun e w' => e = .returned (.bool true) ∧ Below w.heap.size w w' := by
  have HN := Lib.hid (new_good n w h1 (by omega))
  have HRow := Lib.hid hr
  have d1 : decide ((n : Int) < 1) = false := by simp; omega
  have d2 : decide ((20 : Int) < (n : Int)) = false := by simp; omega
  have d3 : decide ((60 : Int) < (len : Int)) = false := by simp; omega
  have hbad : ¬ (1 ≤ to ∧ to ≤ 256) := by omega
  have d4 : decide (20 < to) = false := by simp; omega
  have d5 : decide (1 ≤ to) = false := by simp; omega
  clear hr
  go_enter Try.func10, Try.ntmps10
  go_wp2_with fail
  refine HN.out.mono ?_
  rintro e w1 ⟨rfl, rv, R0, hP, h0, hB, hF⟩
  have HQn := Lib.hid (new_q _ _ _ _ _ hP)
  have HB1 := Lib.hid hB
  have HF := Lib.hid hF
  have H0 := Lib.hid h0
  clear hP h0 hB hF
  go_wp2_with fail
  refine HQn.out.mono ?_
  rintro e w2 ⟨rfl, hPQ, hB2⟩
  have HK0 := Lib.hid (Kq.start hPQ HF.out HB1.out hB2 H0.out)
  clear hPQ hB2 HF HB1 H0 HQn
  generalize w1.heap.size = q at *
  obtain ⟨p, HPp⟩ : ∃ p, Hid (w.heap.size = p) := ⟨_, rfl⟩
  have HK1 : Hid (Kq w w2 p rv n R0 q (fun j => j = q) [] (.slice none 0 0) []) := by rw [← HPp.out]; exact HK0.out
  rw [show (⟨w.heap.size, 0, none⟩ : Addr) = ⟨p, 0, none⟩ by rw [HPp.out]]
  clear HPp HK0
  go_wp2_with fail
  go_loopw [9, 10] (fun v9 i wr => ∃ (k : Nat) (R : Nat → Rn) (S : Nat → Prop) (L I : List Int), k ≤ len ∧ i = .int .i64 k ∧ I.length ≤ k ∧ Kq w wr p rv n R q S L v9 I) (fun _ i _ => len - (intOf i).toNat)
  case atStart => exact ⟨0, R0, _, [], [], Nat.zero_le _, rfl, Nat.le_refl _, HK1.out⟩
  case round =>
    obtain ⟨k, R, S, L, I, hk, rfl, hIl, hK⟩ := hrel
    clear HK1
    have hLl := hK.len
    by_cases hlt : k < len
    · rcases HRow.out with h0 | ⟨ba, off, rfl, hbl, hml, hcell, hwf⟩
      · omega
      have cA0 := (hK.bel.cell (p := ⟨ba, off + (k * 3 + 0), none⟩) hbl).trans (hcell k 0 hlt (by omega))
      have cA1 := (hK.bel.cell (p := ⟨ba, off + (k * 3 + 1), none⟩) hbl).trans (hcell k 1 hlt (by omega))
      have cA2 := (hK.bel.cell (p := ⟨ba, off + (k * 3 + 2), none⟩) hbl).trans (hcell k 2 hlt (by omega))
      have cW2 := hcell k 2 hlt (by omega)
      rw [← Nat.add_assoc] at cA1 cA2 cW2
      simp only [Nat.add_zero] at cA0
      have HC2 := Lib.hid cW2
      have HBl := Lib.hid hbl
      generalize f k 0 = kind at *
      generalize f k 1 = pp at *
      generalize f k 2 = x at *
      have HK := Lib.hid hK
      have HRi := Lib.hid (ring_any p rv n R pp wr hK.pq.prc)
      clear hK hcell hwf cW2
      have hki : (k : Int) < (len : Int) := by omega
      by_cases hin : 0 ≤ pp ∧ pp < n
      · unfold ringP at HRi
        rw [if_pos hin] at HRi
        obtain ⟨i, hi⟩ := Int.eq_ofNat_of_zero_le hin.1
        have hin' : i < n := by omega
        rw [show pp.toNat = i by omega] at HRi
        by_cases hx : 1 ≤ x
        · have hx1 : decide (x < 1) = false := by simp; omega
          obtain ⟨nb, hnb⟩ : ∃ nb, (kind == 1) = nb := ⟨_, rfl⟩
          have HKd : Hid (Kq w wr.drew p rv n R q S L u9 I) := HK.out.drew
          obtain ⟨hrl, _, _, hnx, _⟩ := (HK.out.pq.prc.ring i hin').nums
          have HNx := Lib.hid hnx
          have HPut := Lib.hid (Ring.put_any _ _ _ _ _ x nb wr.drew (HKd.out.pq.prc.ring i hin'))
          have HPos := Lib.hid (put_pos (size := 256) (x := x) (q := nb) (HK.out.pos i hin') hnx)
          have HLn : Hid (L.length + (putO 256 (R i).nx (R i).row x nb).length < 10000000) := by
            have := putO_len (R i).nx (R i).row x nb hrl
            show _ < _
            omega
          have HLi : Hid (I.length + [x].length < 100000000) := by show _ < _; simp; omega
          have HIn := Lib.hid hin'
          clear hin hi hrl hnx hin'
          go_wp2_with fail
          refine HRi.out.mono ?_
          rintro e w1 ⟨rfl, rfl⟩
          go_wp2_with fail
          refine wp_region_any (by kernel_rfl) ?_
          try (change wpAny _ _ _ _ _ _ _ (World.drew _))
          refine wpAny_take (i := 0) (v := ?_) rfl (by kernel_rfl) (by kernel_rfl) (by kernel_rfl) (fun _ _ _ h => h) (Or.inl ⟨by kernel_rfl, ?_⟩) ?_
          rotate_left
          · intro w'; go_simp; try (with_reducible rfl)
          refine wpAny_take (i := 1) (v := ?_) rfl (by kernel_rfl) (by kernel_rfl) (by kernel_rfl) (fun _ _ _ h => h) (Or.inl ⟨by kernel_rfl, ?_⟩) ?_
          rotate_left
          · intro w'; go_simp; try (with_reducible rfl)
          refine wpAny_take (i := 2) (v := ?_) rfl (by kernel_rfl) (by kernel_rfl) (by kernel_rfl) (fun _ _ _ h => h) (Or.inl ⟨by kernel_rfl, ?_⟩) ?_
          rotate_left
          · intro w'; go_simp; try (with_reducible rfl)
          refine wpAny_take (i := 3) (v := ?_) rfl (by kernel_rfl) (by kernel_rfl) (by kernel_rfl) (fun _ _ _ h => h) (Or.inl ⟨by kernel_rfl, ?_⟩) ?_
          rotate_left
          · intro w'; go_simp; try (with_reducible rfl)
          refine wpAny_take (i := 4) (v := ?_) rfl (by kernel_rfl) (by kernel_rfl) (by kernel_rfl) (fun _ _ _ h => h) (Or.inl ⟨by kernel_rfl, ?_⟩) ?_
          rotate_left
          · intro w'; go_simp; try (with_reducible rfl)
          refine wpAny_take (i := 5) (v := ?_) rfl (by kernel_rfl) (by kernel_rfl) (by kernel_rfl) (fun _ _ _ h => h) (Or.inl ⟨by kernel_rfl, ?_⟩) ?_
          rotate_left
          · intro w'; go_simp; try (with_reducible rfl)
          refine wpAny_take (i := 7) (v := ?_) rfl (by kernel_rfl) (by kernel_rfl) (by kernel_rfl) (fun _ _ _ h => h) (Or.inl ⟨by kernel_rfl, ?_⟩) ?_
          rotate_left
          · intro w'; go_simp; try (with_reducible rfl)
          refine wpAny_take (i := 8) (v := ?_) rfl (by kernel_rfl) (by kernel_rfl) (by kernel_rfl) (fun _ _ _ h => h) (Or.inl ⟨by kernel_rfl, ?_⟩) ?_
          rotate_left
          · intro w'; go_simp; try (with_reducible rfl)
          refine wpAny_take (i := 9) (v := ?_) rfl (by kernel_rfl) (by kernel_rfl) (by kernel_rfl) (fun _ _ _ h => h) (Or.inl ⟨by kernel_rfl, ?_⟩) ?_
          rotate_left
          · intro w'; go_simp; try (with_reducible rfl)
          refine wpAny_take (i := 10) (v := ?_) rfl (by kernel_rfl) (by kernel_rfl) (by kernel_rfl) (fun _ _ _ h => h) (Or.inl ⟨by kernel_rfl, ?_⟩) ?_
          rotate_left
          · intro w'; go_simp; try (with_reducible rfl)
          refine wpAny_ready (rs := [6, 11]) (by kernel_rfl) (by simp) ?_
          refine AllReady.cons rfl (fun K hK => ?_) (AllReady.cons rfl (fun K hK => ?_) (AllReady.nil))
          · go_simp
            refine hK _ _ ?_
            clear hK K
            refine wpAny_ready (rs := [11]) (by kernel_rfl) (by simp) ?_
            refine AllReady.cons rfl (fun K hK => ?_) (AllReady.nil)
            go_simp
            refine hK _ _ ?_
            clear hK K
            refine wpAny_take (i := 12) (v := ?_) rfl (by kernel_rfl) (by kernel_rfl) (by kernel_rfl) (fun _ _ _ h => h) (Or.inl ⟨by kernel_rfl, ?_⟩) ?_
            rotate_left
            · intro w'; go_simp; try (with_reducible rfl)
            refine wpAny_ready (rs := [13]) (by kernel_rfl) (by simp) ?_
            refine AllReady.cons rfl (fun K hK => ?_) (AllReady.nil)
            go_simp
            go_wp2_with (go_at_call 24; (with_reducible refine HPut.out.mono ?_); rintro e w2 ⟨v2, rfl, ho2, hR2, hO2⟩; have HO2 := Lib.hid hO2; have HR2 := Lib.hid hR2; have HPQ2 := Lib.hid (HKd.out.pq.turn HIn.out hR2 hO2); have HSl2 := Lib.hid (Slw.ofOwn ho2); have HOf2 := Lib.hid (off_new HKd.out ho2 (putO 256 (R i).nx (R i).row x nb)); clear ho2 hR2 hO2)
            refine wpAny_ready (rs := [14]) (by kernel_rfl) (by simp) ?_
            refine AllReady.cons rfl (fun K hK => ?_) (AllReady.nil)
            go_simp
            go_wp2_with (go_at_call 17; (with_reducible refine (Glob.put_any2 q S L v2 _ w2 HPQ2.out.que HSl2.out HOf2.out HLn.out).mono ?_); rintro e w3 ⟨rfl, S3, hQ3, hO3, hG3⟩; have HK3 := Lib.hid (HKd.out.mid HIn.out HR2.out HO2.out hQ3 hO3 hG3 HPos.out.2); have cB2 := (HK3.out.1.cell (p := ⟨ba, off + k * 3 + 2, none⟩) HBl.out).trans HC2.out; have hws : w.heap.size ≤ w3.heap.size := HK3.out.1.size; clear hQ3 hO3 hG3 cA0 cA1 cA2)
            refine wpAny_done (by kernel_rfl) ?_ _
            go_wp2_with (at_builtin; refine appX Try.underlying25 Glob.info3 w.heap.size _ rfl _ _ rfl u9 I _ [x] rfl rfl (HK3.out.2.1.alloc _) (Slw.new1 w3 x) (Ring.size_lit hws) HLi.out ?_; intro vi' w3 hA; have HK4 := Lib.hid (Kq.put HKd.out HIn.out HK3.out hA hx HPos.out.1 HNx.out); clear hA)
            go_roundw
            case rel => exact ⟨k + 1, _, _, _, _, by omega, by go_num, by simp; omega, HK4.out⟩
            case measure => simp [intOf]; omega
          · go_simp
            refine hK _ _ ?_
            clear hK K
            refine wpAny_take (i := 12) (v := ?_) rfl (by kernel_rfl) (by kernel_rfl) (by kernel_rfl) (fun _ _ _ h => h) (Or.inl ⟨by kernel_rfl, ?_⟩) ?_
            rotate_left
            · intro w'; go_simp; try (with_reducible rfl)
            refine wpAny_ready (rs := [6]) (by kernel_rfl) (by simp) ?_
            refine AllReady.cons rfl (fun K hK => ?_) (AllReady.nil)
            go_simp
            refine hK _ _ ?_
            clear hK K
            refine wpAny_ready (rs := [13]) (by kernel_rfl) (by simp) ?_
            refine AllReady.cons rfl (fun K hK => ?_) (AllReady.nil)
            go_simp
            go_wp2_with (go_at_call 24; (with_reducible refine HPut.out.mono ?_); rintro e w2 ⟨v2, rfl, ho2, hR2, hO2⟩; have HO2 := Lib.hid hO2; have HR2 := Lib.hid hR2; have HPQ2 := Lib.hid (HKd.out.pq.turn HIn.out hR2 hO2); have HSl2 := Lib.hid (Slw.ofOwn ho2); have HOf2 := Lib.hid (off_new HKd.out ho2 (putO 256 (R i).nx (R i).row x nb)); clear ho2 hR2 hO2)
            refine wpAny_ready (rs := [14]) (by kernel_rfl) (by simp) ?_
            refine AllReady.cons rfl (fun K hK => ?_) (AllReady.nil)
            go_simp
            go_wp2_with (go_at_call 17; (with_reducible refine (Glob.put_any2 q S L v2 _ w2 HPQ2.out.que HSl2.out HOf2.out HLn.out).mono ?_); rintro e w3 ⟨rfl, S3, hQ3, hO3, hG3⟩; have HK3 := Lib.hid (HKd.out.mid HIn.out HR2.out HO2.out hQ3 hO3 hG3 HPos.out.2); have cB2 := (HK3.out.1.cell (p := ⟨ba, off + k * 3 + 2, none⟩) HBl.out).trans HC2.out; have hws : w.heap.size ≤ w3.heap.size := HK3.out.1.size; clear hQ3 hO3 hG3 cA0 cA1 cA2)
            refine wpAny_done (by kernel_rfl) ?_ _
            go_wp2_with (at_builtin; refine appX Try.underlying25 Glob.info3 w.heap.size _ rfl _ _ rfl u9 I _ [x] rfl rfl (HK3.out.2.1.alloc _) (Slw.new1 w3 x) (Ring.size_lit hws) HLi.out ?_; intro vi' w3 hA; have HK4 := Lib.hid (Kq.put HKd.out HIn.out HK3.out hA hx HPos.out.1 HNx.out); clear hA)
            go_roundw
            case rel => exact ⟨k + 1, _, _, _, _, by omega, by go_num, by simp; omega, HK4.out⟩
            case measure => simp [intOf]; omega
        · have hx1 : decide (x < 1) = true := by simp; omega
          clear hin hi hin'
          go_wp2_with fail
          refine HRi.out.mono ?_
          rintro e w1 ⟨rfl, rfl⟩
          go_wp2_with fail
          go_roundw
          case rel => exact ⟨k + 1, _, _, _, _, by omega, by go_num, by omega, HK.out⟩
          case measure => simp [intOf]; omega
      · unfold ringP at HRi
        rw [if_neg hin] at HRi
        clear hin
        go_wp2_with fail
        refine HRi.out.mono ?_
        rintro e w1 ⟨rfl, rfl⟩
        go_wp2_with fail
        go_roundw
        case rel => exact ⟨k + 1, _, _, _, _, by omega, by go_num, by omega, HK.out⟩
        case measure => simp [intOf]; omega
    · have hd : decide ((k : Int) < (len : Int)) = false := by simp; omega
      have hd' : decide (k < len) = false := by simp; omega
      have HK := Lib.hid hK
      have HQ := Lib.hid (queues_any p rv n R wr hK.pq.prc (by omega))
      have hIl2 : I.length ≤ 60 := by omega
      clear hK
      go_wp2_with fail
      refine HQ.out.mono ?_
      rintro e w3 ⟨vw, rfl, hLLw, hB3⟩
      have HK3 := Lib.hid (HK.out.below hB3)
      have HLW : Hid (LL w3 wr.heap.size vw (qs R n)) := hLLw
      have HOldP : Hid (∀ j, Pb p rv n R S j → j < wr.heap.size) := fun j hj => HK.out.pq.lt hj
      obtain ⟨aw, cw, rfl⟩ := hLLw.len
      rw [qs_len] at *
      clear hLLw hB3
      have HRs := Lib.hid (resize_bad to p q w3 hbad)
      go_wp2_with fail
      refine HRs.out.mono ?_
      rintro e w3 ⟨rfl, rfl⟩
      have HZ := Lib.hid (HK3.out.same h2)
      obtain ⟨m, rv4, R4, S4, L4, HM, HQE⟩ : ∃ m rv4 R4 S4 L4, Hid (Rz w w3 w3 p rv n R q S L u9 I rv4 m R4 S4 L4) ∧ Hid (qs R n = qs R4 m) := ⟨_, _, _, _, _, HZ, rfl⟩
      have HLW4 := Lib.hid (HLW.out.only HM.out.only HOldP.out)
      have HQ4 := Lib.hid (queues_any p rv4 m R4 w3 HM.out.kq.pq.prc (by have := HM.out.le; omega))
      clear HZ
      go_wp2_with fail
      refine HQ4.out.mono ?_
      rintro e w5 ⟨vx, rfl, hLLx, hB5⟩
      have HK5 := Lib.hid (HM.out.kq.below hB5)
      have HLW5 := Lib.hid (HLW4.out.below hB5)
      have HLX5 : Hid (LL w5 w3.heap.size vx (qs R4 m)) := hLLx
      obtain ⟨ax, cx, rfl⟩ := hLLx.len
      rw [qs_len] at *
      clear hLLx hB5
      have HLi := Lib.hid (lists_yes _ _ _ _ (qs R n) w5 HLW5.out (by rw [HQE.out]; exact HLX5.out) (by rw [qs_len]; omega))
      go_wp2_with fail
      refine HLi.out.mono ?_
      rintro e w6 ⟨rfl, n6, hw6⟩
      have hB6 : Below w5.heap.size w5 w6 := by rw [hw6]; exact below_drewN (Below.refl _ _) n6
      have HK6 := Lib.hid (HK5.out.below hB6)
      have HLW6 := Lib.hid (HLW5.out.below hB6)
      have HLX6 := Lib.hid (HLX5.out.below hB6)
      clear hB6 hw6 HK5 HLW5 HLX5
      go_wp2_with fail
      have HLst := Lib.hid (Glob.list_any q S4 L4 w6 HK6.out.pq.que (by have := HK6.out.len; omega))
      refine HLst.out.mono ?_
      rintro e w7 ⟨vo, rfl, hown7, hB7⟩
      have HK7 := Lib.hid (HK6.out.below hB7)
      have HLW7 := Lib.hid (HLW6.out.below hB7)
      have HLX7 := Lib.hid (HLX6.out.below hB7)
      have HO7 : Hid (OwnI w7 w6.heap.size vo L4) := hown7
      have hlen7 := HK7.out.perm.length_eq
      rw [List.length_append, fl_len] at hlen7
      have HLen7 := Lib.hid hlen7
      clear hlen7
      have hm20 := HM.out.le
      clear hown7 hB7
      go_wp2_with fail
      go_loopw [15, 16] (fun v15 i wr => ∃ (k : Nat), k ≤ m ∧ i = .int .i64 k ∧ Below w7.heap.size w7 wr ∧ OwnI wr 0 v15 (L4 ++ fl R4 k)) (fun _ i _ => m - (intOf i).toNat)
      case atStart => exact ⟨0, Nat.zero_le _, rfl, Below.refl _ _, by simpa [fl, qs] using HO7.out.mono (Nat.zero_le _)⟩
      case round =>
        obtain ⟨j, hj, rfl, hBr, hOr⟩ := hrel
        by_cases hjm : j < m
        · have HBr := Lib.hid hBr
          have hLXr := HLX7.out.below hBr
          obtain ⟨ex, gx, ux, rfl, cux, hux⟩ := hLXr.at j (by rw [qs_len]; exact hjm)
          rw [qs_at R4 hjm] at hux
          have hle : (L4 ++ fl R4 j).length + (allL (R4 j).nx (R4 j).row).length < 10000000 := by
            have e1 : (L4 ++ fl R4 (j + 1)).length ≤ 100000 := by
              rw [List.length_append, fl_len]
              have := tot_le HK7.out.pq.prc (j + 1) (by omega)
              have := HM.out.le
              have := HLen7.out
              omega
            rw [join_take, List.length_append] at e1
            omega
          have HJ := Lib.hid (Ref.join_any u15 _ ux _ wr (Slw.ofOwn hOr) (Slw.ofOwn hux) hle)
          obtain ⟨aux, nux, cux', rfl⟩ : ∃ a n c, ux = .slice a n c := by obtain ⟨a, c, hv⟩ := Glob.own_len hux; exact ⟨a, _, c, hv⟩
          have HUX := Lib.hid hux
          have HCX := Lib.hid cux
          clear hLXr hux hOr hBr hle ex
          go_wp2_with fail
          refine HJ.out.mono ?_
          rintro e w8 ⟨v8, rfl, ho8, hB8⟩
          have HO8 : Hid (OwnI w8 0 v8 (L4 ++ fl R4 (j + 1))) := by show OwnI _ _ _ _; rw [join_take]; exact ho8.mono (Nat.zero_le _)
          have HB8 := Lib.hid (below_below HBr.out hB8)
          have cx8 := (hB8.cell (p := ⟨gx, j, none⟩) (lt_of_cell HCX.out)).trans HCX.out
          have HUX8 := Lib.hid (HUX.out.below hB8)
          clear ho8 hB8 cux
          by_cases hjn : j < n
          · obtain ⟨ew, gw, uw, rfl, cuw, huw⟩ := (HLW7.out.below HB8.out).at j (by rw [qs_len]; exact hjn)
            rw [qs_at R hjn, ← HM.out.old j hjm hjn] at huw
            have HSm := Lib.hid (fun m' => Ref.same_yes uw _ _ (w8.drewN m') (Sl.ofOwn huw) (Sl.ofOwn HUX8.out))
            obtain ⟨auw, nuw, cuw', rfl⟩ : ∃ a n c, uw = .slice a n c := by obtain ⟨a, c, hv⟩ := Glob.own_len huw; exact ⟨a, _, c, hv⟩
            have hjn' : decide (j < n) = true := by simpa using hjn
            clear huw ew
            go_wp2_with fail
            go_quiet ((go_at_call 20; exact Calls.quiet_of (HSm.out _)))
            go_wp2_with fail
            go_roundw
            case rel => exact ⟨j + 1, by omega, by go_num, below_drewN HB8.out _, HO8.out.drewN _⟩
            case measure => simp [intOf]; omega
          · have hjn' : decide (j < n) = false := by simpa using hjn
            go_wp2_with fail
            go_quiet (fail)
            go_wp2_with fail
            go_roundw
            case rel => exact ⟨j + 1, by omega, by go_num, below_drewN HB8.out _, HO8.out.drewN _⟩
            case measure => simp [intOf]; omega
        · obtain rfl : j = m := by omega
          have HK8 := Lib.hid (HK7.out.below hBr)
          have HOr := Lib.hid hOr
          obtain ⟨a9, c9, rfl⟩ := Glob.own_len HK8.out.own
          have HS1 := Lib.hid (Ref.sorted_any _ I wr (Slw.ofOwn HK8.out.own) (by omega))
          have hln2 : (L4 ++ fl R4 j).length ≤ 100000 := by rw [← HK8.out.perm.length_eq]; omega
          have HLn2 := Lib.hid hln2
          have hLI : L4.length ≤ I.length := HK8.out.len
          clear hBr hOr hln2
          go_wp2_with fail
          refine HS1.out.mono ?_
          rintro e w8 ⟨v8, rfl, ho8, hB8⟩
          have HO8 := Lib.hid ho8
          have HK9 := Lib.hid (HK8.out.below hB8)
          have HS2 := Lib.hid (Ref.sorted_any _ _ w8 (Slw.ofOwn (HOr.out.below hB8)) HLn2.out)
          clear ho8 hB8 HK8
          go_wp2_with fail
          refine HS2.out.mono ?_
          rintro e w9 ⟨v9, rfl, ho9, hB9⟩
          have HKa := Lib.hid (HK9.out.below hB9)
          have HSm := Lib.hid (Ref.same_yes v8 v9 (insAll [] I) w9 (Sl.ofOwn (HO8.out.below hB9)) (by rw [size_le HK9.out]; exact Sl.ofOwn ho9))
          clear ho9 hB9 HK9
          go_wp2_with fail
          refine HSm.out.mono ?_
          rintro e wa ⟨rfl, na, hwa⟩
          have hBa : Below w9.heap.size w9 wa := by rw [hwa]; exact below_drewN (Below.refl _ _) na
          have HKb := Lib.hid (HKa.out.below hBa)
          have HT := Lib.hid (total_any p rv4 j R4 wa HKb.out.pq.prc (by omega))
          have e1 : IntKind.i64.wrap ((tot R4 j : Int) + (L4.length : Int)) = (I.length : Int) := by
            have := HLen7.out
            rw [IntWalk.i64_in _ (by omega)]
            omega
          have HE1 := Lib.hid e1
          generalize tot R4 j = tt at *
          clear hwa hBa HKa
          go_wp2_with fail
          refine HT.out.mono ?_
          rintro e wb ⟨rfl, nb, hwb⟩
          have hBb : Below wa.heap.size wa wb := by rw [hwb]; exact below_drewN (Below.refl _ _) nb
          have HKc := Lib.hid (HKb.out.below hBb)
          have HLq := Lib.hid (Glob.len_any q S4 L4 wb HKc.out.pq.que (by omega))
          clear hwb hBb HKb
          go_wp2_with fail
          refine HLq.out.mono ?_
          rintro e wc ⟨rfl, nc, hwc⟩
          have hBc : Below wb.heap.size wb wc := by rw [hwc]; exact below_drewN (Below.refl _ _) nc
          have HKd := Lib.hid (HKc.out.below hBc)
          clear hwc hBc HKc
          go_wp2_with fail
          refine (alive_any _).mono ?_
          rintro e wd ⟨rfl, hBd⟩
          have HKe := Lib.hid (HKd.out.below hBd)
          clear hBd HKd
          go_wp2_with fail
          go_ret
          exact ⟨rfl, HKe.out.bel⟩


set_option maxRecDepth 100000 in
set_option maxHeartbeats 8000000 in
theorem keeps_high (w : World) (n : Nat) (h1 : 1 ≤ n) (h2 : n ≤ 20) (a : Option Addr) (len cap : Nat) (f : Nat → Nat → Int) (hr : Row w a len 3 f) (hlen : len ≤ 60) (to : Int) (hto : 256 < to) :
    Calls Try.prog 10 #[.int .i64 n, .slice a len cap, .int .i64 to] w fun e w' => e = .returned (.bool true) ∧ Below w.heap.size w w' := by
  have HN := Lib.hid (new_good n w h1 (by omega))
  have HRow := Lib.hid hr
  have d1 : decide ((n : Int) < 1) = false := by simp; omega
  have d2 : decide ((20 : Int) < (n : Int)) = false := by simp; omega
  have d3 : decide ((60 : Int) < (len : Int)) = false := by simp; omega
  have hbad : ¬ (1 ≤ to ∧ to ≤ 256) := by omega
  have d4 : decide (20 < to) = true := by simp; omega
  have d6 : decide (to ≤ 256) = false := by simp; omega
  have d5 : decide (1 ≤ to) = true := by simp; omega
  clear hr
  go_enter Try.func10, Try.ntmps10
  go_wp2_with fail
  refine HN.out.mono ?_
  rintro e w1 ⟨rfl, rv, R0, hP, h0, hB, hF⟩
  have HQn := Lib.hid (new_q _ _ _ _ _ hP)
  have HB1 := Lib.hid hB
  have HF := Lib.hid hF
  have H0 := Lib.hid h0
  clear hP h0 hB hF
  go_wp2_with fail
  refine HQn.out.mono ?_
  rintro e w2 ⟨rfl, hPQ, hB2⟩
  have HK0 := Lib.hid (Kq.start hPQ HF.out HB1.out hB2 H0.out)
  clear hPQ hB2 HF HB1 H0 HQn
  generalize w1.heap.size = q at *
  obtain ⟨p, HPp⟩ : ∃ p, Hid (w.heap.size = p) := ⟨_, rfl⟩
  have HK1 : Hid (Kq w w2 p rv n R0 q (fun j => j = q) [] (.slice none 0 0) []) := by rw [← HPp.out]; exact HK0.out
  rw [show (⟨w.heap.size, 0, none⟩ : Addr) = ⟨p, 0, none⟩ by rw [HPp.out]]
  clear HPp HK0
  go_wp2_with fail
  go_loopw [9, 10] (fun v9 i wr => ∃ (k : Nat) (R : Nat → Rn) (S : Nat → Prop) (L I : List Int), k ≤ len ∧ i = .int .i64 k ∧ I.length ≤ k ∧ Kq w wr p rv n R q S L v9 I) (fun _ i _ => len - (intOf i).toNat)
  case atStart => exact ⟨0, R0, _, [], [], Nat.zero_le _, rfl, Nat.le_refl _, HK1.out⟩
  case round =>
    obtain ⟨k, R, S, L, I, hk, rfl, hIl, hK⟩ := hrel
    clear HK1
    have hLl := hK.len
    by_cases hlt : k < len
    · rcases HRow.out with h0 | ⟨ba, off, rfl, hbl, hml, hcell, hwf⟩
      · omega
      have cA0 := (hK.bel.cell (p := ⟨ba, off + (k * 3 + 0), none⟩) hbl).trans (hcell k 0 hlt (by omega))
      have cA1 := (hK.bel.cell (p := ⟨ba, off + (k * 3 + 1), none⟩) hbl).trans (hcell k 1 hlt (by omega))
      have cA2 := (hK.bel.cell (p := ⟨ba, off + (k * 3 + 2), none⟩) hbl).trans (hcell k 2 hlt (by omega))
      have cW2 := hcell k 2 hlt (by omega)
      rw [← Nat.add_assoc] at cA1 cA2 cW2
      simp only [Nat.add_zero] at cA0
      have HC2 := Lib.hid cW2
      have HBl := Lib.hid hbl
      generalize f k 0 = kind at *
      generalize f k 1 = pp at *
      generalize f k 2 = x at *
      have HK := Lib.hid hK
      have HRi := Lib.hid (ring_any p rv n R pp wr hK.pq.prc)
      clear hK hcell hwf cW2
      have hki : (k : Int) < (len : Int) := by omega
      by_cases hin : 0 ≤ pp ∧ pp < n
      · unfold ringP at HRi
        rw [if_pos hin] at HRi
        obtain ⟨i, hi⟩ := Int.eq_ofNat_of_zero_le hin.1
        have hin' : i < n := by omega
        rw [show pp.toNat = i by omega] at HRi
        by_cases hx : 1 ≤ x
        · have hx1 : decide (x < 1) = false := by simp; omega
          obtain ⟨nb, hnb⟩ : ∃ nb, (kind == 1) = nb := ⟨_, rfl⟩
          have HKd : Hid (Kq w wr.drew p rv n R q S L u9 I) := HK.out.drew
          obtain ⟨hrl, _, _, hnx, _⟩ := (HK.out.pq.prc.ring i hin').nums
          have HNx := Lib.hid hnx
          have HPut := Lib.hid (Ring.put_any _ _ _ _ _ x nb wr.drew (HKd.out.pq.prc.ring i hin'))
          have HPos := Lib.hid (put_pos (size := 256) (x := x) (q := nb) (HK.out.pos i hin') hnx)
          have HLn : Hid (L.length + (putO 256 (R i).nx (R i).row x nb).length < 10000000) := by
            have := putO_len (R i).nx (R i).row x nb hrl
            show _ < _
            omega
          have HLi : Hid (I.length + [x].length < 100000000) := by show _ < _; simp; omega
          have HIn := Lib.hid hin'
          clear hin hi hrl hnx hin'
          go_wp2_with fail
          refine HRi.out.mono ?_
          rintro e w1 ⟨rfl, rfl⟩
          go_wp2_with fail
          refine wp_region_any (by kernel_rfl) ?_
          try (change wpAny _ _ _ _ _ _ _ (World.drew _))
          refine wpAny_take (i := 0) (v := ?_) rfl (by kernel_rfl) (by kernel_rfl) (by kernel_rfl) (fun _ _ _ h => h) (Or.inl ⟨by kernel_rfl, ?_⟩) ?_
          rotate_left
          · intro w'; go_simp; try (with_reducible rfl)
          refine wpAny_take (i := 1) (v := ?_) rfl (by kernel_rfl) (by kernel_rfl) (by kernel_rfl) (fun _ _ _ h => h) (Or.inl ⟨by kernel_rfl, ?_⟩) ?_
          rotate_left
          · intro w'; go_simp; try (with_reducible rfl)
          refine wpAny_take (i := 2) (v := ?_) rfl (by kernel_rfl) (by kernel_rfl) (by kernel_rfl) (fun _ _ _ h => h) (Or.inl ⟨by kernel_rfl, ?_⟩) ?_
          rotate_left
          · intro w'; go_simp; try (with_reducible rfl)
          refine wpAny_take (i := 3) (v := ?_) rfl (by kernel_rfl) (by kernel_rfl) (by kernel_rfl) (fun _ _ _ h => h) (Or.inl ⟨by kernel_rfl, ?_⟩) ?_
          rotate_left
          · intro w'; go_simp; try (with_reducible rfl)
          refine wpAny_take (i := 4) (v := ?_) rfl (by kernel_rfl) (by kernel_rfl) (by kernel_rfl) (fun _ _ _ h => h) (Or.inl ⟨by kernel_rfl, ?_⟩) ?_
          rotate_left
          · intro w'; go_simp; try (with_reducible rfl)
          refine wpAny_take (i := 5) (v := ?_) rfl (by kernel_rfl) (by kernel_rfl) (by kernel_rfl) (fun _ _ _ h => h) (Or.inl ⟨by kernel_rfl, ?_⟩) ?_
          rotate_left
          · intro w'; go_simp; try (with_reducible rfl)
          refine wpAny_take (i := 7) (v := ?_) rfl (by kernel_rfl) (by kernel_rfl) (by kernel_rfl) (fun _ _ _ h => h) (Or.inl ⟨by kernel_rfl, ?_⟩) ?_
          rotate_left
          · intro w'; go_simp; try (with_reducible rfl)
          refine wpAny_take (i := 8) (v := ?_) rfl (by kernel_rfl) (by kernel_rfl) (by kernel_rfl) (fun _ _ _ h => h) (Or.inl ⟨by kernel_rfl, ?_⟩) ?_
          rotate_left
          · intro w'; go_simp; try (with_reducible rfl)
          refine wpAny_take (i := 9) (v := ?_) rfl (by kernel_rfl) (by kernel_rfl) (by kernel_rfl) (fun _ _ _ h => h) (Or.inl ⟨by kernel_rfl, ?_⟩) ?_
          rotate_left
          · intro w'; go_simp; try (with_reducible rfl)
          refine wpAny_take (i := 10) (v := ?_) rfl (by kernel_rfl) (by kernel_rfl) (by kernel_rfl) (fun _ _ _ h => h) (Or.inl ⟨by kernel_rfl, ?_⟩) ?_
          rotate_left
          · intro w'; go_simp; try (with_reducible rfl)
          refine wpAny_ready (rs := [6, 11]) (by kernel_rfl) (by simp) ?_
          refine AllReady.cons rfl (fun K hK => ?_) (AllReady.cons rfl (fun K hK => ?_) (AllReady.nil))
          · go_simp
            refine hK _ _ ?_
            clear hK K
            refine wpAny_ready (rs := [11]) (by kernel_rfl) (by simp) ?_
            refine AllReady.cons rfl (fun K hK => ?_) (AllReady.nil)
            go_simp
            refine hK _ _ ?_
            clear hK K
            refine wpAny_take (i := 12) (v := ?_) rfl (by kernel_rfl) (by kernel_rfl) (by kernel_rfl) (fun _ _ _ h => h) (Or.inl ⟨by kernel_rfl, ?_⟩) ?_
            rotate_left
            · intro w'; go_simp; try (with_reducible rfl)
            refine wpAny_ready (rs := [13]) (by kernel_rfl) (by simp) ?_
            refine AllReady.cons rfl (fun K hK => ?_) (AllReady.nil)
            go_simp
            go_wp2_with (go_at_call 24; (with_reducible refine HPut.out.mono ?_); rintro e w2 ⟨v2, rfl, ho2, hR2, hO2⟩; have HO2 := Lib.hid hO2; have HR2 := Lib.hid hR2; have HPQ2 := Lib.hid (HKd.out.pq.turn HIn.out hR2 hO2); have HSl2 := Lib.hid (Slw.ofOwn ho2); have HOf2 := Lib.hid (off_new HKd.out ho2 (putO 256 (R i).nx (R i).row x nb)); clear ho2 hR2 hO2)
            refine wpAny_ready (rs := [14]) (by kernel_rfl) (by simp) ?_
            refine AllReady.cons rfl (fun K hK => ?_) (AllReady.nil)
            go_simp
            go_wp2_with (go_at_call 17; (with_reducible refine (Glob.put_any2 q S L v2 _ w2 HPQ2.out.que HSl2.out HOf2.out HLn.out).mono ?_); rintro e w3 ⟨rfl, S3, hQ3, hO3, hG3⟩; have HK3 := Lib.hid (HKd.out.mid HIn.out HR2.out HO2.out hQ3 hO3 hG3 HPos.out.2); have cB2 := (HK3.out.1.cell (p := ⟨ba, off + k * 3 + 2, none⟩) HBl.out).trans HC2.out; have hws : w.heap.size ≤ w3.heap.size := HK3.out.1.size; clear hQ3 hO3 hG3 cA0 cA1 cA2)
            refine wpAny_done (by kernel_rfl) ?_ _
            go_wp2_with (at_builtin; refine appX Try.underlying25 Glob.info3 w.heap.size _ rfl _ _ rfl u9 I _ [x] rfl rfl (HK3.out.2.1.alloc _) (Slw.new1 w3 x) (Ring.size_lit hws) HLi.out ?_; intro vi' w3 hA; have HK4 := Lib.hid (Kq.put HKd.out HIn.out HK3.out hA hx HPos.out.1 HNx.out); clear hA)
            go_roundw
            case rel => exact ⟨k + 1, _, _, _, _, by omega, by go_num, by simp; omega, HK4.out⟩
            case measure => simp [intOf]; omega
          · go_simp
            refine hK _ _ ?_
            clear hK K
            refine wpAny_take (i := 12) (v := ?_) rfl (by kernel_rfl) (by kernel_rfl) (by kernel_rfl) (fun _ _ _ h => h) (Or.inl ⟨by kernel_rfl, ?_⟩) ?_
            rotate_left
            · intro w'; go_simp; try (with_reducible rfl)
            refine wpAny_ready (rs := [6]) (by kernel_rfl) (by simp) ?_
            refine AllReady.cons rfl (fun K hK => ?_) (AllReady.nil)
            go_simp
            refine hK _ _ ?_
            clear hK K
            refine wpAny_ready (rs := [13]) (by kernel_rfl) (by simp) ?_
            refine AllReady.cons rfl (fun K hK => ?_) (AllReady.nil)
            go_simp
            go_wp2_with (go_at_call 24; (with_reducible refine HPut.out.mono ?_); rintro e w2 ⟨v2, rfl, ho2, hR2, hO2⟩; have HO2 := Lib.hid hO2; have HR2 := Lib.hid hR2; have HPQ2 := Lib.hid (HKd.out.pq.turn HIn.out hR2 hO2); have HSl2 := Lib.hid (Slw.ofOwn ho2); have HOf2 := Lib.hid (off_new HKd.out ho2 (putO 256 (R i).nx (R i).row x nb)); clear ho2 hR2 hO2)
            refine wpAny_ready (rs := [14]) (by kernel_rfl) (by simp) ?_
            refine AllReady.cons rfl (fun K hK => ?_) (AllReady.nil)
            go_simp
            go_wp2_with (go_at_call 17; (with_reducible refine (Glob.put_any2 q S L v2 _ w2 HPQ2.out.que HSl2.out HOf2.out HLn.out).mono ?_); rintro e w3 ⟨rfl, S3, hQ3, hO3, hG3⟩; have HK3 := Lib.hid (HKd.out.mid HIn.out HR2.out HO2.out hQ3 hO3 hG3 HPos.out.2); have cB2 := (HK3.out.1.cell (p := ⟨ba, off + k * 3 + 2, none⟩) HBl.out).trans HC2.out; have hws : w.heap.size ≤ w3.heap.size := HK3.out.1.size; clear hQ3 hO3 hG3 cA0 cA1 cA2)
            refine wpAny_done (by kernel_rfl) ?_ _
            go_wp2_with (at_builtin; refine appX Try.underlying25 Glob.info3 w.heap.size _ rfl _ _ rfl u9 I _ [x] rfl rfl (HK3.out.2.1.alloc _) (Slw.new1 w3 x) (Ring.size_lit hws) HLi.out ?_; intro vi' w3 hA; have HK4 := Lib.hid (Kq.put HKd.out HIn.out HK3.out hA hx HPos.out.1 HNx.out); clear hA)
            go_roundw
            case rel => exact ⟨k + 1, _, _, _, _, by omega, by go_num, by simp; omega, HK4.out⟩
            case measure => simp [intOf]; omega
        · have hx1 : decide (x < 1) = true := by simp; omega
          clear hin hi hin'
          go_wp2_with fail
          refine HRi.out.mono ?_
          rintro e w1 ⟨rfl, rfl⟩
          go_wp2_with fail
          go_roundw
          case rel => exact ⟨k + 1, _, _, _, _, by omega, by go_num, by omega, HK.out⟩
          case measure => simp [intOf]; omega
      · unfold ringP at HRi
        rw [if_neg hin] at HRi
        clear hin
        go_wp2_with fail
        refine HRi.out.mono ?_
        rintro e w1 ⟨rfl, rfl⟩
        go_wp2_with fail
        go_roundw
        case rel => exact ⟨k + 1, _, _, _, _, by omega, by go_num, by omega, HK.out⟩
        case measure => simp [intOf]; omega
    · have hd : decide ((k : Int) < (len : Int)) = false := by simp; omega
      have hd' : decide (k < len) = false := by simp; omega
      have HK := Lib.hid hK
      have HQ := Lib.hid (queues_any p rv n R wr hK.pq.prc (by omega))
      have hIl2 : I.length ≤ 60 := by omega
      clear hK
      go_wp2_with fail
      refine HQ.out.mono ?_
      rintro e w3 ⟨vw, rfl, hLLw, hB3⟩
      have HK3 := Lib.hid (HK.out.below hB3)
      have HLW : Hid (LL w3 wr.heap.size vw (qs R n)) := hLLw
      have HOldP : Hid (∀ j, Pb p rv n R S j → j < wr.heap.size) := fun j hj => HK.out.pq.lt hj
      obtain ⟨aw, cw, rfl⟩ := hLLw.len
      rw [qs_len] at *
      clear hLLw hB3
      have HRs := Lib.hid (resize_bad to p q w3 hbad)
      go_wp2_with fail
      refine HRs.out.mono ?_
      rintro e w3 ⟨rfl, rfl⟩
      have HZ := Lib.hid (HK3.out.same h2)
      obtain ⟨m, rv4, R4, S4, L4, HM, HQE⟩ : ∃ m rv4 R4 S4 L4, Hid (Rz w w3 w3 p rv n R q S L u9 I rv4 m R4 S4 L4) ∧ Hid (qs R n = qs R4 m) := ⟨_, _, _, _, _, HZ, rfl⟩
      have HLW4 := Lib.hid (HLW.out.only HM.out.only HOldP.out)
      have HQ4 := Lib.hid (queues_any p rv4 m R4 w3 HM.out.kq.pq.prc (by have := HM.out.le; omega))
      clear HZ
      go_wp2_with fail
      refine HQ4.out.mono ?_
      rintro e w5 ⟨vx, rfl, hLLx, hB5⟩
      have HK5 := Lib.hid (HM.out.kq.below hB5)
      have HLW5 := Lib.hid (HLW4.out.below hB5)
      have HLX5 : Hid (LL w5 w3.heap.size vx (qs R4 m)) := hLLx
      obtain ⟨ax, cx, rfl⟩ := hLLx.len
      rw [qs_len] at *
      clear hLLx hB5
      have HLi := Lib.hid (lists_yes _ _ _ _ (qs R n) w5 HLW5.out (by rw [HQE.out]; exact HLX5.out) (by rw [qs_len]; omega))
      go_wp2_with fail
      refine HLi.out.mono ?_
      rintro e w6 ⟨rfl, n6, hw6⟩
      have hB6 : Below w5.heap.size w5 w6 := by rw [hw6]; exact below_drewN (Below.refl _ _) n6
      have HK6 := Lib.hid (HK5.out.below hB6)
      have HLW6 := Lib.hid (HLW5.out.below hB6)
      have HLX6 := Lib.hid (HLX5.out.below hB6)
      clear hB6 hw6 HK5 HLW5 HLX5
      go_wp2_with fail
      have HLst := Lib.hid (Glob.list_any q S4 L4 w6 HK6.out.pq.que (by have := HK6.out.len; omega))
      refine HLst.out.mono ?_
      rintro e w7 ⟨vo, rfl, hown7, hB7⟩
      have HK7 := Lib.hid (HK6.out.below hB7)
      have HLW7 := Lib.hid (HLW6.out.below hB7)
      have HLX7 := Lib.hid (HLX6.out.below hB7)
      have HO7 : Hid (OwnI w7 w6.heap.size vo L4) := hown7
      have hlen7 := HK7.out.perm.length_eq
      rw [List.length_append, fl_len] at hlen7
      have HLen7 := Lib.hid hlen7
      clear hlen7
      have hm20 := HM.out.le
      clear hown7 hB7
      go_wp2_with fail
      go_loopw [15, 16] (fun v15 i wr => ∃ (k : Nat), k ≤ m ∧ i = .int .i64 k ∧ Below w7.heap.size w7 wr ∧ OwnI wr 0 v15 (L4 ++ fl R4 k)) (fun _ i _ => m - (intOf i).toNat)
      case atStart => exact ⟨0, Nat.zero_le _, rfl, Below.refl _ _, by simpa [fl, qs] using HO7.out.mono (Nat.zero_le _)⟩
      case round =>
        obtain ⟨j, hj, rfl, hBr, hOr⟩ := hrel
        by_cases hjm : j < m
        · have HBr := Lib.hid hBr
          have hLXr := HLX7.out.below hBr
          obtain ⟨ex, gx, ux, rfl, cux, hux⟩ := hLXr.at j (by rw [qs_len]; exact hjm)
          rw [qs_at R4 hjm] at hux
          have hle : (L4 ++ fl R4 j).length + (allL (R4 j).nx (R4 j).row).length < 10000000 := by
            have e1 : (L4 ++ fl R4 (j + 1)).length ≤ 100000 := by
              rw [List.length_append, fl_len]
              have := tot_le HK7.out.pq.prc (j + 1) (by omega)
              have := HM.out.le
              have := HLen7.out
              omega
            rw [join_take, List.length_append] at e1
            omega
          have HJ := Lib.hid (Ref.join_any u15 _ ux _ wr (Slw.ofOwn hOr) (Slw.ofOwn hux) hle)
          obtain ⟨aux, nux, cux', rfl⟩ : ∃ a n c, ux = .slice a n c := by obtain ⟨a, c, hv⟩ := Glob.own_len hux; exact ⟨a, _, c, hv⟩
          have HUX := Lib.hid hux
          have HCX := Lib.hid cux
          clear hLXr hux hOr hBr hle ex
          go_wp2_with fail
          refine HJ.out.mono ?_
          rintro e w8 ⟨v8, rfl, ho8, hB8⟩
          have HO8 : Hid (OwnI w8 0 v8 (L4 ++ fl R4 (j + 1))) := by show OwnI _ _ _ _; rw [join_take]; exact ho8.mono (Nat.zero_le _)
          have HB8 := Lib.hid (below_below HBr.out hB8)
          have cx8 := (hB8.cell (p := ⟨gx, j, none⟩) (lt_of_cell HCX.out)).trans HCX.out
          have HUX8 := Lib.hid (HUX.out.below hB8)
          clear ho8 hB8 cux
          by_cases hjn : j < n
          · obtain ⟨ew, gw, uw, rfl, cuw, huw⟩ := (HLW7.out.below HB8.out).at j (by rw [qs_len]; exact hjn)
            rw [qs_at R hjn, ← HM.out.old j hjm hjn] at huw
            have HSm := Lib.hid (fun m' => Ref.same_yes uw _ _ (w8.drewN m') (Sl.ofOwn huw) (Sl.ofOwn HUX8.out))
            obtain ⟨auw, nuw, cuw', rfl⟩ : ∃ a n c, uw = .slice a n c := by obtain ⟨a, c, hv⟩ := Glob.own_len huw; exact ⟨a, _, c, hv⟩
            have hjn' : decide (j < n) = true := by simpa using hjn
            clear huw ew
            go_wp2_with fail
            go_quiet ((go_at_call 20; exact Calls.quiet_of (HSm.out _)))
            go_wp2_with fail
            go_roundw
            case rel => exact ⟨j + 1, by omega, by go_num, below_drewN HB8.out _, HO8.out.drewN _⟩
            case measure => simp [intOf]; omega
          · have hjn' : decide (j < n) = false := by simpa using hjn
            go_wp2_with fail
            go_quiet (fail)
            go_wp2_with fail
            go_roundw
            case rel => exact ⟨j + 1, by omega, by go_num, below_drewN HB8.out _, HO8.out.drewN _⟩
            case measure => simp [intOf]; omega
        · obtain rfl : j = m := by omega
          have HK8 := Lib.hid (HK7.out.below hBr)
          have HOr := Lib.hid hOr
          obtain ⟨a9, c9, rfl⟩ := Glob.own_len HK8.out.own
          have HS1 := Lib.hid (Ref.sorted_any _ I wr (Slw.ofOwn HK8.out.own) (by omega))
          have hln2 : (L4 ++ fl R4 j).length ≤ 100000 := by rw [← HK8.out.perm.length_eq]; omega
          have HLn2 := Lib.hid hln2
          have hLI : L4.length ≤ I.length := HK8.out.len
          clear hBr hOr hln2
          go_wp2_with fail
          refine HS1.out.mono ?_
          rintro e w8 ⟨v8, rfl, ho8, hB8⟩
          have HO8 := Lib.hid ho8
          have HK9 := Lib.hid (HK8.out.below hB8)
          have HS2 := Lib.hid (Ref.sorted_any _ _ w8 (Slw.ofOwn (HOr.out.below hB8)) HLn2.out)
          clear ho8 hB8 HK8
          go_wp2_with fail
          refine HS2.out.mono ?_
          rintro e w9 ⟨v9, rfl, ho9, hB9⟩
          have HKa := Lib.hid (HK9.out.below hB9)
          have HSm := Lib.hid (Ref.same_yes v8 v9 (insAll [] I) w9 (Sl.ofOwn (HO8.out.below hB9)) (by rw [size_le HK9.out]; exact Sl.ofOwn ho9))
          clear ho9 hB9 HK9
          go_wp2_with fail
          refine HSm.out.mono ?_
          rintro e wa ⟨rfl, na, hwa⟩
          have hBa : Below w9.heap.size w9 wa := by rw [hwa]; exact below_drewN (Below.refl _ _) na
          have HKb := Lib.hid (HKa.out.below hBa)
          have HT := Lib.hid (total_any p rv4 j R4 wa HKb.out.pq.prc (by omega))
          have e1 : IntKind.i64.wrap ((tot R4 j : Int) + (L4.length : Int)) = (I.length : Int) := by
            have := HLen7.out
            rw [IntWalk.i64_in _ (by omega)]
            omega
          have HE1 := Lib.hid e1
          generalize tot R4 j = tt at *
          clear hwa hBa HKa
          go_wp2_with fail
          refine HT.out.mono ?_
          rintro e wb ⟨rfl, nb, hwb⟩
          have hBb : Below wa.heap.size wa wb := by rw [hwb]; exact below_drewN (Below.refl _ _) nb
          have HKc := Lib.hid (HKb.out.below hBb)
          have HLq := Lib.hid (Glob.len_any q S4 L4 wb HKc.out.pq.que (by omega))
          clear hwb hBb HKb
          go_wp2_with fail
          refine HLq.out.mono ?_
          rintro e wc ⟨rfl, nc, hwc⟩
          have hBc : Below wb.heap.size wb wc := by rw [hwc]; exact below_drewN (Below.refl _ _) nc
          have HKd := Lib.hid (HKc.out.below hBc)
          clear hwc hBc HKc
          go_wp2_with fail
          refine (alive_any _).mono ?_
          rintro e wd ⟨rfl, hBd⟩
          have HKe := Lib.hid (HKd.out.below hBd)
          clear hBd HKd
          go_wp2_with fail
          go_ret
          exact ⟨rfl, HKe.out.bel⟩


theorem keeps (w : World) (n : Int) (_ : (Lit.int .i64 n).wf = true) (a : Option Addr) (len cap : Nat) (f : Nat → Nat → Int) (hr : Row w a len 3 f) (to : Int) (_ : (Lit.int .i64 to).wf = true) :
    Calls Try.prog 10 #[.int .i64 n, .slice a len cap, .int .i64 to] w fun e w' => e = .returned (.bool true) ∧ Below w.heap.size w w' := by
  by_cases h : n < 1 ∨ 20 < n ∨ 60 < len ∨ (20 < to ∧ to ≤ 256)
  · exact keeps_bad w n a len cap to h
  · obtain ⟨m, rfl⟩ := Int.eq_ofNat_of_zero_le (show 0 ≤ n by omega)
    by_cases h1 : to < 1
    · exact keeps_low w m (by omega) (by omega) a len cap f hr (by omega) to h1
    · by_cases h2 : 256 < to
      · exact keeps_high w m (by omega) (by omega) a len cap f hr (by omega) to h2
      · obtain ⟨t, rfl⟩ := Int.eq_ofNat_of_zero_le (show 0 ≤ to by omega)
        exact keeps_good w m (by omega) (by omega) a len cap f hr (by omega) t (by omega) (by omega)
end Go.Proofs.Ytgahkcbkpnehfaa.Procs
