/- Chapter 19: the walk of PstatOnes. -/
import Derived.Test.YtcjgdnlacfpioaaPstatOnesA
namespace Go.Proofs.Ytcjgdnlacfpioaa.Pstat
open Go.RowKit Go.Esc
set_option linter.unusedVariables false

theorem info3 : (Try.prog.info? 3).map (fun i => (i.zero, i.size, i.bytes)) = some (some (.int .i64 0), 1, 8) := by kernel_rfl
theorem swap {f : FuncId} {args : Array Value} {w : World} {v : Value} (h : Calls Try.prog f args w fun e w' => e = .returned v ∧ w = w') : Calls Try.prog f args w fun e w' => e = .returned v ∧ w' = w := h.mono (by rintro e w' ⟨rfl, rfl⟩; exact ⟨rfl, rfl⟩)

set_option maxRecDepth 100000 in
set_option maxHeartbeats 8000000 in
theorem ones (w : World) (n0 : Int) (_ : (Lit.int .i64 n0).wf = true) (a : Option Addr) (len cap : Nat) (f : Nat → Nat → Int) (hr : Row w a len 3 f) :
    Calls Try.prog 7 #[.int .i64 n0, .slice a len cap] w fun e w' => e = .returned (.bool true) ∧ Below w.heap.size w w' := by
  have HL := Lib.hid (light_any w a len cap f hr)
  have HRow := Lib.hid hr
  clear hr
  by_cases hn1 : n0 < 1
  · have d1 : decide (n0 < 1) = true := by simpa using hn1
    go_enter Try.func7, Try.ntmps7
    go_wp2_with fail
    refine HL.out.mono ?_
    rintro e w1 ⟨b, rfl, rfl, _⟩
    cases b
    all_goals
      go_wp2_with fail
      refine (alive_any _).mono ?_
      rintro e w1 ⟨rfl, hB⟩
      have HB := Lib.hid hB
      clear hB
      go_wp2_with fail
      go_ret
      exact ⟨rfl, HB.out⟩
  have d1 : decide (n0 < 1) = false := by simpa using hn1
  by_cases hn2 : 20 < n0
  · have d2 : decide (20 < n0) = true := by simpa using hn2
    go_enter Try.func7, Try.ntmps7
    go_wp2_with fail
    refine HL.out.mono ?_
    rintro e w1 ⟨b, rfl, rfl, _⟩
    cases b
    all_goals
      go_wp2_with fail
      refine (alive_any _).mono ?_
      rintro e w1 ⟨rfl, hB⟩
      have HB := Lib.hid hB
      clear hB
      go_wp2_with fail
      go_ret
      exact ⟨rfl, HB.out⟩
  have d2 : decide (20 < n0) = false := by simpa using hn2
  obtain ⟨n, rfl⟩ := Int.eq_ofNat_of_zero_le (show 0 ≤ n0 by omega)
  have h1 : 1 ≤ n := by omega
  have h2 : n ≤ 20 := by omega
  clear hn1 hn2
  have HN := Lib.hid (new_good n w h1 (by omega))
  go_enter Try.func7, Try.ntmps7
  go_wp2_with fail
  refine HL.out.mono ?_
  rintro e w1 ⟨b, rfl, rfl, hb⟩
  cases b with
  | false =>
    clear hb
    go_wp2_with fail
    refine (alive_any _).mono ?_
    rintro e w1 ⟨rfl, hB⟩
    have HB := Lib.hid hB
    clear hB
    go_wp2_with fail
    go_ret
    exact ⟨rfl, HB.out⟩
  | true =>
    obtain ⟨hlen, hkinds⟩ := hb rfl
    have HKi := Lib.hid hkinds
    clear hb hkinds
    go_wp2_with fail
    refine HN.out.mono ?_
    rintro e w1 ⟨rfl, tv0, hT0, hB0⟩
    have HT0 := Lib.hid hT0
    have HB0 := Lib.hid hB0
    clear hT0 hB0
    obtain ⟨t, HTt⟩ : ∃ t, Hid (w.heap.size = t) := ⟨_, rfl⟩
    have HT1 : Hid (Tb w1 t tv0 (List.replicate n (0, -1))) := by rw [← HTt.out]; exact HT0.out
    rw [show (⟨w.heap.size, 0, none⟩ : Addr) = ⟨t, 0, none⟩ by rw [HTt.out]]
    clear HT0
    go_wp2_with fail
    go_loopw [6] (fun i wr => ∃ (k : Nat) (tv : Value) (l : List Pr), k ≤ len ∧ i = .int .i64 k ∧ Tb wr t tv l ∧ l.length = n ∧ oneEach l ∧ Below w.heap.size w wr) (fun i _ => len - (intOf i).toNat)
    case atStart => exact ⟨0, tv0, _, Nat.zero_le _, rfl, HT1.out, by simp, one_start n, HB0.out⟩
    case round =>
      obtain ⟨k, tv, l, hk, rfl, hT, hln, ho, hB⟩ := hrel
      have HT := Lib.hid hT
      have HO := Lib.hid ho
      have HB := Lib.hid hB
      have HLn := Lib.hid hln
      clear HT1 HB0 ho hln
      by_cases hlt : k < len
      · have hd : decide (k < len) = true := by simpa using hlt
        rcases HRow.out with h0 | ⟨ba, off, rfl, hbl, hml, hcell, hwf⟩
        · omega
        have cA0 := (hB.cell (p := ⟨ba, off + (k * 3 + 0), none⟩) hbl).trans (hcell k 0 hlt (by omega))
        have cA1 := (hB.cell (p := ⟨ba, off + (k * 3 + 1), none⟩) hbl).trans (hcell k 1 hlt (by omega))
        have cA2 := (hB.cell (p := ⟨ba, off + (k * 3 + 2), none⟩) hbl).trans (hcell k 2 hlt (by omega))
        have hk6 := HKi.out k hlt
        rw [← Nat.add_assoc] at cA1 cA2
        simp only [Nat.add_zero] at cA0
        generalize f k 0 = kind at *
        generalize f k 1 = pp at *
        generalize f k 2 = m at *
        clear hcell hwf hB hT
        have hki : (k : Int) < (len : Int) := by omega
        go_wp2_with fail
        obtain ⟨wx, hwx⟩ : ∃ wx, wx = wr.alloc (.cells #[.int .i64 kind, .int .i64 pp, .int .i64 m] 55) := ⟨_, rfl⟩
        rw [← hwx]
        have HTx : Hid (Tb wx t tv l) := by rw [hwx]; exact HT.out.below (below_alloc (Below.refl _ _) _)
        have HBx : Hid (Below w.heap.size w wx) := by rw [hwx]; exact below_alloc HB.out _
        have HXx : Hid (Blk wx wr.heap.size #[.int .i64 kind, .int .i64 pp, .int .i64 m] 55) := by rw [hwx]; exact Blk.new wr _ 55
        have HXt : Hid (∀ j, Tf t tv j → j < wr.heap.size) := fun j hj => HT.out.lt hj
        have HXs : Hid (wr.heap.size < wx.heap.size) := by rw [hwx]; simp [Hid]
        clear hwx cA0 cA1 cA2 HT HB
        generalize wr.heap.size = X at *
        go_loopw [8, 9, 10] (fun v8 v9 i wr => ∃ j : Nat, j ≤ n ∧ i = .int .i64 j ∧ v8 = .int .i64 (cntW m (l.take j) : Nat) ∧ OwnI wr wx.heap.size v9 (ws l j) ∧ Below wx.heap.size wx wr) (fun _ _ i _ => n - (intOf i).toNat)
        case atStart => exact ⟨0, Nat.zero_le _, rfl, by simp [cntW], by simpa [ws] using OwnI.nil _ _, Below.refl _ _⟩
        case round =>
          obtain ⟨j, hj, rfl, rfl, hW, hBr⟩ := hrel
          have hTr := HTx.out.below hBr
          have hXr := HXx.out.below hBr HXs.out
          have x0 := hXr.cell 0
          have x1 := hXr.cell 1
          have x2 := hXr.cell 2
          have hXl := hXr.lt
          simp only [List.getElem?_toArray, List.getElem?_cons_zero, List.getElem?_cons_succ] at x0 x1 x2
          have HTr := Lib.hid hTr
          have HXr := Lib.hid hXr
          have HW := Lib.hid hW
          have HBr := Lib.hid hBr
          have hsz := hBr.size
          by_cases hjn : j < n
          · have hdj : decide (j < n) = true := by simpa using hjn
            have hjl : j < l.length := by rw [HLn.out]; exact hjn
            obtain ⟨hg1, hg2⟩ := get_in hjl
            have HWho : Hid (∀ q, Calls Try.prog 29 #[.pointer (some ⟨t, 0, none⟩), .int .i64 j] (wr.drewN q) fun e w' => e = .returned (.int .i64 (l[j]?.getD pz).2) ∧ w' = wr.drewN q) := fun q => by
              have := swap (who_any t tv l j (wr.drewN q) (hTr.below (below_drewN (Below.refl _ _) q)))
              rw [hg2] at this
              exact this
            have HGet : Hid (∀ q, Calls Try.prog 30 #[.pointer (some ⟨t, 0, none⟩), .int .i64 j] (wr.drewN q) fun e w' => e = .returned (.int .i64 (l[j]?.getD pz).1) ∧ w' = wr.drewN q) := fun q => by
              have := swap (get_any t tv l j (wr.drewN q) (hTr.below (below_drewN (Below.refl _ _) q)))
              rw [hg1] at this
              exact this
            have HC := Lib.hid (cntW_take m l j hjl)
            have HWs := Lib.hid (ws_succ l j hjl)
            have HWl := Lib.hid (ws_len l j (by omega))
            have hcl : cntW m (l.take j) ≤ j := Nat.le_trans List.countP_le_length (by rw [List.length_take]; omega)
            have HWv : Hid (wv (l[j]?.getD pz) = IntKind.i64.wrap (IntKind.i64.wrap (10 * (l[j]?.getD pz).2) + (l[j]?.getD pz).1)) := rfl
            rw [HWv.out] at HWs
            clear hg1 hg2 hTr hXr hW hBr HWv hjl
            generalize (l[j]?.getD pz).1 = y1 at *
            generalize (l[j]?.getD pz).2 = y2 at *
            obtain ⟨z10, hz10⟩ : ∃ z, IntKind.i64.wrap (10 * y2) = z := ⟨_, rfl⟩
            rw [hz10] at HWs
            obtain ⟨z, hz⟩ : ∃ z, IntKind.i64.wrap (z10 + y1) = z := ⟨_, rfl⟩
            rw [hz] at HWs
            generalize cntW m (l.take j) = c at *
            by_cases hm : (y2 == m) = true
            · rw [if_pos hm] at HC
              go_wp2_with fail
              go_quiet ((go_at_call 29; exact Calls.quiet_of_same (HWho.out _)))
              go_wp2_with fail
              refine (HWho.out nq).mono ?_
              rintro e w2 ⟨rfl, rfl⟩
              go_wp2_with fail
              refine (HGet.out nq).mono ?_
              rintro e w2 ⟨rfl, rfl⟩
              go_wp2_with (at_builtin; refine appX Try.underlying22 info3 wx.heap.size _ rfl _ _ rfl u9 (ws l j) _ [z] rfl rfl ((HW.out.drewN _).alloc _) (Slw.new1 (wr.drewN nq) z) (by simp; omega) (by rw [HWl.out]; simp; omega) ?_; intro v' w2 hA; have HA := Lib.hid hA; clear hA)
              go_roundw
              case rel =>
                refine ⟨j + 1, by omega, by go_num, ?_, ?_, ?_⟩
                · rw [HC.out]; go_num
                · rw [HWs.out]; exact HA.out.1
                · exact below_grown (below_alloc (below_drewN HBr.out _) _) HA.out.2.1 (fun q hq => (HW.out.lt q hq).1)
              case measure => simp [intOf]; omega
            · rw [if_neg hm] at HC
              have hm' : (y2 == m) = false := by simpa using hm
              go_wp2_with fail
              go_quiet ((go_at_call 29; exact Calls.quiet_of_same (HWho.out _)))
              go_wp2_with fail
              refine (HWho.out nq).mono ?_
              rintro e w2 ⟨rfl, rfl⟩
              go_wp2_with fail
              refine (HGet.out nq).mono ?_
              rintro e w2 ⟨rfl, rfl⟩
              go_wp2_with (at_builtin; refine appX Try.underlying22 info3 wx.heap.size _ rfl _ _ rfl u9 (ws l j) _ [z] rfl rfl ((HW.out.drewN _).alloc _) (Slw.new1 (wr.drewN nq) z) (by simp; omega) (by rw [HWl.out]; simp; omega) ?_; intro v' w2 hA; have HA := Lib.hid hA; clear hA)
              go_roundw
              case rel =>
                refine ⟨j + 1, by omega, by go_num, ?_, ?_, ?_⟩
                · rw [HC.out]; rfl
                · rw [HWs.out]; exact HA.out.1
                · exact below_grown (below_alloc (below_drewN HBr.out _) _) HA.out.2.1 (fun q hq => (HW.out.lt q hq).1)
              case measure => simp [intOf]; omega
          · have hdj : decide (j < n) = false := by simpa using hjn
            obtain rfl : j = n := by omega
            have HTk : Hid (l.take j = l) := List.take_of_length_le (by rw [HLn.out]; exact Nat.le_refl _)
            rw [HTk.out]
            have HWl := Lib.hid (ws_len l j (by rw [HLn.out]; exact Nat.le_refl _))
            obtain ⟨gw, cw, rfl, hcw⟩ : ∃ gw cw, u9 = .slice (some ⟨gw, 0, none⟩) j cw ∧ wx.heap.size ≤ gw := by
              rcases hW.open with ⟨_, h0⟩ | ⟨g, cap, h0, hge, _⟩
              · have := HWl.out; rw [h0] at this; simp at this; omega
              · rw [HWl.out] at h0; exact ⟨g, cap, h0, hge⟩
            have HOn := HO.out
            obtain ⟨c, HCc⟩ : ∃ c, Hid (cntW m l = c) := ⟨_, rfl⟩
            have hc1 : 0 ≤ m → c ≤ 1 := fun h => by rw [← HCc.out]; exact HOn m h
            rw [HCc.out]
            have HBw := Lib.hid (below_below HBx.out hBr)
            have HAct := Lib.hid (act_any t tv l kind pp m wr hTr (by rw [HLn.out]; omega))
            have HOne : Hid (kind ≠ 6 → (kind = 0 → c = 0) → oneEach (actL l kind pp m) ∧ (actL l kind pp m).length = l.length ∧ ∀ q : Nat, (q : Int) ≠ pp → (actL l kind pp m)[q]? = l[q]?) := fun h6 h0 => one_act (by omega) HOn (fun h => by rw [HCc.out]; exact h0 h)
            clear HOn hTr hXr hW hBr HTx HXx HBx
            have hb1 : (decide ((1 : Int) < (c : Int)) = true ∧ decide (0 ≤ m) = false) ∨ decide ((1 : Int) < (c : Int)) = false := by
              by_cases e : 1 < c
              · left; refine ⟨by simp; omega, ?_⟩
                simp; omega
              · right; simp; omega
            have hb2 : (kind == 6) = true ∨ ((kind == 6) = false ∧ (kind == 0) = true ∧ decide (0 < c) = true) ∨ ((kind == 6) = false ∧ (kind == 0) = true ∧ decide (0 < c) = false) ∨ ((kind == 6) = false ∧ (kind == 0) = false) := by
              by_cases e6 : kind = 6
              · left; simpa using e6
              · right
                have e6' : (kind == 6) = false := by simpa using e6
                by_cases e0 : kind = 0
                · have e0' : (kind == 0) = true := by simpa using e0
                  by_cases ec : 0 < c
                  · left; exact ⟨e6', e0', by simp; omega⟩
                  · right; left; exact ⟨e6', e0', by simp; omega⟩
                · right; right; exact ⟨e6', by simpa using e0⟩
            rcases hb1 with ⟨b1, bm⟩ | b1
            all_goals
              rcases hb2 with k6 | ⟨k6, k0, kc⟩ | ⟨k6, k0, kc⟩ | ⟨k6, k0⟩
              · go_wp2_with fail
                go_roundw
                case rel => exact ⟨k + 1, tv, l, by omega, by go_num, HTr.out, HLn.out, HO.out, HBw.out⟩
                case measure => simp [intOf]; omega
              · go_wp2_with fail
                go_roundw
                case rel => exact ⟨k + 1, tv, l, by omega, by go_num, HTr.out, HLn.out, HO.out, HBw.out⟩
                case measure => simp [intOf]; omega
              all_goals
                have HOn2 := Lib.hid (HOne.out (by simpa using k6) (fun h => by first | (simp at kc; omega) | (simp [h] at k0)))
                go_wp2_with fail
                refine HAct.out.mono ?_
                rintro e w2 ⟨rfl, tv2, hG⟩
                have HTb := Lib.hid hG.tb
                have hX2 := HXr.out.only hG.only (fun hj => by have := HXt.out _ hj; omega)
                have HX2 := Lib.hid hX2
                have y1 := hX2.cell 1
                simp only [List.getElem?_toArray, List.getElem?_cons_zero, List.getElem?_cons_succ] at y1
                have hW2 := HW.out.off hG.only (fun q hq hs => by have h1 := HXt.out q hs; have h2 := (HW.out.lt q hq).1; have h3 := HXs.out; omega)
                have HW2 := Lib.hid hW2
                have HB2 := Lib.hid (below_only HBw.out hG.only (fun q hq => by rw [HTt.out]; exact HTr.out.ge hq))
                clear hG hX2 hW2 x0 x1 x2
                go_wp2_with fail
                go_loopw [11] (fun i wr => ∃ q m2 : Nat, q ≤ j ∧ i = .int .i64 q ∧ wr = w2.drewN m2) (fun i _ => j - (intOf i).toNat)
                case atStart => exact ⟨0, 0, Nat.zero_le _, rfl, rfl⟩
                case round =>
                  obtain ⟨q, m2, hq, rfl, hw⟩ := hrel
                  have HTw : Hid (Tb wr t tv2 (actL l kind pp m)) := by rw [hw]; exact HTb.out.below (below_drewN (Below.refl _ _) _)
                  have c1w : wr.cell? ⟨X, 1, none⟩ = some (.int .i64 pp) := by rw [hw]; exact y1
                  have HBw2 : Hid (Below w.heap.size w wr) := by rw [hw]; exact below_drewN HB2.out _
                  have HWw : Hid (OwnI wr wx.heap.size (.slice (some ⟨gw, 0, none⟩) j cw) (ws l j)) := by rw [hw]; exact HW2.out
                  have HWe := Lib.hid hw
                  clear hw
                  by_cases hqj : q < j
                  · have hdq : decide (q < j) = true := by simpa using hqj
                    have hqi : (q : Int) < (j : Int) := by omega
                    by_cases hqp : (q : Int) = pp
                    · have hne : ((q : Int) != pp) = false := by simpa using hqp
                      go_wp2_with fail
                      go_quiet (fail)
                      go_wp2_with fail
                      go_roundw
                      case rel => exact ⟨q + 1, _, by omega, by go_num, by rw [HWe.out]; exact World.drewN_drewN _ _ _⟩
                      case measure => simp [intOf]; omega
                    · have hne : ((q : Int) != pp) = true := by simpa using hqp
                      have hql : q < l.length := by rw [HLn.out]; exact hqj
                      have hql2 : q < (actL l kind pp m).length := by rw [HOn2.out.2.1]; exact hql
                      obtain ⟨hg1, hg2⟩ := get_in hql2
                      rw [HOn2.out.2.2 q hqp] at hg1 hg2
                      have HWho2 : Hid (∀ r, Calls Try.prog 29 #[.pointer (some ⟨t, 0, none⟩), .int .i64 q] (wr.drewN r) fun e w' => e = .returned (.int .i64 (l[q]?.getD pz).2) ∧ w' = wr.drewN r) := fun r => by
                        have := swap (who_any t tv2 _ q (wr.drewN r) (HTw.out.below (below_drewN (Below.refl _ _) r)))
                        rw [hg2] at this
                        exact this
                      have HGet2 : Hid (∀ r, Calls Try.prog 30 #[.pointer (some ⟨t, 0, none⟩), .int .i64 q] (wr.drewN r) fun e w' => e = .returned (.int .i64 (l[q]?.getD pz).1) ∧ w' = wr.drewN r) := fun r => by
                        have := swap (get_any t tv2 _ q (wr.drewN r) (HTw.out.below (below_drewN (Below.refl _ _) r)))
                        rw [hg1] at this
                        exact this
                      have cw1 : wr.cell? ⟨gw, q, none⟩ = some (.int .i64 (wv (l[q]?.getD pz))) := by
                        rcases HWw.out.open with ⟨h0, _⟩ | ⟨g, cap, h0, _, _, _, hcells⟩
                        · cases h0
                        · simp only [Value.slice.injEq, Option.some.injEq, Addr.mk.injEq] at h0
                          obtain ⟨⟨rfl, _⟩, _⟩ := h0
                          rw [hcells q (by rw [HWl.out]; exact hqj), ws_at l j q hqj (by rw [HLn.out]; exact Nat.le_refl _)]
                      have HWv : Hid (wv (l[q]?.getD pz) = IntKind.i64.wrap (IntKind.i64.wrap (10 * (l[q]?.getD pz).2) + (l[q]?.getD pz).1)) := rfl
                      rw [HWv.out] at cw1
                      clear hg1 hg2 HWv hql hql2
                      generalize (l[q]?.getD pz).1 = a1 at *
                      generalize (l[q]?.getD pz).2 = a2 at *
                      obtain ⟨z10, hz10⟩ : ∃ z, IntKind.i64.wrap (10 * a2) = z := ⟨_, rfl⟩
                      rw [hz10] at cw1
                      obtain ⟨z, hz⟩ : ∃ z, IntKind.i64.wrap (z10 + a1) = z := ⟨_, rfl⟩
                      rw [hz] at cw1
                      have hzz : (z != z) = false := by simp
                      go_wp2_with fail
                      go_quiet (first | (go_at_call 29; exact Calls.quiet_of_same (HWho2.out _)) | (go_at_call 30; exact Calls.quiet_of_same (HGet2.out _)))
                      go_wp2_with fail
                      go_roundw
                      case rel => exact ⟨q + 1, _, by omega, by go_num, by rw [HWe.out]; exact World.drewN_drewN _ _ _⟩
                      case measure => simp [intOf]; omega
                  · have hdq : decide (q < j) = false := by simpa using hqj
                    obtain rfl : q = j := by omega
                    go_wp2_with fail
                    go_roundw
                    case rel => exact ⟨k + 1, tv2, _, by omega, by go_num, HTw.out, by rw [HOn2.out.2.1]; exact HLn.out, HOn2.out.1, HBw2.out⟩
                    case measure => simp [intOf]; omega
      · have hd : decide (k < len) = false := by simpa using hlt
        obtain rfl : k = len := by omega
        clear hB hT
        go_wp2_with fail
        refine (alive_any _).mono ?_
        rintro e w9 ⟨rfl, hB9⟩
        have HE := Lib.hid (below_below HB.out hB9)
        clear hB9
        go_wp2_with fail
        go_ret
        exact ⟨rfl, HE.out⟩
end Go.Proofs.Ytcjgdnlacfpioaa.Pstat
