/- Chapter 17: the walk of DealOnce. -/
import Derived.Test.YtoeepfhkedfmiaaDealLaws
import Derived.Test.YtoeepfhkedfmiaaDealOncePlain
import Derived.Test.YtoeepfhkedfmiaaRefHas
namespace Go.Proofs.Ytoeepfhkedfmiaa.Deal
open Go.RowKit Go.Esc Num

set_option maxHeartbeats 1000000 in
theorem once_bad (n self draw : Int) (w : World) (h : dealBad n) :
    Calls Try.prog 14 #[.int .i64 n, .int .i64 self, .int .i64 draw] w fun e w' => e = .returned (.bool true) ∧ Below w.heap.size w w' := by
  have HW := Lib.hid (ways_any n)
  have HO := Lib.hid (order_any n draw)
  have HT := Lib.hid (others_any n self draw)
  rw [show waysZ n = 0 from by unfold waysZ; rw [if_pos h]] at HW
  rw [show orderL n draw = [] from by unfold orderL; rw [if_pos h]] at HO
  rw [show othersL n self draw = [] from by unfold othersL orderL; rw [if_pos h]; rfl] at HT
  unfold dealBad at h
  by_cases h1 : n < 1
  · clear h
    go_enter Try.func14, Try.ntmps14
    go_wp2_with fail
    refine (HO.out _).mono ?_
    rintro e w3 ⟨v3, rfl, ho3, hb3⟩
    obtain ⟨a3, c3, rfl⟩ := own_len ho3
    go_wp2_with fail
    refine (HT.out _).mono ?_
    rintro e w6 ⟨v6, rfl, ho6, hb6⟩
    obtain ⟨a6, c6, rfl⟩ := own_len ho6
    go_wp2_with fail
    refine (HW.out _).mono ?_
    rintro e w1 ⟨rfl, hb1⟩
    go_wp2_with fail
    refine (alive_any _).mono ?_
    rintro e w9 ⟨rfl, hb9⟩
    go_wp2_with fail
    go_ret
    exact ⟨rfl, below_below (below_below (below_below hb3 hb6) hb1) hb9⟩
  · have h2 : 256 < n := by omega
    clear h
    go_enter Try.func14, Try.ntmps14
    go_wp2_with fail
    refine (HO.out _).mono ?_
    rintro e w3 ⟨v3, rfl, ho3, hb3⟩
    obtain ⟨a3, c3, rfl⟩ := own_len ho3
    go_wp2_with fail
    refine (HT.out _).mono ?_
    rintro e w6 ⟨v6, rfl, ho6, hb6⟩
    obtain ⟨a6, c6, rfl⟩ := own_len ho6
    go_wp2_with fail
    refine (HW.out _).mono ?_
    rintro e w1 ⟨rfl, hb1⟩
    go_wp2_with fail
    refine (alive_any _).mono ?_
    rintro e w9 ⟨rfl, hb9⟩
    go_wp2_with fail
    go_ret
    exact ⟨rfl, below_below (below_below (below_below hb3 hb6) hb1) hb9⟩

set_option maxRecDepth 100000 in
set_option maxHeartbeats 2000000 in
theorem once_good (m : Nat) (self draw : Int) (w : World) (hm1 : 1 ≤ m) (hm2 : m ≤ 256) (L T : List Int)
    (HO : Hid (∀ w, Calls Try.prog 44 #[.int .i64 m, .int .i64 draw] w (ListPost L w))) (HT : Hid (∀ w, Calls Try.prog 52 #[.int .i64 m, .int .i64 self, .int .i64 draw] w (ListPost T w)))
    (hLl : L.length = m) (hTl : T.length ≤ m) (HTl : Hid ((T.length : Int) = if 0 ≤ self ∧ self < m then (m : Int) - 1 else m))
    (HR : Hid (∀ i, i < m → ∃ x : Nat, L[i]?.getD 0 = x ∧ x < m)) (HN : Hid (∀ a k, a < k → k < m → L[a]?.getD 0 ≠ L[k]?.getD 0))
    (HTm : Hid (∀ i, i < T.length → T[i]?.getD 0 ∈ L ∧ (T[i]?.getD 0 == self) = false)) :
    Calls Try.prog 14 #[.int .i64 m, .int .i64 self, .int .i64 draw] w fun e w' => e = .returned (.bool true) ∧ Below w.heap.size w w' := by
  have hd1 : decide ((m : Int) < 1) = false := by simp; omega
  have hd2 : decide ((256 : Int) < (m : Int)) = false := by simp; omega
  have hmk := makeBools m (by omega)
  go_enter Try.func14, Try.ntmps14
  go_wp2_with fail
  refine (HO.out _).mono ?_
  rintro e w3 ⟨v3, rfl, ho3, hb3⟩
  go_wp2_with fail
  refine (HT.out _).mono ?_
  rintro e w4 ⟨v4, rfl, ho4, hb4⟩
  have hS3 := (Sl.ofOwn ho3).below hb4
  have hS4 := Sl.ofOwn ho4
  have hS3' := hS3
  obtain ⟨b3, off3, cap3, rfl, hbl3, hcells3⟩ := sl_cell hS3 (by intro h; simp [h] at hLl; omega)
  obtain ⟨a4, cap4, rfl, _, hcl4⟩ := hS4
  rw [hLl] at hcells3 hS3' ⊢
  have HC3 := Lib.hid hcells3
  have HC4 := Lib.hid hcl4
  have HS3 := Lib.hid hS3'
  have HLl := Lib.hid hLl
  have hb34 := below_below hb3 hb4
  clear hcells3 hcl4 ho3 ho4 hS3 hS3' hLl HO HT
  go_wp2_with fail
  go_loopw [10] (fun i wr => ∃ k : Nat, k ≤ m ∧ i = .int .i64 k ∧ Below w4.heap.size w4 wr ∧ Cells wr w4.heap.size m 4 (fun j => .bool (decide (∃ a, a < k ∧ L[a]?.getD 0 = (j : Int)))))
    (fun i _ => m - (intOf i).toNat)
  case atStart =>
    refine ⟨0, Nat.zero_le _, rfl, below_alloc (Below.refl _ _) _, (Cells.made w4 m 4 (.bool false)).congr fun i hi => ?_⟩
    simp
  case round =>
    obtain ⟨k, hk, rfl, hbel, hcs⟩ := hrel
    by_cases hlt : k < m
    · have c0 := (hbel.cell (p := ⟨b3, off3 + k, none⟩) hbl3).trans (HC3.out k hlt)
      obtain ⟨x, HX, hxm⟩ := HR.out k hlt
      rw [HX] at c0
      have HX' := Lib.hid HX
      clear HX
      have c1 := hcs.cell hxm
      have f1 := hcs.free x
      rw [decide_eq_false (by rintro ⟨a, ha, hax⟩; exact HN.out a k ha hlt (hax.trans HX'.out.symm))] at c1
      have hHn := Lib.hid (hcs.set hxm (.bool true))
      have hg := hcs.lt
      have hHb := Lib.hid (below_set hbel (c := w4.heap.size) (Nat.le_refl _) x (.bool true))
      have hxd : decide ((x : Int) < 0) = false := by simp
      have hxe : decide ((m : Int) ≤ (x : Int)) = false := by simp; omega
      clear hcs
      go_wp2_with fail
      go_roundw
      case rel =>
        refine ⟨k + 1, by omega, by go_num, hHb.out, hHn.out.congr fun j hj => ?_⟩
        by_cases hjx : j = x
        · subst hjx
          rw [if_pos rfl, decide_eq_true ⟨k, by omega, HX'.out⟩]
        · rw [if_neg hjx]
          congr 1
          apply decide_eq_decide.2
          constructor
          · rintro ⟨a, ha, h⟩; exact ⟨a, by omega, h⟩
          · rintro ⟨a, ha, h⟩
            refine ⟨a, ?_, h⟩
            rcases Nat.lt_or_ge a k with h' | h'
            · exact h'
            · obtain rfl : a = k := by omega
              have := HX'.out
              omega
      case measure => simp [intOf]; omega
    · clear hcs HC3 HR HN
      have HS5 := Lib.hid (HS3.out.below hbel)
      have hlt4 := hbel.size
      go_wp2_with fail
      go_loop [11] (fun i => ∃ k : Nat, k ≤ T.length ∧ i = .int .i64 k) (fun i => T.length - (intOf i).toNat)
      case atStart => exact ⟨0, Nat.zero_le _, rfl⟩
      case round =>
        obtain ⟨q, hq, rfl⟩ := hrel
        by_cases hqt : q < T.length
        · rcases HC4.out with h0 | ⟨b4, off4, rfl, hbl4, hcells4⟩
          · simp [h0] at hqt
          have c4 := (hbel.cell (p := ⟨b4, off4 + q, none⟩) hbl4).trans (hcells4 q hqt)
          obtain ⟨hmem, hne⟩ := HTm.out q hqt
          have HM := Lib.hid hmem
          clear hcells4 hmem
          generalize T[q]?.getD 0 = y at *
          have hlen3 := HLl.out
          go_wp2_with fail
          refine (Ref.has_yes _ L _ _ (by exact HS5.out) HM.out).mono ?_
          rintro e w5 ⟨rfl, rfl⟩
          go_wp2_with fail
          go_round
          case rel => exact ⟨q + 1, by omega, by go_num⟩
          case measure => simp [intOf]; omega
        · have hqT : q = T.length := by omega
          clear HC4 HTm
          by_cases hs : 0 ≤ self ∧ self < m
          · have HT1 := HTl.out
            rw [if_pos hs] at HT1
            have hTe : ((T.length : Int) == (m : Int) - 1) = true := by rw [beq_iff_eq]; exact HT1
            obtain ⟨hs1, hs2⟩ := hs
            clear HT1
            go_wp2_with (go_at_call 42; refine (alive_any _).mono ?_; rintro e w' ⟨rfl, hb⟩)
            go_ret
            exact ⟨rfl, below_below (below_below hb34 hbel) hb⟩
          · have HT1 := HTl.out
            rw [if_neg hs] at HT1
            have hTe : ((T.length : Int) == (m : Int)) = true := by rw [beq_iff_eq]; exact HT1
            clear HT1
            by_cases hs1 : 0 ≤ self
            · have hs2 : (m : Int) ≤ self := by omega
              clear hs
              go_wp2_with (go_at_call 42; refine (alive_any _).mono ?_; rintro e w' ⟨rfl, hb⟩)
              go_ret
              exact ⟨rfl, below_below (below_below hb34 hbel) hb⟩
            · have hs2 : self < 0 := by omega
              clear hs
              go_wp2_with (go_at_call 42; refine (alive_any _).mono ?_; rintro e w' ⟨rfl, hb⟩)
              go_ret
              exact ⟨rfl, below_below (below_below hb34 hbel) hb⟩

theorem once (w : World) (n : Int) (_ : (Lit.int .i64 n).wf = true) (self : Int) (_ : (Lit.int .i64 self).wf = true) (draw : Int) (_ : (Lit.int .i64 draw).wf = true) :
    Calls Try.prog 14 #[.int .i64 n, .int .i64 self, .int .i64 draw] w fun e w' => e = .returned (.bool true) ∧ Below w.heap.size w w' := by
  by_cases h : dealBad n
  · exact once_bad n self draw w h
  · have h' := h
    unfold dealBad at h'
    obtain ⟨m, rfl⟩ := Int.eq_ofNat_of_zero_le (show 0 ≤ n by omega)
    obtain ⟨h1, h2, h3⟩ := order_all (draw := draw) h
    simp only [Int.toNat_natCast] at h1
    have hget : ∀ i, i < m → (orderL m draw)[i]?.getD 0 = (orderL m draw)[i]?.getD 0 ∧ (orderL m draw)[i]?.getD 0 ∈ orderL m draw := fun i hi => ⟨rfl, by simp [h1, hi]⟩
    refine once_good m self draw w (by omega) (by omega) _ _ (order_any m draw) (others_any m self draw) h1 ?_ (others_len h) ?_ ?_ ?_
    · unfold othersL
      exact Nat.le_trans (List.length_filter_le _ _) (by omega)
    · intro i hi
      have := h3 _ (hget i hi).2
      obtain ⟨x, hx⟩ := Int.eq_ofNat_of_zero_le this.1
      exact ⟨x, hx, by omega⟩
    · intro a k hak hk
      have ha : a < (orderL m draw).length := by omega
      have hk' : k < (orderL m draw).length := by omega
      have := List.pairwise_iff_getElem.1 h2 a k ha hk' hak
      simpa [ha, hk'] using this
    · intro i hi
      have hm : (othersL m self draw)[i]?.getD 0 ∈ othersL m self draw := by simp [hi]
      have h4 := List.mem_filter.1 (show _ ∈ (orderL m draw).filter (fun p => p != self) from hm)
      exact ⟨h4.1, by simpa using h4.2⟩

end Go.Proofs.Ytoeepfhkedfmiaa.Deal
