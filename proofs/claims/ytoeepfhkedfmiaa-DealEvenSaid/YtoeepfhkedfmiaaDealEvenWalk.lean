/- Chapter 17: the walk of DealEven. -/
import Derived.Test.YtoeepfhkedfmiaaDealLaws
import Derived.Test.YtoeepfhkedfmiaaDealOncePlain
namespace Go.Proofs.Ytoeepfhkedfmiaa.Deal
open Go.RowKit Go.Esc Num

theorem makeInts (m : Nat) (hm : m ≤ 100000) (w : World) : (Instr.makeSlice 49 (.int .i64 (m : Int)) (.int .i64 (m : Int))).run Try.prog w = .ok (.slice (some ⟨w.heap.size, 0, none⟩) m m) (w.alloc (.cells (madeCells #[.int .i64 0] m) 3)) :=
  run_make_row' 49 3 (.int .i64 0) 8 Try.underlying49 info3 rfl .i64 .i64 m (by omega) (by omega) w

set_option maxRecDepth 100000 in
set_option maxHeartbeats 2000000 in
theorem even_good (m : Nat) (w : World) (hm1 : 1 ≤ m) (hm2 : m ≤ 20) : Calls Try.prog 10 #[.int .i64 m] w fun e w' => e = .returned (.bool true) ∧ Below w.heap.size w w' := by
  have hnb : ¬ dealBad m := by unfold dealBad; omega
  have hpos := copL_pos (n := m) (by omega) (by omega)
  have hclen := copL_len m
  obtain ⟨W, HW, hW1, hW2⟩ : ∃ W : Nat, Hid (waysZ m = W) ∧ Hid (W = m * (copL m).length) ∧ W ≤ 262144 := by
    refine ⟨m * (copL m).length, ?_, rfl, ?_⟩
    · show _ = _
      unfold waysZ
      rw [if_neg hnb]
      simp
    · have := ways_hi (n := (m : Int))
      unfold waysZ at this
      rw [if_neg hnb] at this
      omega
  have HWc := Lib.hid (ways_any m)
  rw [HW.out] at HWc
  have hd1 : decide ((m : Int) < 1) = false := by simp; omega
  have hd2 : decide ((20 : Int) < (m : Int)) = false := by simp; omega
  have hmk := makeInts m (by omega)
  go_enter Try.func10, Try.ntmps10
  go_wp2_with fail
  go_loopw [4] (fun i wr => ∃ d : Nat, d ≤ W ∧ i = .int .i64 d ∧ Below w.heap.size w wr ∧ Cells wr w.heap.size m 3 (fun j => .int .i64 (cnt m j d : Nat)))
    (fun i _ => W - (intOf i).toNat)
  case atStart =>
    refine ⟨0, Nat.zero_le _, rfl, below_alloc (Below.refl _ _) _, (Cells.made w m 3 (.int .i64 0)).congr fun i hi => ?_⟩
    simp [cnt]
  case round =>
    obtain ⟨d, hd, rfl, hbel, hcs⟩ := hrel
    by_cases hlt : d < W
    · have hfirst := order_first (d := d) hnb (by rw [HW.out]; omega)
      obtain ⟨hLl, hLn, hLr⟩ := order_all (draw := (d : Int)) hnb
      simp only [Int.toNat_natCast] at hLl
      have HO := Lib.hid (order_any m d)
      generalize orderL m d = L at *
      have HF := Lib.hid hfirst
      clear hfirst hLn hLr
      have hxm : d % m < m := Nat.mod_lt _ (by omega)
      obtain ⟨x, HX⟩ : ∃ x, Hid (d % m = x) := ⟨_, rfl⟩
      rw [HX.out] at hxm
      have hHcs := Lib.hid hcs
      clear hcs
      go_wp2_with fail
      refine (HWc.out _).mono ?_
      rintro e w1 ⟨rfl, hb1⟩
      go_wp2_with fail
      refine (HO.out _).mono ?_
      rintro e w2 ⟨v2, rfl, ho2, hb2⟩
      obtain ⟨b2, off2, cap2, rfl, hbl2, hcells2⟩ := sl_cell (Sl.ofOwn ho2) (by intro h; simp [h] at hLl; omega)
      have hb12 := below_below hb1 hb2
      have hcs2 := hHcs.out.below hb12 hHcs.out.lt
      have c0 := hcells2 0 (by omega)
      rw [HF.out, show ((d : Int) % (m : Int)) = ((d % m : Nat) : Int) from rfl, HX.out, Nat.add_zero] at c0
      have c1 := hcs2.cell hxm
      have f1 := hcs2.free x
      have hle := cnt_le m x d
      have hHn := Lib.hid (hcs2.set hxm (.int .i64 ((cnt m x d : Nat) + 1)))
      have hHb := Lib.hid (below_set (below_below hbel hb12) (c := w.heap.size) (Nat.le_refl _) x (.int .i64 ((cnt m x d : Nat) + 1)))
      have hg := hcs2.lt
      have hxd : decide ((x : Int) < 0) = false := by simp
      have hxe : decide ((m : Int) ≤ (x : Int)) = false := by simp; omega
      rw [hLl]
      have hmm : ((m : Int) != (m : Int)) = false := by simp
      clear hcells2 hcs2 ho2 hLl HF
      go_wp2_with fail
      go_roundw
      case rel =>
        refine ⟨d + 1, by omega, by go_num, hHb.out, hHn.out.congr fun j hj => ?_⟩
        by_cases hjx : j = x
        · subst hjx
          rw [if_pos rfl, cnt, if_pos HX.out]
          rfl
        · rw [if_neg hjx, cnt, if_neg (fun e => hjx (e.symm.trans HX.out)), Nat.add_zero]
      case measure => simp [intOf]; omega
    · obtain rfl : d = W := by omega
      have hcs2 := hcs.congr (G := fun j => .int .i64 ((copL m).length : Nat)) (fun j hj => by rw [hW1.out, cnt_all m j hj])
      have hHcs := Lib.hid hcs2
      clear hcs hcs2
      go_wp2_with fail
      refine (HWc.out _).mono ?_
      rintro e w1 ⟨rfl, hb1⟩
      have hcs3 := hHcs.out.below hb1 hHcs.out.lt
      have c0 := hcs3.cell (i := 0) (by omega)
      have hHc3 := Lib.hid hcs3
      have hb01 := below_below hbel hb1
      clear hcs3
      go_wp2_with fail
      go_loopw [6] (fun i wr => ∃ (k n : Nat), k ≤ m ∧ 1 ≤ k ∧ i = .int .i64 k ∧ wr = w1.drewN n) (fun i _ => m - (intOf i).toNat)
      case atStart => exact ⟨1, 0, hm1, Nat.le_refl _, rfl, rfl⟩
      case round =>
        obtain ⟨k, n, hk, hk1, rfl, rfl⟩ := hrel
        by_cases hkm : k < m
        · have c1 := hHc3.out.cell hkm
          go_wp2_with fail
          go_quiet (fail)
          go_wp2_with fail
          go_roundw
          case rel => exact ⟨k + 1, _, by omega, by omega, by go_num, rfl⟩
          case measure => simp [intOf]; omega
        · have hcp : decide ((0 : Int) < ((copL m).length : Int)) = true := by rw [decide_eq_true_eq]; omega
          go_wp2_with (go_at_call 42; refine (alive_any _).mono ?_; rintro e w' ⟨rfl, hb⟩)
          go_ret
          exact ⟨rfl, below_below (below_drewN hb01 _) hb⟩

theorem even (w : World) (n : Int) (_ : (Lit.int .i64 n).wf = true) : Calls Try.prog 10 #[.int .i64 n] w fun e w' => e = .returned (.bool true) ∧ Below w.heap.size w w' := by
  by_cases h1 : n < 1
  · go_enter Try.func10, Try.ntmps10
    go_wp2_with (go_at_call 42; refine (alive_any _).mono ?_; rintro e w' ⟨rfl, hb⟩)
    go_ret
    exact ⟨rfl, hb⟩
  · by_cases h2 : 20 < n
    · go_enter Try.func10, Try.ntmps10
      go_wp2_with (go_at_call 42; refine (alive_any _).mono ?_; rintro e w' ⟨rfl, hb⟩)
      go_ret
      exact ⟨rfl, hb⟩
    · obtain ⟨m, rfl⟩ := Int.eq_ofNat_of_zero_le (show 0 ≤ n by omega)
      exact even_good m w (by omega) (by omega)

end Go.Proofs.Ytoeepfhkedfmiaa.Deal
