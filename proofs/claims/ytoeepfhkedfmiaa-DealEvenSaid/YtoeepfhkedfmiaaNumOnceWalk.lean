/- Chapter 01: the walk of NumOnce. -/
import Derived.Test.YtoeepfhkedfmiaaGcd
import Derived.Test.YtoeepfhkedfmiaaOncePlain
import Derived.Test.YtoeepfhkedfmiaaCells
namespace Go.Proofs.Ytoeepfhkedfmiaa.Num
open Go.RowKit Go.Esc

theorem infoBool : (Try.prog.info? 4).map (fun i => (i.zero, i.size, i.bytes)) = some (some (.bool false), 1, 1) := by kernel_rfl
theorem makeBools (m : Nat) (hm : m ≤ 100000) (w : World) : (Instr.makeSlice 53 (.int .i64 (m : Int)) (.int .i64 (m : Int))).run Try.prog w = .ok (.slice (some ⟨w.heap.size, 0, none⟩) m m) (w.alloc (.cells (madeCells #[.bool false] m) 4)) :=
  run_make_row' 53 4 (.bool false) 1 Try.underlying53 infoBool rfl .i64 .i64 m (by omega) (by omega) w

/-- A slice that reads as l, opened: its cells, where there are any. -/
theorem sl_cell {w : World} {v : Value} {l : List Int} (h : Sl w v l) (hl : l ≠ []) : ∃ b off cap, v = .slice (some ⟨b, off, none⟩) l.length cap ∧ b < w.heap.size ∧ ∀ i, i < l.length → w.cell? ⟨b, off + i, none⟩ = some (.int .i64 (l[i]?.getD 0)) := by
  obtain ⟨a, cap, rfl, _, h0 | ⟨b, off, rfl, hb, hc⟩⟩ := h
  · exact absurd h0 hl
  · exact ⟨b, off, cap, rfl, hb, hc⟩

set_option maxHeartbeats 1000000 in
theorem once (w : World) (n : Int) (_ : (Lit.int .i64 n).wf = true) (start : Int) (_ : (Lit.int .i64 start).wf = true) (which : Int) (_ : (Lit.int .i64 which).wf = true) :
    Calls Try.prog 8 #[.int .i64 n, .int .i64 start, .int .i64 which] w fun e w' => e = .returned (.bool true) ∧ Below w.heap.size w w' := by
  by_cases hbad : n < 1 ∨ 200 < n
  · by_cases h1 : n < 1
    · clear hbad
      go_enter Try.func8, Try.ntmps8
      go_wp2_with (go_at_call 15; refine (alive_any _).mono ?_; rintro e w' ⟨rfl, hb⟩)
      go_ret
      exact ⟨rfl, hb⟩
    · have h2 : 200 < n := by omega
      clear hbad
      go_enter Try.func8, Try.ntmps8
      go_wp2_with (go_at_call 15; refine (alive_any _).mono ?_; rintro e w' ⟨rfl, hb⟩)
      go_ret
      exact ⟨rfl, hb⟩
  obtain ⟨m, rfl⟩ := Int.eq_ofNat_of_zero_le (show 0 ≤ n by omega)
  have hm1 : 1 ≤ m := by omega
  have hm2 : m ≤ 200 := by omega
  clear hbad
  have hd1 : decide ((m : Int) < 1) = false := by simp; omega
  have hd2 : decide ((200 : Int) < (m : Int)) = false := by simp; omega
  have hpos := copL_pos (n := m) (by omega) (by omega)
  have hlen := copL_len m
  have hmk := makeBools m (by omega)
  have hlb : (((copL m).length : Int) == 0) = false := by rw [beq_eq_false_iff_ne]; omega
  go_enter Try.func8, Try.ntmps8
  go_wp2_with fail
  refine (coprimes_any _ _).mono ?_
  rintro e w1 ⟨v, rfl, ho, hb1⟩
  obtain ⟨b, off, cap, rfl, hbl, hcells⟩ := sl_cell (Sl.ofOwn ho) (by intro h; simp [h] at hpos)
  have hmem : ∀ i, i < (copL m).length → (copL m)[i]?.getD 0 ∈ copL m := fun i hi => by simp [hi]
  generalize hLen : (copL m).length = len at *
  have HL := Lib.hid hLen
  clear hLen
  go_wp2_with fail
  refine (Ref.refmod_any _ _ _ (by omega)).mono ?_
  rintro e w1 ⟨rfl, rfl⟩
  have hq0 := modZ_lo which len
  have hq1 := modZ_hi which len (by omega)
  obtain ⟨q, HQ⟩ := Int.eq_ofNat_of_zero_le hq0
  rw [HQ] at hq0 hq1 ⊢
  have HQ' := Lib.hid HQ
  clear HQ
  have hql : q < len := by omega
  have hcq := hcells q hql
  obtain ⟨_, _, hs1, hs2, hcop⟩ := copL_mem (hmem q hql)
  generalize (copL m)[q]?.getD 0 = s at *
  clear hcells hmem
  go_wp2_with fail
  refine (walked_any _ _ _ _).mono ?_
  rintro e w2 ⟨v2, rfl, ho2, hb2⟩
  have hnb : ¬ walkBad m s := by unfold walkBad; omega
  rw [walkL_nat hnb] at ho2
  have hinj := fun (i j : Nat) (hij : i < j) (hj : j < m) => walkAt_inj (n := m) (s := s) (start := start) (by omega) hs1 hcop hij (by omega)
  obtain ⟨b2, off2, cap2, rfl, hbl2, hcells2⟩ := sl_cell (Sl.ofOwn ho2) (by intro h; have := congrArg List.length h; simp at this; omega)
  simp only [List.length_map, List.length_range] at hcells2 ⊢
  have hHin := Lib.hid hinj
  have hHc := Lib.hid hcells2
  clear hinj hcells2 hcq HQ' HL ho ho2 hcop hlb hlen
  have hbel2 : Below w.heap.size w w2 := below_below hb1 hb2
  go_wp2_with fail
  go_loopw [10] (fun i wr => ∃ k : Nat, k ≤ m ∧ i = .int .i64 k ∧ Below w2.heap.size w2 wr ∧ Cells wr w2.heap.size m 4 (fun j => .bool (decide (∃ a, a < k ∧ walkAt m start s a = (j : Int)))))
    (fun i _ => m - (intOf i).toNat)
  case atStart =>
    refine ⟨0, Nat.zero_le _, rfl, below_alloc (Below.refl _ _) _, (Cells.made w2 m 4 (.bool false)).congr fun i hi => ?_⟩
    simp
  case round =>
    obtain ⟨k, hk, rfl, hbel, hcs⟩ := hrel
    by_cases hlt : k < m
    · have c0 := (hbel.cell (p := ⟨b2, off2 + k, none⟩) hbl2).trans (hHc.out k hlt)
      rw [show ((List.range m).map (walkAt m start s))[k]?.getD 0 = walkAt m start s k by simp [hlt]] at c0
      have hx0 := walkAt_lo m start s k (by omega)
      have hx1 := walkAt_hi m start s k (by omega)
      obtain ⟨x, HX⟩ := Int.eq_ofNat_of_zero_le hx0
      rw [HX] at c0 hx0 hx1
      have HX' := Lib.hid HX
      clear HX
      have hxm : x < m := by omega
      have c1 := hcs.cell hxm
      have f1 := hcs.free x
      rw [decide_eq_false (by rintro ⟨a, ha, hax⟩; exact hHin.out a k ha hlt (hax.trans HX'.out.symm))] at c1
      have hnext := hcs.set hxm (.bool true)
      have hg := hcs.lt
      have hbel' := below_set hbel (c := w2.heap.size) (Nat.le_refl _) x (.bool true)
      have hHn := Lib.hid hnext
      have hHb := Lib.hid hbel'
      have hxd : decide ((x : Int) < 0) = false := by simp
      have hxe : decide ((m : Int) ≤ (x : Int)) = false := by simp; omega
      clear hnext hbel' hcs
      go_wp2_with fail
      go_roundw
      case rel =>
        refine ⟨k + 1, by omega, by go_num, hHb.out, hHn.out.congr fun j hj => ?_⟩
        by_cases hjx : j = x
        · subst hjx
          rw [if_pos rfl, decide_eq_true ⟨k, by omega, HX'.out⟩]
        · rw [if_neg hjx]
          congr 1
          apply decide_eq_decide.2
          constructor
          · rintro ⟨a, ha, h⟩; exact ⟨a, by omega, h⟩
          · rintro ⟨a, ha, h⟩
            refine ⟨a, ?_, h⟩
            rcases Nat.lt_or_ge a k with h' | h'
            · exact h'
            · obtain rfl : a = k := by omega
              have := HX'.out
              omega
      case measure => simp [intOf]; omega
    · go_wp2_with (go_at_call 15; refine (alive_any _).mono ?_; rintro e w' ⟨rfl, hb⟩)
      go_ret
      exact ⟨rfl, below_below (below_below hbel2 hbel) hb⟩
end Go.Proofs.Ytoeepfhkedfmiaa.Num
