/- Chapter 03: the walk of NotePlays. -/
import Derived.Test.YtoeepfhkedfmiaaNoteLaw
import Derived.Test.YtoeepfhkedfmiaaOpen
import Derived.Test.YtoeepfhkedfmiaaBaseb
import Derived.Deep.QuietTactic
import Derived.BigQuiet
import Derived.Deep.RegionWith
import Derived.Deep.DeepCutAuto
import Derived.WalkSmall
import Derived.IntWalk
namespace Go.Proofs.Ytoeepfhkedfmiaa.Note
open Go.RowKit Go.Esc

theorem act_at (b : Nat) (s q k who x f s' q' : Int) (w : World) (h : Blk w b #[.int .i64 s, .int .i64 q] 69) (hx : actF k who s q = (x, f, s', q')) :
    Calls Try.prog 24 #[.pointer (some ⟨b, 0, none⟩), .agg #[.int .i64 k, .int .i64 who]] w fun e w' => e = .returned (.tuple #[.int .i64 x, .int .i64 f]) ∧ Blk w' b #[.int .i64 s', .int .i64 q'] 69 ∧ w.grownBy w' (some b) := by
  refine (act_any b s q k who w h).mono ?_
  rintro e w' ⟨rfl, h1, h2⟩
  rw [hx] at h1 ⊢
  exact ⟨rfl, h1, h2⟩

theorem do_at (k who : Int) (st : Bool) (n : Int) (st' : Bool) (n' x f : Int) (w : World) (hn0 : 0 ≤ n) (hn : n ≤ 1099511627777) (hx : doF k who st n = ((st', n'), x, f)) :
    Calls Try.prog 23 #[.agg #[.bool st, .int .i64 n], .agg #[.int .i64 k, .int .i64 who]] w fun e w' => e = .returned (.tuple #[.agg #[.bool st', .int .i64 n'], .int .i64 x, .int .i64 f]) ∧ Below w.heap.size w w' := by
  refine (do_any k who st n w hn0 hn).mono ?_
  rintro e w' ⟨rfl, h1⟩
  rw [hx]
  exact ⟨rfl, h1⟩

theorem set_yes (b : Nat) (q : Int) (w : World) (h : Blk w b #[.int .i64 2, .int .i64 q] 69) : Calls Try.prog 26 #[.pointer (some ⟨b, 0, none⟩)] w fun e w' => e = .returned (.bool true) ∧ w' = w := by
  have c0 := h.cell 0
  simp at c0
  go_enter Try.func26, Try.ntmps26
  go_wp2
  go_ret
  exact ⟨rfl, rfl⟩
theorem set_no (b : Nat) (s q : Int) (w : World) (h : Blk w b #[.int .i64 s, .int .i64 q] 69) (hs : (s == 2) = false) : Calls Try.prog 26 #[.pointer (some ⟨b, 0, none⟩)] w fun e w' => e = .returned (.bool false) ∧ w' = w := by
  have c0 := h.cell 0
  simp at c0
  go_enter Try.func26, Try.ntmps26
  go_wp2
  go_ret
  exact ⟨rfl, rfl⟩
theorem sleeper_yes (b : Nat) (q : Int) (w : World) (h : Blk w b #[.int .i64 1, .int .i64 q] 69) : Calls Try.prog 25 #[.pointer (some ⟨b, 0, none⟩)] w fun e w' => e = .returned (.tuple #[.int .i64 q, .bool true]) ∧ w = w' := by
  have c0 := h.cell 0
  have c1 := h.cell 1
  simp at c0 c1
  go_enter Try.func25, Try.ntmps25
  go_wp2
  go_ret2
  exact ⟨rfl, rfl⟩
theorem sleeper_no (b : Nat) (s q : Int) (w : World) (h : Blk w b #[.int .i64 s, .int .i64 q] 69) (hs : (s != 1) = true) : Calls Try.prog 25 #[.pointer (some ⟨b, 0, none⟩)] w fun e w' => e = .returned (.tuple #[.int .i64 (-1), .bool false]) ∧ w = w' := by
  have c0 := h.cell 0
  simp at c0
  go_enter Try.func25, Try.ntmps25
  go_wp2
  go_ret2
  exact ⟨rfl, rfl⟩

set_option maxHeartbeats 1000000 in
theorem plays (w : World) (a : Option Addr) (len cap : Nat) (f : Nat → Nat → Int) (hr : Row w a len 2 f) : Calls Try.prog 4 #[.slice a len cap] w fun e w' => e = .returned (.bool true) ∧ Below w.heap.size w w' := by
  by_cases hbig : 100 < len
  · go_enter Try.func4, Try.ntmps4
    go_wp2_with (go_at_call 21; refine (alive_any _).mono ?_; rintro e w' ⟨rfl, hb⟩)
    go_ret
    exact ⟨rfl, hb⟩
  have hlen : len ≤ 100 := by omega
  clear hbig
  have hd : decide ((100 : Int) < (len : Int)) = false := by simp; omega
  go_enter Try.func4, Try.ntmps4
  go_wp2_with (go_at_call 22; refine (new_any _).mono ?_; rintro e w' ⟨rfl, rfl⟩)
  go_loopw [5] (fun i wr => ∃ (k : Nat) (s q : Int) (st : Bool) (n : Int), k ≤ len ∧ i = .int .i64 k ∧ Like s q st n ∧ Blk wr w.heap.size #[.int .i64 s, .int .i64 q] 69 ∧ Blk wr (w.heap.size + 1) #[.bool st, .int .i64 n] 32 ∧ Below w.heap.size w wr)
    (fun i _ => len - (intOf i).toNat)
  case atStart =>
    refine ⟨0, 0, 0, false, 0, Nat.zero_le _, rfl, .inl ⟨rfl, rfl, rfl⟩, ?_, ?_, ?_⟩
    · exact (Blk.new w _ _).alloc _
    · exact Blk.new' _ _ (by simp)
    · exact below_alloc (below_alloc (Below.refl _ _) _) _
  case round =>
    obtain ⟨k, s, q, st, n, hk, rfl, hlike, hb0, hb1, hbel⟩ := hrel
    by_cases hlt : k < len
    · rcases hr with h0 | ⟨b, off, rfl, hbl, hml, hcell, hwf⟩
      · omega
      have c0 : wr.cell? ⟨b, off + k * 2, none⟩ = some (.int .i64 (f k 0)) := (hbel.cell (p := ⟨b, off + k * 2, none⟩) hbl).trans (hcell k 0 hlt (by omega))
      have c1 : wr.cell? ⟨b, off + k * 2 + 1, none⟩ = some (.int .i64 (f k 1)) := (hbel.cell (p := ⟨b, off + k * 2 + 1, none⟩) hbl).trans (hcell k 1 hlt (by omega))
      have d0 := hb1.cell 0
      have d1 := hb1.cell 1
      simp at d0 d1
      have hn : 0 ≤ n ∧ n ≤ 1099511627777 := by rcases hlike with h | h | h <;> omega
      have hn0 := hn.1
      have hn1 := hn.2
      obtain ⟨x, fl, s', q', st', n', HA, HD, hlike'⟩ := step_ex (f k 0) (f k 1) hlike
      clear hn hcell
      have e0 := hb1.lt
      have e1 := hb0.lt
      have hbl' : b < wr.heap.size := by omega
      go_upto_region 8 with fail
      go_cut [6, 7, 8] (fun s6 s7 s8 wx => ∃ g, s6 = .pointer (some ⟨g, 0, none⟩) ∧ s7 = .int .i64 x ∧ s8 = .int .i64 fl ∧ Blk wx g #[.bool st', .int .i64 n'] 32 ∧ wr.heap.size ≤ g ∧ Below wr.heap.size wr wx)
      case first =>
        go_region_with (go_at_call 23; refine (do_at _ _ _ _ _ _ _ _ _ hn0 hn1 HD.out).mono ?_; rintro e w' ⟨rfl, hb⟩; obtain ⟨hc, hf⟩ := bcell hb; have hz := hb.size)
        all_goals (go_wp2_with fail; go_meet; clear hc hf)
        all_goals first | exact ⟨_, rfl, rfl, rfl, new_after hb _ _⟩ | exact ⟨_, rfl, rfl, rfl, new_before _ _ hb⟩
      case rest =>
        obtain ⟨g, rfl, rfl, rfl, hg0, hg1, hg2⟩ := hcut
        have x0 := (hg2.cell (p := ⟨b, off + k * 2, none⟩) hbl').trans c0
        have x1 := (hg2.cell (p := ⟨b, off + k * 2 + 1, none⟩) hbl').trans c1
        have hb0' := hb0.below hg2 e1
        have hb1' := hb1.below hg2 e0
        clear c0 c1 d0 d1 HD hb0 hb1
        go_wp2_with fail
        refine (act_at _ _ _ _ _ _ _ _ _ _ hb0' HA.out).mono ?_
        rintro e w2 ⟨rfl, hn2, hgr⟩
        have hb12 := hb1'.kept hgr (by simp)
        have hg02 := hg0.kept hgr (by simp; omega)
        have y0 := hg02.cell 0
        have y1 := hg02.cell 1
        have z0 := hb12.cell 0
        have z1 := hb12.cell 1
        have z2 := hb12.free 0
        have z3 := hb12.free 1
        have l0 := hb12.lt
        have l1 := hg02.lt
        simp at y0 y1 z0 z1
        clear x0 x1 hb0' HA
        have hbel2 : Below w.heap.size w w2 := below_grown (below_below hbel hg2) hgr (by simp)
        go_wp2_with fail
        have hn3 := (hn2.setOther (c := w.heap.size + 1) (i := 0) (by omega) (.bool st')).setOther (c := w.heap.size + 1) (i := 1) (by omega) (.int .i64 n')
        have hb13 := (hb12.set2_0 (u := .bool st')).set2_1 (u := .int .i64 n')
        have hbel3 := below_set (below_set hbel2 (c := w.heap.size + 1) (by omega) 0 (.bool st')) (c := w.heap.size + 1) (by omega) 1 (.int .i64 n')
        generalize (w2.setCell ⟨w.heap.size + 1, 0, none⟩ (.bool st')).setCell ⟨w.heap.size + 1, 1, none⟩ (.int .i64 n') = w3 at hn3 hb13 hbel3 ⊢
        clear y0 y1 z0 z1 z2 z3 l0 l1 hb12 hg02 hbel2 hn2 hgr hb1' hg0 hg1 hg2 hbel
        have r0 := hb13.cell 0
        have r1 := hb13.cell 1
        simp at r0 r1
        rcases hlike' with ⟨rfl, rfl, rfl⟩ | ⟨rfl, rfl, rfl, q0, q1⟩ | ⟨rfl, rfl, rfl⟩
        · refine (sleeper_no _ _ _ _ hn3 rfl).mono ?_
          rintro e w' ⟨rfl, rfl⟩
          go_wp2_with fail
          go_quiet ((go_at_call 26; exact Calls.quiet_of_same (set_no _ _ _ _ hn3 rfl)))
          go_wp2_with fail
          go_roundw
          case rel => exact ⟨k + 1, _, _, _, _, by omega, by go_num, .inl ⟨rfl, rfl, rfl⟩, hn3, hb13, below_drewN hbel3 _⟩
          case measure => simp [intOf]; omega
        · refine (sleeper_yes _ _ _ hn3).mono ?_
          rintro e w' ⟨rfl, rfl⟩
          go_wp2_with fail
          have p1 : decide ((0 : Int) < q' + 1) = true := by simp; omega
          have p2 : IntKind.i64.wrap (q' + 1 - 1) = q' := by rw [IntWalk.i64_in _ (by omega)]; omega
          have p3 : IntKind.i64.wrap q' = q' := IntWalk.i64_in _ (by omega)
          go_quiet ((go_at_call 26; exact Calls.quiet_of_same (set_no _ _ _ _ hn3 rfl)))
          go_wp2_with fail
          go_roundw
          case rel => exact ⟨k + 1, _, _, _, _, by omega, by go_num, .inr (.inl ⟨rfl, rfl, rfl, q0, q1⟩), hn3, hb13, below_drewN hbel3 _⟩
          case measure => simp [intOf]; omega
        · refine (sleeper_no _ _ _ _ hn3 rfl).mono ?_
          rintro e w' ⟨rfl, rfl⟩
          go_wp2_with fail
          go_quiet ((go_at_call 26; exact Calls.quiet_of_same (set_yes _ _ _ hn3)))
          go_wp2_with fail
          go_roundw
          case rel => exact ⟨k + 1, _, _, _, _, by omega, by go_num, .inr (.inr ⟨rfl, rfl, rfl⟩), hn3, hb13, below_drewN hbel3 _⟩
          case measure => simp [intOf]; omega
    · go_wp2_with (go_at_call 21; refine (alive_any _).mono ?_; rintro e w' ⟨rfl, hb⟩)
      go_ret
      exact ⟨rfl, below_below hbel hb⟩
end Go.Proofs.Ytoeepfhkedfmiaa.Note
