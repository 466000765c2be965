/- Chapter 03: the walk of NoteOnce. -/
import Derived.Test.YtoeepfhkedfmiaaNotePlaysWalk
namespace Go.Proofs.Ytoeepfhkedfmiaa.Note
open Go.RowKit Go.Esc

def Inv (s c : Int) : Prop := (s = 2 ∧ (c = 0 ∨ c = 1)) ∨ ((s = 0 ∨ s = 1) ∧ c = 0)

theorem once_step {s c : Int} (k who q : Int) (h : Inv s c) : ∃ x fl s' q', Hid (actF k who s q = (x, fl, s', q')) ∧
    ((fl ≠ 0 ∧ Inv s' c) ∨ (fl = 0 ∧ k = 0 ∧ Inv s' 0) ∨ (fl = 0 ∧ k = 1 ∧ Inv s' c) ∨ (fl = 0 ∧ k ≠ 0 ∧ k ≠ 1 ∧ c = 0 ∧ s' = 2 ∧ ((s = 1 ∧ x = q) ∨ (s ≠ 1 ∧ x = -1)))) := by
  by_cases hk : k = 0
  · subst hk
    rcases h with ⟨rfl, hc⟩ | ⟨rfl | rfl, rfl⟩
    · exact ⟨0, 0, 0, q, by show actF _ _ _ _ = _; simp [actF], .inr (.inl ⟨rfl, rfl, .inr ⟨.inl rfl, rfl⟩⟩)⟩
    · exact ⟨0, 0, 0, q, by show actF _ _ _ _ = _; simp [actF], .inr (.inl ⟨rfl, rfl, .inr ⟨.inl rfl, rfl⟩⟩)⟩
    · exact ⟨0, 7, 1, q, by show actF _ _ _ _ = _; simp [actF], .inl ⟨by decide, .inr ⟨.inr rfl, rfl⟩⟩⟩
  · by_cases hk1 : k = 1
    · subst hk1
      by_cases hw : who < 0 ∨ 1099511627776 < who
      · exact ⟨0, 1, s, q, by show actF _ _ _ _ = _; simp [actF, hw], .inl ⟨by decide, h⟩⟩
      · rcases h with ⟨rfl, hc⟩ | ⟨rfl | rfl, rfl⟩
        · exact ⟨1, 0, 2, q, by show actF _ _ _ _ = _; simp [actF, hw], .inr (.inr (.inl ⟨rfl, rfl, .inl ⟨rfl, hc⟩⟩))⟩
        · exact ⟨0, 0, 1, who, by show actF _ _ _ _ = _; simp [actF, hw], .inr (.inr (.inl ⟨rfl, rfl, .inr ⟨.inr rfl, rfl⟩⟩))⟩
        · by_cases hq : q = who
          · exact ⟨0, 0, 1, who, by show actF _ _ _ _ = _; simp [actF, hw, hq], .inr (.inr (.inl ⟨rfl, rfl, .inr ⟨.inr rfl, rfl⟩⟩))⟩
          · exact ⟨0, 7, 1, q, by show actF _ _ _ _ = _; simp [actF, hw, hq], .inl ⟨by decide, .inr ⟨.inr rfl, rfl⟩⟩⟩
    · rcases h with ⟨rfl, hc⟩ | ⟨rfl | rfl, rfl⟩
      · exact ⟨-1, 9, 2, q, by show actF _ _ _ _ = _; simp [actF, hk, hk1], .inl ⟨by decide, .inl ⟨rfl, hc⟩⟩⟩
      · exact ⟨-1, 0, 2, q, by show actF _ _ _ _ = _; simp [actF, hk, hk1], .inr (.inr (.inr ⟨rfl, hk, hk1, rfl, rfl, .inr ⟨by decide, rfl⟩⟩))⟩
      · exact ⟨q, 0, 2, q, by show actF _ _ _ _ = _; simp [actF, hk, hk1], .inr (.inr (.inr ⟨rfl, hk, hk1, rfl, rfl, .inl ⟨rfl, rfl⟩⟩))⟩

def Some2 (w : World) (e : Ending) (w' : World) : Prop := ∃ (r : Int) (t : Bool), e = .returned (.tuple #[.int .i64 r, .bool t]) ∧ w = w'
theorem sleeper_ex (b : Nat) (s q : Int) (w : World) (h : Blk w b #[.int .i64 s, .int .i64 q] 69) : Calls Try.prog 25 #[.pointer (some ⟨b, 0, none⟩)] w (Some2 w) := by
  by_cases hs : s = 1
  · subst hs
    exact (sleeper_yes b q w h).mono fun e w' ⟨he, hw⟩ => ⟨_, _, he, hw⟩
  · exact (sleeper_no b s q w h (by simp [hs])).mono fun e w' ⟨he, hw⟩ => ⟨_, _, he, hw⟩

set_option maxHeartbeats 1000000 in
theorem once (w : World) (a : Option Addr) (len cap : Nat) (f : Nat → Nat → Int) (hr : Row w a len 2 f) : Calls Try.prog 5 #[.slice a len cap] w fun e w' => e = .returned (.bool true) ∧ Below w.heap.size w w' := by
  by_cases hbig : 100 < len
  · go_enter Try.func5, Try.ntmps5
    go_wp2_with (go_at_call 21; refine (alive_any _).mono ?_; rintro e w' ⟨rfl, hb⟩)
    go_ret
    exact ⟨rfl, hb⟩
  have hlen : len ≤ 100 := by omega
  clear hbig
  have hd : decide ((100 : Int) < (len : Int)) = false := by simp; omega
  go_enter Try.func5, Try.ntmps5
  go_wp2_with (go_at_call 22; refine (new_any _).mono ?_; rintro e w' ⟨rfl, rfl⟩)
  go_loopw [4, 5] (fun v i wr => ∃ (k : Nat) (s q c : Int), k ≤ len ∧ i = .int .i64 k ∧ v = .int .i64 c ∧ Inv s c ∧ Blk wr w.heap.size #[.int .i64 s, .int .i64 q] 69 ∧ Below w.heap.size w wr)
    (fun _ i _ => len - (intOf i).toNat)
  case atStart =>
    exact ⟨0, 0, 0, 0, Nat.zero_le _, rfl, rfl, .inr ⟨.inl rfl, rfl⟩, Blk.new w _ _, below_alloc (Below.refl _ _) _⟩
  case round =>
    obtain ⟨k, s, q, c, hk, rfl, rfl, hinv, hb0, hbel⟩ := hrel
    by_cases hlt : k < len
    · rcases hr with h0 | ⟨b, off, rfl, hbl, hml, hcell, hwf⟩
      · omega
      have c0 : wr.cell? ⟨b, off + k * 2, none⟩ = some (.int .i64 (f k 0)) := (hbel.cell (p := ⟨b, off + k * 2, none⟩) hbl).trans (hcell k 0 hlt (by omega))
      have c1 : wr.cell? ⟨b, off + k * 2 + 1, none⟩ = some (.int .i64 (f k 1)) := (hbel.cell (p := ⟨b, off + k * 2 + 1, none⟩) hbl).trans (hcell k 1 hlt (by omega))
      have e1 := hb0.lt
      have hbl' : b < wr.heap.size := by omega
      obtain ⟨x, fl, s', q', HA, hcase⟩ := once_step (f k 0) (f k 1) q hinv
      generalize f k 1 = k1 at *
      generalize f k 0 = k0 at *
      clear hcell hwf
      rcases hcase with ⟨hf, hi⟩ | ⟨rfl, rfl, hi⟩ | ⟨rfl, rfl, hi⟩ | ⟨rfl, hk0, hk1, rfl, rfl, hx⟩
      · have hfb : (fl != 0) = true := by simp [hf]
        clear hf
        go_wp2_with fail
        refine (sleeper_ex _ _ _ _ hb0).mono ?_
        rintro e w' ⟨r, t, rfl, rfl⟩
        go_wp2_with fail
        refine (act_at _ _ _ _ _ _ _ _ _ _ hb0 HA.out).mono ?_
        rintro e w2 ⟨rfl, hn2, hgr⟩
        go_wp2_with fail
        go_roundw
        case rel => exact ⟨k + 1, _, _, _, by omega, by go_num, rfl, hi, hn2, below_grown hbel hgr (by simp)⟩
        case measure => simp [intOf]; omega
      · go_wp2_with fail
        refine (sleeper_ex _ _ _ _ hb0).mono ?_
        rintro e w' ⟨r, t, rfl, rfl⟩
        go_wp2_with fail
        refine (act_at _ _ _ _ _ _ _ _ _ _ hb0 HA.out).mono ?_
        rintro e w2 ⟨rfl, hn2, hgr⟩
        have c2 := hgr.cell c0 (by simp; omega)
        go_wp2_with fail
        go_roundw
        case rel => exact ⟨k + 1, _, _, _, by omega, by go_num, rfl, hi, hn2, below_grown hbel hgr (by simp)⟩
        case measure => simp [intOf]; omega
      · go_wp2_with fail
        refine (sleeper_ex _ _ _ _ hb0).mono ?_
        rintro e w' ⟨r, t, rfl, rfl⟩
        go_wp2_with fail
        refine (act_at _ _ _ _ _ _ _ _ _ _ hb0 HA.out).mono ?_
        rintro e w2 ⟨rfl, hn2, hgr⟩
        have c2 := hgr.cell c0 (by simp; omega)
        go_wp2_with fail
        go_roundw
        case rel => exact ⟨k + 1, _, _, _, by omega, by go_num, rfl, hi, hn2, below_grown hbel hgr (by simp)⟩
        case measure => simp [intOf]; omega
      · have hk0b : (k0 == 0) = false := by simp [hk0]
        have hk1b : (k0 == 1) = false := by simp [hk1]
        clear hk0 hk1
        rcases hx with ⟨rfl, rfl⟩ | ⟨hs, rfl⟩
        · go_wp2_with fail
          refine (sleeper_yes _ _ _ hb0).mono ?_
          rintro e w' ⟨rfl, rfl⟩
          go_wp2_with fail
          refine (act_at _ _ _ _ _ _ _ _ _ _ hb0 HA.out).mono ?_
          rintro e w2 ⟨rfl, hn2, hgr⟩
          have c2 := hgr.cell c0 (by simp; omega)
          go_wp2_with fail
          go_roundw
          case rel => exact ⟨k + 1, _, _, _, by omega, by go_num, rfl, .inl ⟨rfl, .inr rfl⟩, hn2, below_grown hbel hgr (by simp)⟩
          case measure => simp [intOf]; omega
        · have hsb : (s != 1) = true := by simp [hs]
          clear hs
          go_wp2_with fail
          refine (sleeper_no _ _ _ _ hb0 hsb).mono ?_
          rintro e w' ⟨rfl, rfl⟩
          go_wp2_with fail
          refine (act_at _ _ _ _ _ _ _ _ _ _ hb0 HA.out).mono ?_
          rintro e w2 ⟨rfl, hn2, hgr⟩
          have c2 := hgr.cell c0 (by simp; omega)
          go_wp2_with fail
          go_roundw
          case rel => exact ⟨k + 1, _, _, _, by omega, by go_num, rfl, .inl ⟨rfl, .inr rfl⟩, hn2, below_grown hbel hgr (by simp)⟩
          case measure => simp [intOf]; omega
    · go_wp2_with (go_at_call 21; refine (alive_any _).mono ?_; rintro e w' ⟨rfl, hb⟩)
      go_ret
      exact ⟨rfl, below_below hbel hb⟩
end Go.Proofs.Ytoeepfhkedfmiaa.Note
