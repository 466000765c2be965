/- Chapter 20: the walk of IdlePlays. -/
import Derived.Test.YtoeepfhkedfmiaaIdleRef
namespace Go.Proofs.Ytoeepfhkedfmiaa.Idle
open Go.RowKit Go.Esc

theorem refhas_any (v : Value) (l : List Int) (x : Int) (w : World) (hv : Sl w v l) : Calls Try.prog 48 #[v, .int .i64 x] w fun e w' => e = .returned (.bool (decide (x ∈ l))) ∧ w = w' := by
  by_cases h : x ∈ l
  · rw [decide_eq_true h]; exact Ref.has_yes v l x w hv h
  · rw [decide_eq_false h]; exact Ref.has_no v l x w hv h

set_option maxRecDepth 100000 in
set_option maxHeartbeats 2000000 in
theorem plays_good (w : World) (m : Nat) (hm : m ≤ 1024) (a : Option Addr) (len cap : Nat) (f : Nat → Nat → Int) (hr : Row w a len 2 f) (hlen : len ≤ 100) (id : Int) :
    Calls Try.prog 11 #[.int .i64 m, .slice a len cap, .int .i64 id] w fun e w' => e = .returned (.bool true) ∧ Below w.heap.size w w' := by
  have hd : decide ((100 : Int) < (len : Int)) = false := by simp; omega
  have hd0 : decide ((m : Int) < 0) = false := by simp
  have hd1 : decide ((1024 : Int) < (m : Int)) = false := by simp; omega
  go_enter Try.func11, Try.ntmps11
  go_wp2_with fail
  refine (new_good m _ hm).mono ?_
  rintro e w1 ⟨rfl, hs1, hb1⟩
  have hsz := hs1.1.lt
  have HS1 := Lib.hid hs1
  clear hs1
  go_wp2_with fail
  go_loopw [8, 9] (fun v i wr => ∃ (k : Nat) (x : List Int), k ≤ len ∧ i = .int .i64 k ∧ St wr (w.heap.size + 1) w.heap.size m x ∧ Slf wr (w.heap.size + 2) v x ∧ Below w.heap.size w wr)
    (fun _ i _ => len - (intOf i).toNat)
  case atStart => exact ⟨0, [], Nat.zero_le _, rfl, HS1.out, Slf.nil _ _, hb1⟩
  case round =>
    obtain ⟨k, x, hk, rfl, hst, hsv, hbel⟩ := hrel
    have hwr := hst.1.lt
    by_cases hlt : k < len
    · rcases hr with h0 | ⟨b, off, rfl, hbl, hml, hcell, hwf⟩
      · omega
      have c0 : wr.cell? ⟨b, off + k * 2, none⟩ = some (.int .i64 (f k 0)) := (hbel.cell (p := ⟨b, off + k * 2, none⟩) hbl).trans (hcell k 0 hlt (by omega))
      have c1 : wr.cell? ⟨b, off + k * 2 + 1, none⟩ = some (.int .i64 (f k 1)) := (hbel.cell (p := ⟨b, off + k * 2 + 1, none⟩) hbl).trans (hcell k 1 hlt (by omega))
      generalize f k 1 = g1 at *
      generalize f k 0 = g0 at *
      clear hcell hwf
      have HA := Lib.hid (act_any _ _ _ _ _ _ g0 g1 _ hst hsv (by omega) (by omega) (by omega))
      clear hst hsv HS1
      generalize actL m g0 g1 x = y at *
      go_wp2_with fail
      refine HA.out.mono ?_
      rintro e w2 ⟨v2, rfl, hs2, hv2, ho2⟩
      have hbel2 := below_only hbel ho2 (by rintro k (h | h) <;> omega)
      have hbb : (decide (id ∈ y) != decide (id ∈ y)) = false := by simp
      clear HA c0 c1
      cases y with
      | nil =>
        have HP := Lib.hid (peek_nil _ _ _ _ hs2)
        have HAll := Lib.hid (all_any _ _ _ _ _ hs2)
        have HS2 := Lib.hid hs2
        have HV2 := Lib.hid hv2
        obtain ⟨a2, cap2, rfl⟩ : ∃ a2 cap2, v2 = .slice a2 0 cap2 := by obtain ⟨a2, cap2, h, _⟩ := hv2; exact ⟨a2, cap2, h⟩
        clear hs2 hv2
        go_wp2_with fail
        refine HP.out.mono ?_
        rintro e w3 ⟨rfl, rfl⟩
        go_wp2_with fail
        refine HAll.out.mono ?_
        rintro e w4 ⟨v4, rfl, ho4, hb4⟩
        have hs4 := HS2.out.below hb4
        have hv4 := HV2.out.below hb4
        go_wp2_with fail
        refine (Ref.same_yes _ _ _ _ (Sl.ofOwn ho4) hv4.sl).mono ?_
        rintro e w5 ⟨rfl, n5, rfl⟩
        go_wp2_with fail
        refine (len_any _ _ _ _ _ (hs4.drewN n5)).mono ?_
        rintro e w6 ⟨rfl, rfl⟩
        go_wp2_with fail
        refine (has_any _ _ _ _ _ _ (hs4.drewN n5)).mono ?_
        rintro e w6 ⟨rfl, rfl⟩
        go_wp2_with fail
        refine (refhas_any _ _ _ _ (hv4.sl.drewN n5)).mono ?_
        rintro e w6 ⟨rfl, rfl⟩
        go_wp2_with fail
        go_roundw
        case rel => exact ⟨k + 1, [], by omega, by go_num, hs4.drewN n5, hv4, below_drewN (below_below hbel2 hb4) _⟩
        case measure => simp [intOf]; omega
      | cons z r =>
        have HP := Lib.hid (peek_cons _ _ _ _ _ _ hs2)
        have HAll := Lib.hid (all_any _ _ _ _ _ hs2)
        have HS2 := Lib.hid hs2
        have HV2 := Lib.hid hv2
        have hzl := hs2.len
        rcases hv2.open with ⟨_, h0⟩ | ⟨_, _, _, h0⟩ | ⟨bv, offv, capv, rfl, _, _, hBb, hbv, hcells⟩
        · simp at h0
        · simp at h0
        have cv := hcells 0 (by simp)
        simp only [Nat.add_zero, List.getElem?_cons_zero, Option.getD_some] at cv
        rw [show (z :: r).length = r.length + 1 from rfl] at hzl ⊢
        have hd3 : decide ((0 : Int) < (r.length : Int) + 1) = true := by rw [decide_eq_true_eq]; omega
        clear hs2 hv2 hcells
        go_wp2_with fail
        refine HP.out.mono ?_
        rintro e w3 ⟨rfl, rfl⟩
        go_wp2_with fail
        refine HAll.out.mono ?_
        rintro e w4 ⟨v4, rfl, ho4, hb4⟩
        have hs4 := HS2.out.below hb4
        have hv4 := HV2.out.below hb4
        have cv4 := (hb4.cell (p := ⟨bv, offv, none⟩) hbv).trans cv
        go_wp2_with fail
        refine (Ref.same_yes _ _ _ _ (Sl.ofOwn ho4) hv4.sl).mono ?_
        rintro e w5 ⟨rfl, n5, rfl⟩
        go_wp2_with fail
        refine (len_any _ _ _ _ _ (hs4.drewN n5)).mono ?_
        rintro e w6 ⟨rfl, rfl⟩
        go_wp2_with fail
        refine (has_any _ _ _ _ _ _ (hs4.drewN n5)).mono ?_
        rintro e w6 ⟨rfl, rfl⟩
        go_wp2_with fail
        refine (refhas_any _ _ _ _ (hv4.sl.drewN n5)).mono ?_
        rintro e w6 ⟨rfl, rfl⟩
        go_wp2_with fail
        go_roundw
        case rel => exact ⟨k + 1, z :: r, by omega, by go_num, hs4.drewN n5, hv4, below_drewN (below_below hbel2 hb4) _⟩
        case measure => simp [intOf]; omega
    · clear hst hsv
      go_wp2_with (go_at_call 36; refine (alive_any _).mono ?_; rintro e w' ⟨rfl, hb⟩)
      go_ret
      exact ⟨rfl, below_below hbel hb⟩

set_option maxHeartbeats 1000000 in
theorem plays (w : World) (m : Int) (_ : (Lit.int .i64 m).wf = true) (a : Option Addr) (len cap : Nat) (f : Nat → Nat → Int) (hr : Row w a len 2 f) (id : Int) (_ : (Lit.int .i64 id).wf = true) :
    Calls Try.prog 11 #[.int .i64 m, .slice a len cap, .int .i64 id] w fun e w' => e = .returned (.bool true) ∧ Below w.heap.size w w' := by
  by_cases hbig : 100 < len
  · go_enter Try.func11, Try.ntmps11
    go_wp2_with (go_at_call 36; refine (alive_any _).mono ?_; rintro e w' ⟨rfl, hb⟩)
    go_ret
    exact ⟨rfl, hb⟩
  · have hlen : len ≤ 100 := by omega
    by_cases hm : m < 0 ∨ 1024 < m
    · have HN := Lib.hid (new_bad m w hm)
      by_cases h1 : m < 0
      · clear hm
        go_enter Try.func11, Try.ntmps11
        go_wp2_with (first | (go_at_call 36; refine (alive_any _).mono ?_; rintro e w' ⟨rfl, hb⟩) | (go_at_call 37; refine HN.out.mono ?_; rintro e w' ⟨rfl, rfl⟩))
        go_ret
        exact ⟨rfl, hb⟩
      · have h2 : 1024 < m := by omega
        clear hm
        go_enter Try.func11, Try.ntmps11
        go_wp2_with (first | (go_at_call 36; refine (alive_any _).mono ?_; rintro e w' ⟨rfl, hb⟩) | (go_at_call 37; refine HN.out.mono ?_; rintro e w' ⟨rfl, rfl⟩))
        go_ret
        exact ⟨rfl, hb⟩
    · obtain ⟨n, rfl⟩ := Int.eq_ofNat_of_zero_le (show 0 ≤ m by omega)
      exact plays_good w n (by omega) a len cap f hr hlen id

end Go.Proofs.Ytoeepfhkedfmiaa.Idle
