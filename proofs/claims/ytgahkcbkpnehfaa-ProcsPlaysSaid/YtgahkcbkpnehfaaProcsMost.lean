/- Chapter 23: the contract of Most. -/
import Derived.Test.YtgahkcbkpnehfaaProcsNew
import Derived.LaidEqlPtr
namespace Go.Proofs.Ytgahkcbkpnehfaa.Procs
open Go.RowKit Go.Esc
open Go.Proofs.Ytgahkcbkpnehfaa.Ring (Rw Sg allL)
set_option linter.unusedVariables false

/-- The first one of the longest, among the first k + 1. -/
def mx (R : Nat → Rn) : Nat → Nat
  | 0 => 0
  | k + 1 => if lenR (R (mx R k)) < lenR (R (k + 1)) then k + 1 else mx R k
theorem mx_le (R : Nat → Rn) (k : Nat) : mx R k ≤ k := by
  induction k with
  | zero => exact Nat.le_refl _
  | succ k ih => rw [mx]; split <;> omega
theorem mx_max (R : Nat → Rn) (k : Nat) : ∀ i, i ≤ k → lenR (R i) ≤ lenR (R (mx R k)) := by
  induction k with
  | zero => intro i hi; obtain rfl : i = 0 := by omega
            exact Nat.le_refl _
  | succ k ih =>
    intro i hi
    rw [mx]
    by_cases hc : lenR (R (mx R k)) < lenR (R (k + 1))
    · rw [if_pos hc]
      by_cases e : i = k + 1
      · rw [e]; exact Nat.le_refl _
      · have := ih i (by omega); omega
    · rw [if_neg hc]
      by_cases e : i = k + 1
      · rw [e]; omega
      · exact ih i (by omega)
theorem tot_zero (R : Nat → Rn) (n : Nat) (h : tot R n = 0) : ∀ i, i < n → lenR (R i) = 0 := by
  induction n with
  | zero => intro i hi; omega
  | succ n ih =>
    intro i hi
    simp only [tot] at h
    by_cases e : i = n
    · rw [e]; omega
    · exact ih (by omega) i (by omega)
theorem tot_pos (R : Nat → Rn) (n : Nat) (h : tot R n ≠ 0) : ∃ i, i < n ∧ 0 < lenR (R i) := by
  induction n with
  | zero => exact absurd rfl h
  | succ n ih =>
    simp only [tot] at h
    by_cases e : lenR (R n) = 0
    · obtain ⟨i, h1, h2⟩ := ih (by omega)
      exact ⟨i, by omega, h2⟩
    · exact ⟨n, by omega, by omega⟩
theorem mx_zero (R : Nat → Rn) (k : Nat) (h : ∀ i, i ≤ k → lenR (R i) = 0) : mx R k = 0 := by
  induction k with
  | zero => rfl
  | succ k ih => rw [mx, h (k + 1) (by omega), if_neg (by omega)]; exact ih (fun i hi => h i (by omega))

def PtrQ (x : Nat) (w : World) (e : Ending) (w' : World) : Prop := e = .returned (.pointer (some ⟨x, 0, none⟩)) ∧ ∃ m, w' = w.drewN m

set_option maxHeartbeats 1000000 in
theorem cmp_any (b1 g1 b2 g2 : Nat) (n1 n2 : Int) (r1 r2 : List Int) (w : World) (h1 : Rw w b1 g1 256 n1 r1) (h2 : Rw w b2 g2 256 n2 r2) :
    Calls Try.prog 78 #[.pointer (some ⟨b1, 0, none⟩), .pointer (some ⟨b2, 0, none⟩)] w fun e w' => e = .returned (.int .i64 (((allL n1 r1).length : Int) - (allL n2 r2).length)) ∧ ∃ m, w' = w.drewN m := by
  have HL1 := Lib.hid (Ring.len_w _ _ _ _ _ _ h1)
  have HL2 := Lib.hid (fun m => Ring.len_w _ _ _ _ _ _ (h2.drewN m))
  have hb1 : (allL n1 r1).length ≤ 257 := by
    have := h1.nums.1
    unfold allL; rw [List.length_append]; split <;> simp <;> omega
  have hb2 : (allL n2 r2).length ≤ 257 := by
    have := h2.nums.1
    unfold allL; rw [List.length_append]; split <;> simp <;> omega
  clear h1 h2
  generalize (allL n1 r1).length = l1 at *
  generalize (allL n2 r2).length = l2 at *
  have e1 : IntKind.i64.wrap ((l1 : Int) - l2) = (l1 : Int) - l2 := IntWalk.i64_in _ (by omega)
  go_enter Try.func78, Try.ntmps78
  go_wp2_with fail
  refine HL1.out.mono ?_
  rintro e w1 ⟨rfl, m, rfl⟩
  go_wp2_with fail
  refine (HL2.out m).mono ?_
  rintro e w1 ⟨rfl, m2, rfl⟩
  go_wp2_with fail
  go_ret
  exact ⟨rfl, m + m2, by first | rfl | exact World.drewN_drewN _ _ _⟩

set_option maxHeartbeats 2000000 in
theorem max_any (p : Nat) (rv : Value) (n : Nat) (R : Nat → Rn) (w : World) (h : Prc w p rv (n + 1) R) (hn : n + 1 ≤ 256) : Calls Try.prog 77 #[rv, .func (.func 78) #[] #[]] w (PtrQ (R (mx R n)).b w) := by
  obtain ⟨g, cap, rfl⟩ : ∃ g cap, rv = .slice (some ⟨g, 0, none⟩) (n + 1) cap := by
    rcases h.own.open with ⟨_, h0⟩ | ⟨g, cap, h0, _⟩
    · omega
    · exact ⟨g, cap, h0⟩
  have HH := Lib.hid h
  have HC : Hid (∀ i, i < n + 1 → w.cell? ⟨g, i, none⟩ = some (.pointer (some ⟨(R i).b, 0, none⟩))) := fun i hi => by
    rcases h.own.open with ⟨h0, _⟩ | ⟨g', cap', he, _, hg, hc, hcells⟩
    · cases h0
    · cases he
      rw [hcells i (by omega), ptrs_at (n + 1) R i hi]
  have c0 := HC.out 0 (by omega)
  have hd0 : decide ((n : Int) + 1 < 1) = false := by simp; omega
  clear h
  go_enter Try.func77, Try.ntmps77
  go_wp2
  go_loopw [5, 6] (fun v5 i wr => ∃ k m : Nat, k ≤ n ∧ i = .int .i64 ((k + 1 : Nat) : Int) ∧ v5 = .pointer (some ⟨(R (mx R k)).b, 0, none⟩) ∧ wr = w.drewN m) (fun _ i _ => n + 1 - (intOf i).toNat)
  case atStart => exact ⟨0, 0, Nat.zero_le _, by simp, rfl, rfl⟩
  case round =>
    obtain ⟨k, m, hk, rfl, rfl, rfl⟩ := hrel
    by_cases hlt : k < n
    · have ck := HC.out (k + 1) (by omega)
      have hm := mx_le R k
      have HCm := Lib.hid (cmp_any _ _ _ _ _ _ _ _ (w.drewN m) ((HH.out.ring (k + 1) (by omega)).drewN m) ((HH.out.ring (mx R k) (by omega)).drewN m))
      have hdl : decide (k + 1 < n + 1) = true := by simp; omega
      have hdl2 : decide ((k : Int) + 1 < (n : Int) + 1) = true := by simp; omega
      by_cases hgt : lenR (R (mx R k)) < lenR (R (k + 1))
      · have HMx : Hid (mx R (k + 1) = k + 1) := by show _ = _; rw [mx, if_pos hgt]
        have hdg : decide (0 < ((allL (R (k + 1)).nx (R (k + 1)).row).length : Int) - (allL (R (mx R k)).nx (R (mx R k)).row).length) = true := by
          unfold lenR at hgt; simp; omega
        generalize ((allL (R (k + 1)).nx (R (k + 1)).row).length : Int) - (allL (R (mx R k)).nx (R (mx R k)).row).length = df at *
        clear hgt
        go_wp2_with fail
        refine HCm.out.mono ?_
        rintro e w1 ⟨rfl, m1, rfl⟩
        go_wp2_with fail
        go_roundw
        case rel => exact ⟨k + 1, m + m1, by omega, by go_num, by rw [HMx.out], by first | rfl | exact World.drewN_drewN _ _ _⟩
        case measure => simp [intOf]; omega
      · have HMx : Hid (mx R (k + 1) = mx R k) := by show _ = _; rw [mx, if_neg hgt]
        have hdg : decide (0 < ((allL (R (k + 1)).nx (R (k + 1)).row).length : Int) - (allL (R (mx R k)).nx (R (mx R k)).row).length) = false := by
          unfold lenR at hgt; simp; omega
        generalize ((allL (R (k + 1)).nx (R (k + 1)).row).length : Int) - (allL (R (mx R k)).nx (R (mx R k)).row).length = df at *
        clear hgt
        go_wp2_with fail
        refine HCm.out.mono ?_
        rintro e w1 ⟨rfl, m1, rfl⟩
        go_wp2_with fail
        go_roundw
        case rel => exact ⟨k + 1, m + m1, by omega, by go_num, by rw [HMx.out], by first | rfl | exact World.drewN_drewN _ _ _⟩
        case measure => simp [intOf]; omega
    · obtain rfl : k = n := by omega
      go_wp2
      go_ret
      exact ⟨rfl, m, rfl⟩

theorem info81 : (Try.prog.info? 81).map (fun i => i.size) = some 4 := by kernel_rfl
theorem Rw.blk {w : World} {b g size : Nat} {nx : Int} {row : List Int} (h : Rw w b g size nx row) : ∃ cs, w.heap[b]? = some (.cells cs 81 (0, 0)) := by
  obtain ⟨hd, tl, F, h, _⟩ := h
  exact ⟨_, h.blk⟩
theorem eq_ptr (w : World) (b : Nat) : (binOp .eql 34 (.pointer (some ⟨b, 0, none⟩)) (.pointer (some ⟨b, 0, none⟩))).run Try.prog w = .ok (.bool true) w := by
  obtain ⟨i, hi, _⟩ := Option.map_eq_some_iff.1 info81
  exact run_eql_ptr_same w _ Try.underlying34 hi
theorem ne_ptr (w : World) (b c : Nat) (h : b ≠ c) (hb : ∃ cs, w.heap[b]? = some (.cells cs 81 (0, 0))) (hc : ∃ cs, w.heap[c]? = some (.cells cs 81 (0, 0))) : (binOp .eql 34 (.pointer (some ⟨b, 0, none⟩)) (.pointer (some ⟨c, 0, none⟩))).run Try.prog w = .ok (.bool false) w := by
  obtain ⟨i, hi, hs⟩ := Option.map_eq_some_iff.1 info81
  obtain ⟨cb, hb⟩ := hb
  obtain ⟨cc, hc⟩ := hc
  exact run_eql_ptr_other w Try.underlying34 hi (by rw [hs]; decide) (fun e => h (congrArg Addr.block e)) hb hc

set_option maxRecDepth 100000 in
set_option maxHeartbeats 2000000 in
theorem index_any (p : Nat) (rv : Value) (n : Nat) (R : Nat → Rn) (j : Nat) (w : World) (h : Prc w p rv n R) (hj : j < n) (hn : n ≤ 256) : Calls Try.prog 79 #[rv, .pointer (some ⟨(R j).b, 0, none⟩)] w fun e w' => e = .returned (.int .i64 j) ∧ w = w' := by
  obtain ⟨g, cap, rfl⟩ : ∃ g cap, rv = .slice (some ⟨g, 0, none⟩) n cap := by
    rcases h.own.open with ⟨_, h0⟩ | ⟨g, cap, h0, _⟩
    · omega
    · exact ⟨g, cap, h0⟩
  have HC : Hid (∀ i, i < n → w.cell? ⟨g, i, none⟩ = some (.pointer (some ⟨(R i).b, 0, none⟩))) := fun i hi => by
    rcases h.own.open with ⟨h0, _⟩ | ⟨g', cap', he, _, hg, hc, hcells⟩
    · cases h0
    · cases he
      rw [hcells i (by omega), ptrs_at n R i hi]
  have HD : Hid (∀ i, i < j → (binOp .eql 34 (.pointer (some ⟨(R j).b, 0, none⟩)) (.pointer (some ⟨(R i).b, 0, none⟩))).run Try.prog w = .ok (.bool false) w) := fun i hi =>
    ne_ptr w _ _ (fun e => h.dis i j (by omega) hj (by omega) (R i).b (.inl rfl) (.inl e.symm)) (Rw.blk (h.ring j hj)) (Rw.blk (h.ring i (by omega)))
  clear h
  go_enter Try.func79, Try.ntmps79
  go_wp2
  go_loop [8] (fun i => ∃ k : Nat, k ≤ j ∧ i = .int .i64 k) (fun i => n - (intOf i).toNat)
  case atStart => exact ⟨0, Nat.zero_le _, rfl⟩
  case round =>
    obtain ⟨k, hk, rfl⟩ := hrel
    have ck := HC.out k (by omega)
    have hdl : decide (k < n) = true := by simp; omega
    by_cases hlt : k < j
    · have hne := HD.out k hlt
      generalize (R j).b = x at *
      generalize (R k).b = y at *
      go_wp2
      go_round
      case rel => exact ⟨k + 1, by omega, by go_num⟩
      case measure => simp [intOf]; omega
    · obtain rfl : k = j := by omega
      have he := eq_ptr w (R k).b
      generalize (R k).b = x at *
      go_wp2
      go_ret
      exact ⟨rfl, rfl⟩

def mostI (R : Nat → Rn) (n : Nat) : Nat := mx R (n - 1)
def mostB (R : Nat → Rn) (n : Nat) : Bool := decide (0 < lenR (R (mx R (n - 1))))
set_option maxHeartbeats 2000000 in
theorem most_any (p : Nat) (rv : Value) (n : Nat) (R : Nat → Rn) (w : World) (h : Prc w p rv n R) (hn1 : 1 ≤ n) (hn : n ≤ 256) : Calls Try.prog 50 #[.pointer (some ⟨p, 0, none⟩)] w fun e w' => e = .returned (.tuple #[.int .i64 (mostI R n), .bool (mostB R n)]) ∧ ∃ m, w' = w.drewN m := by
  obtain ⟨m, rfl⟩ : ∃ m, n = m + 1 := ⟨n - 1, by omega⟩
  have HT := Lib.hid (total_any p rv (m + 1) R w h hn)
  have c0 := h.blk.cell 0
  simp only [List.getElem?_toArray, List.getElem?_cons_zero] at c0
  unfold mostI mostB
  rw [show m + 1 - 1 = m by omega]
  by_cases h0 : tot R (m + 1) = 0
  · have hz := tot_zero R (m + 1) h0
    rw [mx_zero R m (fun i hi => hz i (by omega)), hz 0 (by omega)]
    rw [h0] at HT
    clear h hz h0
    go_enter Try.func50, Try.ntmps50
    go_wp2_with fail
    refine HT.out.mono ?_
    rintro e w1 ⟨rfl, m1, rfl⟩
    go_wp2_with fail
    go_ret2
    exact ⟨by simp, m1, rfl⟩
  · obtain ⟨i, hi, hpos⟩ := tot_pos R (m + 1) h0
    have hmx := mx_max R m i (by omega)
    rw [decide_eq_true (show 0 < lenR (R (mx R m)) by omega)]
    have htz : ((tot R (m + 1) : Int) == 0) = false := by rw [beq_eq_false_iff_ne]; omega
    have HM := Lib.hid (fun k => max_any p rv m R (w.drewN k) (h.drewN k) hn)
    have HI := Lib.hid (fun k => index_any p rv (m + 1) R (mx R m) (w.drewN k) (h.drewN k) (by have := mx_le R m; omega) hn)
    obtain ⟨a, cap, rfl⟩ := h.slice
    generalize (tot R (m + 1) : Int) = tt at *
    clear h h0 hi hpos hmx
    go_enter Try.func50, Try.ntmps50
    go_wp2_with fail
    refine HT.out.mono ?_
    rintro e w1 ⟨rfl, m1, rfl⟩
    go_wp2_with fail
    refine (HM.out m1).mono ?_
    rintro e w1 ⟨rfl, m2, hw⟩
    obtain rfl : w1 = w.drewN (m1 + m2) := hw.trans (World.drewN_drewN _ _ _)
    clear hw
    go_wp2_with fail
    refine (HI.out (m1 + m2)).mono ?_
    rintro e w1 ⟨rfl, rfl⟩
    go_wp2_with fail
    go_ret2
    exact ⟨rfl, m1 + m2, rfl⟩
end Go.Proofs.Ytgahkcbkpnehfaa.Procs
