/- Chapter 19: the table in memory; the contracts of is, at, Get, Who, Count, Len. -/
import Derived.Test.YtcjgdnlacfpioaaRowv
import Derived.Test.YtcjgdnlacfpioaaProg
import Derived.WalkMore
import Derived.BigQuiet
import Derived.Laws.ResultCell
import Derived.Laws.StructEq
namespace Go.Proofs.Ytcjgdnlacfpioaa.Pstat
open Go.RowKit Go.Esc
set_option linter.unusedVariables false

/-- A processor: its status, and who has it. -/
abbrev Pr := Int × Int
def pz : Pr := (0, 0)
/-- The cells of processors. -/
def ys : List Pr → List Value
  | [] => []
  | x :: l => [.int .i64 x.1, .int .i64 x.2] ++ ys l
theorem ys_len (l : List Pr) : (ys l).length = l.length * 2 := by
  induction l with
  | nil => rfl
  | cons x l ih => simp [ys, ih]; omega
theorem ys_append (l m : List Pr) : ys (l ++ m) = ys l ++ ys m := by
  induction l with
  | nil => rfl
  | cons x l ih => simp [ys, ih]
theorem ys_at (l : List Pr) : ∀ i, i < l.length → (ys l)[i * 2]? = some (.int .i64 (l[i]?.getD pz).1) ∧ (ys l)[i * 2 + 1]? = some (.int .i64 (l[i]?.getD pz).2) := by
  induction l with
  | nil => intro i hi; simp at hi
  | cons x l ih =>
    intro i hi
    cases i with
    | zero => simp [ys]
    | succ i =>
      have := ih i (by simpa using hi)
      rw [show (i + 1) * 2 = (i * 2) + 1 + 1 by omega]
      simpa [ys] using this

/-- The table at block t. -/
structure Tb (w : World) (t : Nat) (tv : Value) (l : List Pr) : Prop where
  blk : Blk w t #[tv] 72
  own : w.ownsRow (t + 1) 74 2 tv l.length (ys l)
def Tf (t : Nat) (tv : Value) (j : Nat) : Prop := j = t ∨ tv.ownBlock = some j
theorem Tb.off {w : World} {t : Nat} {tv : Value} {l : List Pr} (h : Tb w t tv l) : tv.ownBlock ≠ some t := fun e => by have := (World.ownsRow.lt h.own t e).1; omega
theorem Tb.lt {w : World} {t : Nat} {tv : Value} {l : List Pr} (h : Tb w t tv l) {j : Nat} (hj : Tf t tv j) : j < w.heap.size := by
  rcases hj with rfl | hj
  · exact h.blk.lt
  · exact (World.ownsRow.lt h.own j hj).2
theorem Tb.ge {w : World} {t : Nat} {tv : Value} {l : List Pr} (h : Tb w t tv l) {j : Nat} (hj : Tf t tv j) : t ≤ j := by
  rcases hj with rfl | hj
  · exact Nat.le_refl _
  · have := (World.ownsRow.lt h.own j hj).1; omega
theorem Tb.only {S : Nat → Prop} {w w' : World} {t : Nat} {tv : Value} {l : List Pr} (h : Tb w t tv l) (o : Only S w w') (hs : ∀ j, Tf t tv j → ¬ S j) : Tb w' t tv l :=
  ⟨h.blk.only o (hs t (.inl rfl)), rowv_off h.own o (fun j hj => hs j (.inr hj))⟩
theorem Tb.below {w w' : World} {t : Nat} {tv : Value} {l : List Pr} (h : Tb w t tv l) (hb : Below w.heap.size w w') : Tb w' t tv l :=
  h.only (S := fun _ => False) ((Only.refl _ w).below hb) (fun _ _ x => x)
theorem Tb.slice {w : World} {t : Nat} {tv : Value} {l : List Pr} (h : Tb w t tv l) : ∃ a cap, tv = .slice a l.length cap := by
  rcases rowv_open h.own with ⟨rfl, h0⟩ | ⟨g, cap, rfl, _⟩
  · exact ⟨none, 0, by rw [h0]⟩
  · exact ⟨_, cap, rfl⟩
/-- One processor's place. -/
theorem Tb.at {w : World} {t : Nat} {a : Option Addr} {n cap : Nat} {l : List Pr} (h : Tb w t (.slice a n cap) l) (i : Nat) (hi : i < l.length) : n = l.length ∧ ∃ g, a = some ⟨g, 0, none⟩ ∧ w.cell? ⟨g, i * 2, none⟩ = some (.int .i64 (l[i]?.getD pz).1) ∧ w.cell? ⟨g, i * 2 + 1, none⟩ = some (.int .i64 (l[i]?.getD pz).2) := by
  rcases rowv_open h.own with ⟨_, h0⟩ | ⟨g, cap', he, _, hg, hc, hcells⟩
  · omega
  · simp only [Value.slice.injEq] at he
    obtain ⟨rfl, rfl, rfl⟩ := he
    obtain ⟨h1, h2⟩ := ys_at l i hi
    refine ⟨rfl, g, rfl, ?_, ?_⟩
    · rw [hcells (i * 2) (by omega), h1]; rfl
    · rw [hcells (i * 2 + 1) (by omega), h2]; rfl

set_option maxHeartbeats 1000000 in
theorem is_any (x : Int) (w : World) : Calls Try.prog 42 #[.int .i64 x] w fun e w' => e = .returned (.bool (decide (1 ≤ x ∧ x ≤ 256))) ∧ w = w' := by
  by_cases h1 : 1 ≤ x
  · by_cases h2 : x ≤ 256
    · rw [decide_eq_true ⟨h1, h2⟩]
      go_enter Try.func42, Try.ntmps42
      go_wp2
      go_ret
      exact ⟨rfl, rfl⟩
    · rw [decide_eq_false (fun h => h2 h.2)]
      have hd : decide (x ≤ 256) = false := by simpa using h2
      clear h2
      go_enter Try.func42, Try.ntmps42
      go_wp2
      go_ret
      exact ⟨rfl, rfl⟩
  · rw [decide_eq_false (fun h => h1 h.1)]
    have hd : decide (1 ≤ x) = false := by simpa using h1
    clear h1
    go_enter Try.func42, Try.ntmps42
    go_wp2
    go_ret
    exact ⟨rfl, rfl⟩

theorem at_nil (p : Int) (w : World) : Calls Try.prog 50 #[.pointer none, .int .i64 p] w fun e w' => e = .returned (.pointer none) ∧ w = w' := by
  go_enter Try.func50, Try.ntmps50
  go_wp2
  go_ret
  exact ⟨rfl, rfl⟩
theorem at_out (t : Nat) (tv : Value) (l : List Pr) (p : Int) (w : World) (h : Tb w t tv l) (hp : ¬ (0 ≤ p ∧ p < l.length)) : Calls Try.prog 50 #[.pointer (some ⟨t, 0, none⟩), .int .i64 p] w fun e w' => e = .returned (.pointer none) ∧ w = w' := by
  obtain ⟨a, cap, rfl⟩ := h.slice
  have c0 := h.blk.cell 0
  simp only [List.getElem?_toArray, List.getElem?_cons_zero] at c0
  clear h
  by_cases h0 : p < 0
  · clear hp
    go_enter Try.func50, Try.ntmps50
    go_wp2
    go_ret
    exact ⟨rfl, rfl⟩
  · have hd0 : decide (p < 0) = false := by simpa using h0
    have hd1 : decide ((l.length : Int) ≤ p) = true := by simp; omega
    generalize l.length = n at *
    clear hp h0
    go_enter Try.func50, Try.ntmps50
    go_wp2
    go_ret
    exact ⟨rfl, rfl⟩
theorem at_in (t g n cap : Nat) (l : List Pr) (i : Nat) (w : World) (h : Tb w t (.slice (some ⟨g, 0, none⟩) n cap) l) (hi : i < n) : Calls Try.prog 50 #[.pointer (some ⟨t, 0, none⟩), .int .i64 i] w fun e w' => e = .returned (.pointer (some ⟨g, i * 2, none⟩)) ∧ w = w' := by
  have c0 := h.blk.cell 0
  simp only [List.getElem?_toArray, List.getElem?_cons_zero] at c0
  clear h
  have hd0 : decide ((i : Int) < 0) = false := by simp
  have hd1 : decide ((n : Int) ≤ (i : Int)) = false := by simp; omega
  have hd2 : decide (n ≤ i) = false := by simp; omega
  have hii : (i : Int) < (n : Int) := by omega
  go_enter Try.func50, Try.ntmps50
  go_wp2
  go_ret
  exact ⟨rfl, rfl⟩

/-- What Get and Who answer. -/
def getL (l : List Pr) (p : Int) : Int := if 0 ≤ p ∧ p < l.length then (l[p.toNat]?.getD pz).1 else 4
def whoL (l : List Pr) (p : Int) : Int := if 0 ≤ p ∧ p < l.length then (l[p.toNat]?.getD pz).2 else -1

set_option maxHeartbeats 1000000 in
theorem get_any (t : Nat) (tv : Value) (l : List Pr) (p : Int) (w : World) (h : Tb w t tv l) : Calls Try.prog 30 #[.pointer (some ⟨t, 0, none⟩), .int .i64 p] w fun e w' => e = .returned (.int .i64 (getL l p)) ∧ w = w' := by
  unfold getL
  by_cases hp : 0 ≤ p ∧ p < l.length
  · rw [if_pos hp]
    obtain ⟨i, rfl⟩ := Int.eq_ofNat_of_zero_le hp.1
    rw [Int.toNat_natCast]
    have hi : i < l.length := by omega
    obtain ⟨a, cap, rfl⟩ := h.slice
    obtain ⟨_, g, rfl, c0, c1⟩ := h.at i hi
    have HA := Lib.hid (at_in t g _ cap l i w h hi)
    clear h hp hi
    generalize (l[i]?.getD pz).1 = y at *
    go_enter Try.func30, Try.ntmps30
    go_wp2_with fail
    refine HA.out.mono ?_
    rintro e w1 ⟨rfl, rfl⟩
    go_wp2_with fail
    go_ret
    exact ⟨rfl, rfl⟩
  · rw [if_neg hp]
    have HA := Lib.hid (at_out t tv l p w h hp)
    clear h hp
    go_enter Try.func30, Try.ntmps30
    go_wp2_with fail
    refine HA.out.mono ?_
    rintro e w1 ⟨rfl, rfl⟩
    go_wp2_with fail
    go_ret
    exact ⟨rfl, rfl⟩
set_option maxHeartbeats 1000000 in
theorem who_any (t : Nat) (tv : Value) (l : List Pr) (p : Int) (w : World) (h : Tb w t tv l) : Calls Try.prog 29 #[.pointer (some ⟨t, 0, none⟩), .int .i64 p] w fun e w' => e = .returned (.int .i64 (whoL l p)) ∧ w = w' := by
  unfold whoL
  by_cases hp : 0 ≤ p ∧ p < l.length
  · rw [if_pos hp]
    obtain ⟨i, rfl⟩ := Int.eq_ofNat_of_zero_le hp.1
    rw [Int.toNat_natCast]
    have hi : i < l.length := by omega
    obtain ⟨a, cap, rfl⟩ := h.slice
    obtain ⟨_, g, rfl, c0, c1⟩ := h.at i hi
    have HA := Lib.hid (at_in t g _ cap l i w h hi)
    clear h hp hi
    generalize (l[i]?.getD pz).2 = y at *
    go_enter Try.func29, Try.ntmps29
    go_wp2_with fail
    refine HA.out.mono ?_
    rintro e w1 ⟨rfl, rfl⟩
    go_wp2_with fail
    go_ret
    exact ⟨rfl, rfl⟩
  · rw [if_neg hp]
    have HA := Lib.hid (at_out t tv l p w h hp)
    clear h hp
    go_enter Try.func29, Try.ntmps29
    go_wp2_with fail
    refine HA.out.mono ?_
    rintro e w1 ⟨rfl, rfl⟩
    go_wp2_with fail
    go_ret
    exact ⟨rfl, rfl⟩
theorem get_nil (p : Int) (w : World) : Calls Try.prog 30 #[.pointer none, .int .i64 p] w fun e w' => e = .returned (.int .i64 0) ∧ w = w' := by
  go_enter Try.func30, Try.ntmps30
  go_wp2_with fail
  refine (at_nil p w).mono ?_
  rintro e w1 ⟨rfl, rfl⟩
  go_wp2_with fail
  go_ret
  exact ⟨rfl, rfl⟩
theorem who_nil (p : Int) (w : World) : Calls Try.prog 29 #[.pointer none, .int .i64 p] w fun e w' => e = .returned (.int .i64 (-1)) ∧ w = w' := by
  go_enter Try.func29, Try.ntmps29
  go_wp2_with fail
  refine (at_nil p w).mono ?_
  rintro e w1 ⟨rfl, rfl⟩
  go_wp2_with fail
  go_ret
  exact ⟨rfl, rfl⟩

/-- How many are so. -/
def cnt (s : Int) (l : List Pr) : Nat := l.countP (fun x => x.1 == s)
theorem cnt_take (s : Int) (l : List Pr) (k : Nat) (h : k < l.length) : cnt s (l.take (k + 1)) = cnt s (l.take k) + (if (l[k]?.getD pz).1 == s then 1 else 0) := by
  unfold cnt
  rw [List.take_succ_eq_append_getElem h, List.countP_append]
  simp [h, List.countP_cons]
theorem cnt_le (s : Int) (l : List Pr) : cnt s l ≤ l.length := List.countP_le_length
def CntP (x : Int) (w : World) (e : Ending) (w' : World) : Prop := e = .returned (.int .i64 x) ∧ Below w.heap.size w w'

set_option maxHeartbeats 2000000 in
theorem count_any (t : Nat) (tv : Value) (l : List Pr) (s : Int) (w : World) (h : Tb w t tv l) (hl : l.length ≤ 100000) : Calls Try.prog 32 #[.pointer (some ⟨t, 0, none⟩), .int .i64 s] w (CntP (cnt s l) w) := by
  obtain ⟨a, cap, rfl⟩ := h.slice
  have c0 := h.blk.cell 0
  simp only [List.getElem?_toArray, List.getElem?_cons_zero] at c0
  have HH := Lib.hid h
  clear h
  obtain ⟨n, HN⟩ : ∃ n, Hid (l.length = n) := ⟨_, rfl⟩
  rw [HN.out] at HH c0 hl
  go_enter Try.func32, Try.ntmps32
  go_wp2
  go_loopw [4, 14] (fun c i wr => ∃ k : Nat, k ≤ n ∧ i = .int .i64 k ∧ c = .int .i64 (cnt s (l.take k) : Nat) ∧ Below w.heap.size w wr) (fun _ i _ => n - (intOf i).toNat)
  case atStart => exact ⟨0, Nat.zero_le _, rfl, by simp [cnt], Below.refl _ _⟩
  case round =>
    obtain ⟨k, hk, rfl, rfl, hB⟩ := hrel
    have HB := Lib.hid hB
    by_cases hlt : k < n
    · have hTr := HH.out.below hB
      obtain ⟨_, g, rfl, y0, y1⟩ := hTr.at k (by rw [HN.out]; exact hlt)
      have hgl := lt_of_cell y0
      have HC := Lib.hid (cnt_take s l k (by rw [HN.out]; exact hlt))
      have hcl : cnt s (l.take k) ≤ k := Nat.le_trans (cnt_le _ _) (by rw [List.length_take]; omega)
      generalize (l[k]?.getD pz).1 = z0 at *
      generalize (l[k]?.getD pz).2 = z1 at *
      generalize cnt s (l.take k) = c at *
      clear hTr hB
      by_cases hz : z0 = s
      · have hzb : (z0 == s) = true := by simpa using hz
        rw [if_pos hzb] at HC
        go_wp2
        go_roundw
        case rel => exact ⟨k + 1, by omega, by go_num, by rw [HC.out]; go_num, below_alloc HB.out _⟩
        case measure => simp [intOf]; omega
      · have hzb : (z0 == s) = false := by simpa using hz
        rw [if_neg (by rw [hzb]; decide)] at HC
        go_wp2
        go_roundw
        case rel => exact ⟨k + 1, by omega, by go_num, by rw [HC.out]; rfl, below_alloc HB.out _⟩
        case measure => simp [intOf]; omega
    · obtain rfl : k = n := by omega
      have HT : Hid (l.take k = l) := List.take_of_length_le (by rw [HN.out]; exact Nat.le_refl _)
      rw [HT.out]
      clear hB
      go_wp2
      go_ret
      exact ⟨rfl, HB.out⟩
theorem count_nil (s : Int) (w : World) : Calls Try.prog 32 #[.pointer none, .int .i64 s] w fun e w' => e = .returned (.int .i64 0) ∧ w = w' := by
  go_enter Try.func32, Try.ntmps32
  go_wp2
  go_ret
  exact ⟨rfl, rfl⟩
theorem len_nil (w : World) : Calls Try.prog 31 #[.pointer none] w fun e w' => e = .returned (.int .i64 0) ∧ w = w' := by
  go_enter Try.func31, Try.ntmps31
  go_wp2
  go_ret
  exact ⟨rfl, rfl⟩
end Go.Proofs.Ytcjgdnlacfpioaa.Pstat
