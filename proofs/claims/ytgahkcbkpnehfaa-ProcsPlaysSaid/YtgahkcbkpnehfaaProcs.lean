/- Chapter 23: the rings of all processors: in memory, and the contracts of is, Len, Ring. -/
import Derived.Test.YtgahkcbkpnehfaaRowv
import Derived.Test.YtgahkcbkpnehfaaRingFill
namespace Go.Proofs.Ytgahkcbkpnehfaa.Procs
open Go.RowKit Go.Esc
open Go.Proofs.Ytgahkcbkpnehfaa.Ring (Rw Sg allL)
set_option linter.unusedVariables false

/-- A ring: where it lies, and what it holds. -/
structure Rn where
  b : Nat
  g : Nat
  nx : Int
  row : List Int
def ptrs (n : Nat) (R : Nat → Rn) : List Value := (List.range n).map fun i => .pointer (some ⟨(R i).b, 0, none⟩)
theorem ptrs_at (n : Nat) (R : Nat → Rn) (i : Nat) (h : i < n) : (ptrs n R)[i]?.getD undef = .pointer (some ⟨(R i).b, 0, none⟩) := by simp [ptrs, h]

/-- The rings in memory, at block p. -/
structure Prc (w : World) (p : Nat) (rv : Value) (n : Nat) (R : Nat → Rn) : Prop where
  blk : Blk w p #[rv] 93
  own : Rdv w 0 34 1 rv n (ptrs n R)
  ring : ∀ i, i < n → Rw w (R i).b (R i).g 256 (R i).nx (R i).row
  np : rv.ownBlock ≠ some p
  rp : ∀ i, i < n → ¬ Sg (R i).b (R i).g p
  rr : ∀ i, i < n → Off (Sg (R i).b (R i).g) rv
  dis : ∀ i j, i < n → j < n → i ≠ j → ∀ k, Sg (R i).b (R i).g k → ¬ Sg (R j).b (R j).g k
def Pf (p : Nat) (rv : Value) (n : Nat) (R : Nat → Rn) (j : Nat) : Prop := j = p ∨ rv.ownBlock = some j ∨ ∃ i, i < n ∧ Sg (R i).b (R i).g j

theorem Prc.lt {w : World} {p : Nat} {rv : Value} {n : Nat} {R : Nat → Rn} (h : Prc w p rv n R) {j : Nat} (hj : Pf p rv n R j) : j < w.heap.size := by
  rcases hj with rfl | hj | ⟨i, hi, hj | hj⟩
  · exact h.blk.lt
  · exact (h.own.lt j hj).2
  · rw [hj]; exact (h.ring i hi).lt.1
  · rw [hj]; exact (h.ring i hi).lt.2
theorem Prc.only {S : Nat → Prop} {w w' : World} {p : Nat} {rv : Value} {n : Nat} {R : Nat → Rn} (h : Prc w p rv n R) (o : Only S w w') (hs : ∀ j, Pf p rv n R j → ¬ S j) : Prc w' p rv n R :=
  ⟨h.blk.only o (hs p (.inl rfl)), h.own.off o (fun j hj => hs j (.inr (.inl hj))), fun i hi => (h.ring i hi).only o (fun j hj => hs j (.inr (.inr ⟨i, hi, hj⟩))), h.np, h.rp, h.rr, h.dis⟩
theorem Prc.below {w w' : World} {p : Nat} {rv : Value} {n : Nat} {R : Nat → Rn} (h : Prc w p rv n R) (hb : Below w.heap.size w w') : Prc w' p rv n R :=
  h.only (S := fun _ => False) ((Only.refl _ w).below hb) (fun _ _ x => x)
theorem Prc.drewN {w : World} {p : Nat} {rv : Value} {n : Nat} {R : Nat → Rn} (h : Prc w p rv n R) (k : Nat) : Prc (w.drewN k) p rv n R :=
  ⟨h.blk, h.own, fun i hi => (h.ring i hi).drewN k, h.np, h.rp, h.rr, h.dis⟩

set_option maxHeartbeats 1000000 in
theorem is_any (x : Int) (w : World) : Calls Try.prog 75 #[.int .i64 x] w fun e w' => e = .returned (.bool (decide (1 ≤ x ∧ x ≤ 256))) ∧ w = w' := by
  by_cases h1 : 1 ≤ x
  · by_cases h2 : x ≤ 256
    · rw [decide_eq_true ⟨h1, h2⟩]
      go_enter Try.func75, Try.ntmps75
      go_wp2
      go_ret
      exact ⟨rfl, rfl⟩
    · rw [decide_eq_false (fun h => h2 h.2)]
      have hd : decide (x ≤ 256) = false := by simpa using h2
      clear h2
      go_enter Try.func75, Try.ntmps75
      go_wp2
      go_ret
      exact ⟨rfl, rfl⟩
  · rw [decide_eq_false (fun h => h1 h.1)]
    have hd : decide (1 ≤ x) = false := by simpa using h1
    clear h1
    go_enter Try.func75, Try.ntmps75
    go_wp2
    go_ret
    exact ⟨rfl, rfl⟩

theorem Prc.slice {w : World} {p : Nat} {rv : Value} {n : Nat} {R : Nat → Rn} (h : Prc w p rv n R) : ∃ a cap, rv = .slice a n cap := by
  rcases h.own.open with ⟨rfl, rfl⟩ | ⟨g, cap, rfl, _⟩
  · exact ⟨none, 0, rfl⟩
  · exact ⟨_, cap, rfl⟩

set_option maxHeartbeats 1000000 in
theorem len_any (p : Nat) (rv : Value) (n : Nat) (R : Nat → Rn) (w : World) (h : Prc w p rv n R) : Calls Try.prog 51 #[.pointer (some ⟨p, 0, none⟩)] w fun e w' => e = .returned (.int .i64 n) ∧ w = w' := by
  obtain ⟨a, cap, rfl⟩ := h.slice
  have c0 := h.blk.cell 0
  simp only [List.getElem?_toArray, List.getElem?_cons_zero] at c0
  clear h
  go_enter Try.func51, Try.ntmps51
  go_wp2
  go_ret
  exact ⟨rfl, rfl⟩

/-- What Ring(i) answers. -/
def ringP (n : Nat) (R : Nat → Rn) (i : Int) : Value := if 0 ≤ i ∧ i < n then .pointer (some ⟨(R i.toNat).b, 0, none⟩) else .pointer none
set_option maxHeartbeats 1000000 in
theorem ring_any (p : Nat) (rv : Value) (n : Nat) (R : Nat → Rn) (i : Int) (w : World) (h : Prc w p rv n R) : Calls Try.prog 44 #[.pointer (some ⟨p, 0, none⟩), .int .i64 i] w fun e w' => e = .returned (ringP n R i) ∧ w = w' := by
  have HL := Lib.hid (len_any p rv n R w h)
  unfold ringP
  by_cases h0 : i < 0
  · rw [if_neg (by omega)]
    clear h
    go_enter Try.func44, Try.ntmps44
    go_wp2
    go_ret
    exact ⟨rfl, rfl⟩
  · have hd0 : decide (i < 0) = false := by simpa using h0
    by_cases h1 : i < n
    · rw [if_pos ⟨by omega, h1⟩]
      obtain ⟨k, rfl⟩ := Int.eq_ofNat_of_zero_le (show 0 ≤ i by omega)
      rw [Int.toNat_natCast]
      have hk : k < n := by omega
      rcases h.own.open with ⟨_, h0⟩ | ⟨g, cap, rfl, _, hg, hc, hcells⟩
      · omega
      have cx := hcells k (by omega)
      rw [ptrs_at n R k hk] at cx
      have c0 := h.blk.cell 0
      simp only [List.getElem?_toArray, List.getElem?_cons_zero] at c0
      have hd1 : decide ((n : Int) ≤ (k : Int)) = false := by simp; omega
      clear h hcells h0 
      go_enter Try.func44, Try.ntmps44
      go_wp2_with fail
      refine HL.out.mono ?_
      rintro e w1 ⟨rfl, rfl⟩
      go_wp2_with fail
      go_ret
      exact ⟨rfl, rfl⟩
    · rw [if_neg (by omega)]
      have hd1 : decide ((n : Int) ≤ i) = true := by simp; omega
      clear h
      go_enter Try.func44, Try.ntmps44
      go_wp2_with fail
      refine HL.out.mono ?_
      rintro e w1 ⟨rfl, rfl⟩
      go_wp2_with fail
      go_ret
      exact ⟨rfl, rfl⟩
end Go.Proofs.Ytgahkcbkpnehfaa.Procs
