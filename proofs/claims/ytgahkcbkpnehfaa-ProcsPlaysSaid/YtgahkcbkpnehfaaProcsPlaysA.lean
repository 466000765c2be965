/- Chapter 23: for the walk of ProcsPlays: any act, light, the start. -/
import Derived.Test.YtgahkcbkpnehfaaProcsActB
import Derived.Test.YtgahkcbkpnehfaaProcsLists
import Derived.Test.YtgahkcbkpnehfaaProcsNilsWalk
namespace Go.Proofs.Ytgahkcbkpnehfaa.Procs
open Go.RowKit Go.Esc
open Go.Proofs.Ytgahkcbkpnehfaa.Ring (Rw Sg allL RefR Turned)
open Go.Proofs.Ytgahkcbkpnehfaa.Glob (Gr Queue)
set_option linter.unusedVariables false

def AnyP (w0 : World) (p q d : Nat) (L : List Int) (e : Ending) (w' : World) : Prop := e = .returned (.bool true) ∧ ∃ n' R' L', 1 ≤ n' ∧ n' ≤ 20 ∧ L'.length ≤ L.length + 5140 ∧ Bth w0 w' p q d n' R' L'
theorem act_any (w0 w : World) (p q d n : Nat) (R : Nat → Rn) (L : List Int) (kind pp x : Int) (h : Bth w0 w p q d n R L) (hn1 : 1 ≤ n) (hn : n ≤ 20) (hl : L.length < 900000) (hk : ¬ (kind = 4 ∧ 20 < pp ∧ pp ≤ 256)) :
    Calls Try.prog 53 #[.pointer (some ⟨p, 0, none⟩), .pointer (some ⟨q, 0, none⟩), .pointer (some ⟨d, 0, none⟩), .agg #[.int .i64 kind, .int .i64 pp, .int .i64 x]] w (AnyP w0 p q d L) := by
  have fin : ∀ {R' : Nat → Rn} {e : Ending} {w' : World}, ActP w0 p q d n R' L e w' → AnyP w0 p q d L e w' := fun h => ⟨h.1, n, _, L, hn1, hn, by omega, h.2⟩
  by_cases h4 : kind = 4
  · subst h4
    by_cases hb : 1 ≤ pp ∧ pp ≤ 256
    · obtain ⟨m, rfl⟩ := Int.eq_ofNat_of_zero_le (show 0 ≤ pp by omega)
      refine (act_res w0 w p q d n m R L x h hn1 hn (by omega) (by omega) hl).mono ?_
      rintro e w' ⟨R', L', hL, he, hB⟩
      exact ⟨he, m, R', L', by omega, by omega, hL, hB⟩
    · exact (act_res_bad w0 w p q d n R L pp x h hb).mono (fun e w' h => fin h)
  · by_cases hp : 0 ≤ pp ∧ pp < n
    · obtain ⟨i, rfl⟩ := Int.eq_ofNat_of_zero_le hp.1
      have hi : i < n := by omega
      by_cases h0 : kind = 0
      · exact (act_put0 w0 w p q d n R L kind x i h hi h0 _ rfl).mono (fun e w' h => fin h)
      by_cases h1 : kind = 1
      · exact (act_put1 w0 w p q d n R L kind x i h hi h1).mono (fun e w' h => fin h)
      by_cases h2 : kind = 2
      · subst h2
        exact (act_get w0 w p q d n R L x i h hi).mono (fun e w' h => fin h)
      exact (act_grab w0 w p q d n R L kind x i h hi h4 h0 h1 h2).mono (fun e w' h => fin h)
    · exact (act_out w0 w p q d n R L kind pp x h h4 hp).mono (fun e w' h => fin h)

set_option maxHeartbeats 1000000 in
theorem light_any (n : Int) (a : Option Addr) (len cap : Nat) (w : World) : Calls Try.prog 52 #[.int .i64 n, .slice a len cap] w fun e w' => e = .returned (.bool (decide (len ≤ 60 ∧ (n ≤ 20 ∨ 256 < n)))) ∧ w = w' := by
  by_cases h1 : len ≤ 60
  · have d1 : decide ((len : Int) ≤ 60) = true := by simp; omega
    by_cases h2 : n ≤ 20
    · rw [decide_eq_true ⟨h1, .inl h2⟩]
      go_enter Try.func52, Try.ntmps52
      go_wp2
      go_ret
      exact ⟨rfl, rfl⟩
    · have d2 : decide (n ≤ 20) = false := by simpa using h2
      by_cases h3 : 256 < n
      · rw [decide_eq_true ⟨h1, .inr h3⟩]
        go_enter Try.func52, Try.ntmps52
        go_wp2
        go_ret
        exact ⟨rfl, rfl⟩
      · have d3 : decide (256 < n) = false := by simpa using h3
        rw [decide_eq_false (fun h => h.2.elim h2 h3)]
        go_enter Try.func52, Try.ntmps52
        go_wp2
        go_ret
        exact ⟨rfl, rfl⟩
  · have d1 : decide ((len : Int) ≤ 60) = false := by simp; omega
    rw [decide_eq_false (fun h => h1 h.1)]
    go_enter Try.func52, Try.ntmps52
    go_wp2
    go_ret
    exact ⟨rfl, rfl⟩

def Z : Nat → Rn := fun _ => ⟨0, 0, 0, []⟩
def ZV : Nat → Value := fun _ => .slice none 0 0
/-- The document's rings while they come. -/
structure Dz (w2 : World) (d : Nat) (sv : Value) (k : Nat) (wr : World) : Prop where
  blk : Blk wr d #[sv, .slice none 0 0] 72
  own : wr.ownsRow (d + 1) 54 3 sv k (xs Z ZV k)
  bel : Below w2.heap.size w2 wr
  eq : w2.heap.size = d
theorem Dz.start (w2 : World) : Dz w2 w2.heap.size (.slice none 0 0) 0 (w2.alloc (.cells #[.slice none 0 0, .slice none 0 0] 72)) :=
  ⟨Blk.new _ _ _, World.ownsRow_nil _ _ 54 3, below_alloc (Below.refl _ _) _, rfl⟩
theorem Dz.off {w2 : World} {d : Nat} {sv : Value} {k : Nat} {wr : World} (h : Dz w2 d sv k wr) : sv.ownBlock ≠ some d := fun e => by have := (World.ownsRow.lt h.own d e).1; omega
theorem Dz.more {w2 : World} {d : Nat} {sv sv' : Value} {k : Nat} {wr w' : World} {tmp : Obj} (h : Dz w2 d sv k wr) (hA : AppdV (wr.alloc tmp) (d + 1) 54 3 sv k (xs Z ZV k) [.int .i64 256, .int .i64 0, .slice none 0 0] sv' w') :
    Blk w' d #[sv, .slice none 0 0] 72 ∧ Dz w2 d sv' (k + 1) (w'.setCell ⟨d, 0, none⟩ sv') := by
  obtain ⟨ho, hg, hx⟩ := hA
  have hb : Blk w' d #[sv, .slice none 0 0] 72 := (h.blk.alloc tmp).kept hg (fun e => h.off e.symm)
  have hne : sv'.ownBlock ≠ some d := fun e => by have := (World.ownsRow.lt ho d e).1; omega
  refine ⟨hb, hb.set 0 sv', World.ownsRow.kept ho (grown_set w' d 0 sv') (.inr hne), ?_, h.eq⟩
  exact below_set (below_grown (below_alloc h.bel tmp) hg (fun j hj => by have := (World.ownsRow.lt h.own j hj).1; have := h.eq; omega)) (by have := h.eq; omega) 0 sv'
/-- All stand beside each other. -/
theorem Bt.start {w w1 w2 wr : World} {rv : Value} {n g cap : Nat} {R : Nat → Rn} {p q d : Nat} (hPQ : PQ w2 p rv n R q (fun j => j = q) []) (hb1 : Below w.heap.size w w1) (hb2 : Below w1.heap.size w1 w2) (hp : ∀ j, Pf p rv n R j → w.heap.size ≤ j) (hq : w1.heap.size ≤ q) (hz : ∀ i, i < n → (R i).nx = 0 ∧ (R i).row = []) (hd : Dz w2 d (.slice (some ⟨g, 0, none⟩) n cap) n wr) :
    Bth w wr p q d n R [] := by
  have hb := below_below hb1 hb2
  have hs1 := hb1.size
  have hs2 := hb2.size
  have hde := hd.eq
  obtain ⟨hnc, hbg, cs, hblk, hcs⟩ := row_ref hd.own
  have hlt : ∀ j, Pb p rv n R (fun j => j = q) j → j < w2.heap.size := fun j hj => hPQ.lt hj
  have hV : ∀ i j, (ZV i).ownBlock ≠ some j := fun i j e => by simp [ZV, Value.ownBlock] at e
  refine ⟨rv, fun j => j = q, g, cap, cs, ZV, .slice none 0 0, hPQ.below hd.bel, ⟨hd.blk, fun i hi => ?_, by omega, Slw.nil _, by simp [Value.ownBlock], by simp [Value.ownBlock], fun i hi => hV i d, fun i hi => hV i g, hnc, fun i hi => by rw [(hz i hi).1, (hz i hi).2]; exact ⟨Int.le_refl _, by simp⟩, hblk.lt, fun i hi j hj => absurd hj (hV i j), fun j hj => by simp [Value.ownBlock] at hj⟩, fun j hj hs => ?_, fun j hj => ?_, fun j hj => ?_, below_below hb hd.bel, fun i hi => by rw [(hz i hi).2]; exact fun x hx => by simp at hx⟩
  · obtain ⟨c0, c1, c2⟩ := hcs i hi
    rw [(hz i hi).1, (hz i hi).2]
    exact ⟨hblk, c0, c1, c2, Slw.nil _, fun e => absurd rfl e⟩
  · have := hlt j hs
    rcases hj with rfl | rfl | hj | ⟨i, hi, hj⟩
    · omega
    · omega
    · simp [Value.ownBlock] at hj
    · exact hV i j hj
  · rcases hj with hj | hj
    · exact hp j hj
    · have e' : j = q := hj
      omega
  · rcases hj with rfl | rfl | hj | ⟨i, hi, hj⟩
    · omega
    · omega
    · simp [Value.ownBlock] at hj
    · exact absurd hj (hV i j)
end Go.Proofs.Ytgahkcbkpnehfaa.Procs
