/- Slices of ints as lists: to read (Sl), and as a row of one's own (OwnI). Nothing of a program in sight. -/
import Derived.Test.YtcjgdnlacfpioaaBaseb
import Derived.Test.YtcjgdnlacfpioaaOpen
import Derived.WalkSmall
namespace Go.Esc
open Go.RowKit

/-- The slice v reads as the list l. -/
def Sl (w : World) (v : Value) (l : List Int) : Prop :=
  ∃ a cap, v = .slice a l.length cap ∧ l.length ≤ maxLen ∧
    (l = [] ∨ ∃ b off, a = some ⟨b, off, none⟩ ∧ b < w.heap.size ∧ ∀ i, i < l.length → w.cell? ⟨b, off + i, none⟩ = some (.int .i64 (l[i]?.getD 0)))

/-- The slice v owns a row of ints (blocks from base on): it reads as l. -/
def OwnI (w : World) (base : Nat) (v : Value) (l : List Int) : Prop := w.ownsRow base 3 1 v l.length (l.map (Value.int .i64))

theorem Sl.nil (w : World) : Sl w (.slice none 0 0) [] := ⟨none, 0, rfl, Nat.zero_le _, .inl rfl⟩

theorem Sl.moved {w w' : World} {v : Value} {l : List Int} (h : Sl w v l) (hs : w.heap.size ≤ w'.heap.size) (hk : ∀ b off, v = .slice (some ⟨b, off, none⟩) l.length (match v with | .slice _ _ c => c | _ => 0) → l ≠ [] → b < w.heap.size → w'.heap[b]? = w.heap[b]?) : Sl w' v l := by
  obtain ⟨a, cap, rfl, hm, h⟩ := h
  refine ⟨a, cap, rfl, hm, ?_⟩
  rcases h with h | ⟨b, off, rfl, hb, hc⟩
  · exact .inl h
  · by_cases hl : l = []
    · exact .inl hl
    · refine .inr ⟨b, off, rfl, by omega, fun i hi => ?_⟩
      rw [World.cell?_of_block (w := w) (hk b off rfl hl hb)]
      exact hc i hi

theorem Sl.below {w w' : World} {v : Value} {l : List Int} (h : Sl w v l) (hb : Below w.heap.size w w') : Sl w' v l :=
  h.moved hb.size fun b _ _ _ hlt => hb.block b hlt
theorem Sl.drewN {w : World} {v : Value} {l : List Int} (h : Sl w v l) (n : Nat) : Sl (w.drewN n) v l := h
theorem Sl.drew {w : World} {v : Value} {l : List Int} (h : Sl w v l) : Sl w.drew v l := h
theorem Sl.alloc {w : World} {v : Value} {l : List Int} (h : Sl w v l) (o : Obj) : Sl (w.alloc o) v l := h.below (below_alloc (Below.refl _ _) o)

theorem Sl.ofOwn {w : World} {base : Nat} {v : Value} {l : List Int} (h : OwnI w base v l) : Sl w v l := by
  obtain ⟨_, ⟨rfl, h0⟩ | ⟨g, cap, cur, rfl, _, hg, hn, hm, hs, ht⟩⟩ := h
  · have : l = [] := List.length_eq_zero_iff.1 h0
    subst this
    exact Sl.nil w
  · refine ⟨_, cap, rfl, Nat.le_trans hn hm, .inr ⟨g, 0, rfl, (Array.getElem?_eq_some_iff.1 hg).1, fun i hi => ?_⟩⟩
    rw [Nat.mul_one] at ht hs
    have h1 : (cur.toList.take l.length)[i]? = (l.map (Value.int .i64))[i]? := by rw [ht]
    rw [List.getElem?_take_of_lt hi, List.getElem?_map, List.getElem?_eq_getElem hi] at h1
    simp [World.cell?, hg]
    simpa [hi] using h1

theorem Sl.ofRow {w : World} {a : Option Addr} {len cap : Nat} {f : Nat → Nat → Int} (h : Row w a len 1 f) : Sl w (.slice a len cap) ((List.range len).map fun i => f i 0) := by
  refine ⟨a, cap, by simp, ?_, ?_⟩
  · rcases h with rfl | ⟨b, off, rfl, hb, hm, _⟩
    · simp
    · simpa using hm
  · rcases h with rfl | ⟨b, off, rfl, hb, hm, hc, _⟩
    · left; simp
    · refine .inr ⟨b, off, rfl, hb, fun i hi => ?_⟩
      have hi' : i < len := by simpa using hi
      have := hc i 0 hi' (by omega)
      rw [Nat.mul_one, Nat.add_zero] at this
      simpa [hi'] using this

theorem OwnI.nil (w : World) (base : Nat) : OwnI w base (.slice none 0 0) [] := World.ownsRow_nil w base 3 1
theorem OwnI.lt {w : World} {base : Nat} {v : Value} {l : List Int} (h : OwnI w base v l) : ∀ k, v.ownBlock = some k → base ≤ k ∧ k < w.heap.size := World.ownsRow.lt h
theorem OwnI.kept {w w' : World} {base : Nat} {v : Value} {l : List Int} {row : Option Nat} (h : OwnI w base v l) (hg : w.grownBy w' row) (hne : v.ownBlock = none ∨ v.ownBlock ≠ row) : OwnI w' base v l := World.ownsRow.kept h hg hne
theorem OwnI.below {w w' : World} {base : Nat} {v : Value} {l : List Int} (h : OwnI w base v l) (hb : Below w.heap.size w w') : OwnI w' base v l :=
  h.kept (grown_of_below hb none) (by cases hv : v.ownBlock <;> simp)
theorem OwnI.mono {w : World} {base base' : Nat} {v : Value} {l : List Int} (h : OwnI w base v l) (hb : base' ≤ base) : OwnI w base' v l := by
  obtain ⟨h1, h2 | ⟨g, cap, cur, hv, hg, hh, r⟩⟩ := h
  · exact ⟨h1, .inl h2⟩
  · exact ⟨h1, .inr ⟨g, cap, cur, hv, Nat.le_trans hb hg, hh, r⟩⟩
theorem OwnI.drewN {w : World} {base : Nat} {v : Value} {l : List Int} (h : OwnI w base v l) (n : Nat) : OwnI (w.drewN n) base v l := h

/-- A slice written out. -/
theorem Sl.new (w : World) (l : List Int) (c : Nat) (h : l.length ≤ maxLen) : Sl (w.alloc (.cells (l.map (Value.int .i64)).toArray 3)) (.slice (some ⟨w.heap.size, 0, none⟩) l.length c) l := by
  refine ⟨_, c, rfl, h, .inr ⟨_, 0, rfl, by simp, fun i hi => ?_⟩⟩
  rw [(Blk.new w _ 3).cell]
  simp [hi]

end Go.Esc
