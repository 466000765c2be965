/- Slices by their block: 'Slw' reads as a list, whatever its block; rows of one's own that shrink. Nothing of a program in sight. -/
import Derived.Test.YtcjgdnlacfpioaaOnly
namespace Go.Esc
open Go.RowKit

/-- The slice v reads as the list l. -/
def Slw (w : World) (v : Value) (l : List Int) : Prop :=
  ∃ a cap, v = .slice a l.length cap ∧ ((a = none → cap = 0) ∧ l.length ≤ cap) ∧ l.length ≤ maxLen ∧
    (l = [] ∨ ∃ b off, a = some ⟨b, off, none⟩ ∧ b < w.heap.size ∧ ∀ i, i < l.length → w.cell? ⟨b, off + i, none⟩ = some (.int .i64 (l[i]?.getD 0)))

/-- The slice v touches no block of S. -/
def Off (S : Nat → Prop) (v : Value) : Prop := ∀ j, v.ownBlock = some j → ¬ S j

theorem Off.nil (S : Nat → Prop) : Off S (.slice none 0 0) := by intro j h; simp [Value.ownBlock] at h
theorem Off.mono {S T : Nat → Prop} {v : Value} (h : Off S v) (hs : ∀ j, T j → S j) : Off T v := fun j hj ht => h j hj (hs j ht)

theorem Slw.sl {w : World} {v : Value} {l : List Int} (h : Slw w v l) : Sl w v l := by
  obtain ⟨a, cap, hv, _, hm, h | ⟨b, off, ha, hb, hc⟩⟩ := h
  · exact ⟨a, cap, hv, hm, .inl h⟩
  · exact ⟨a, cap, hv, hm, .inr ⟨b, off, ha, hb, hc⟩⟩
theorem Slw.nil (w : World) : Slw w (.slice none 0 0) [] := ⟨none, 0, rfl, ⟨fun _ => rfl, Nat.le_refl _⟩, Nat.zero_le _, .inl rfl⟩
theorem Slw.none0 (w : World) (ad : Addr) (c : Nat) : Slw w (.slice (some ad) 0 c) [] := ⟨some ad, c, rfl, ⟨(fun h => by cases h), Nat.zero_le _⟩, Nat.zero_le _, .inl rfl⟩
theorem Slw.len {w : World} {v : Value} {l : List Int} (h : Slw w v l) : ∃ a cap, v = .slice a l.length cap := by
  obtain ⟨a, cap, hv, _⟩ := h; exact ⟨a, cap, hv⟩
theorem Slw.only {S : Nat → Prop} {w w' : World} {v : Value} {l : List Int} (h : Slw w v l) (k : Only S w w') (hs : Off S v) : Slw w' v l := by
  obtain ⟨a, cap, hv, hn, hm, h | ⟨b, off, ha, hb, hc⟩⟩ := h
  · exact ⟨a, cap, hv, hn, hm, .inl h⟩
  · subst hv ha
    exact ⟨_, cap, rfl, hn, hm, .inr ⟨b, off, rfl, Nat.lt_of_lt_of_le hb k.size, fun i hi => (World.cell?_of_block (k.block b hb (hs b rfl))).trans (hc i hi)⟩⟩
theorem Slw.below {w w' : World} {v : Value} {l : List Int} (h : Slw w v l) (hb : Below w.heap.size w w') : Slw w' v l :=
  h.only (S := fun _ => False) ((Only.refl _ w).below hb) (fun _ _ x => x)
theorem Slw.drewN {w : World} {v : Value} {l : List Int} (h : Slw w v l) (n : Nat) : Slw (w.drewN n) v l := h
theorem Slw.drew {w : World} {v : Value} {l : List Int} (h : Slw w v l) : Slw w.drew v l := h
theorem Slw.alloc {w : World} {v : Value} {l : List Int} (h : Slw w v l) (o : Obj) : Slw (w.alloc o) v l := h.below (below_alloc (Below.refl _ _) o)
theorem Slw.ofSlf {w : World} {B : Nat} {v : Value} {l : List Int} (h : Slf w B v l) : Slw w v l := by
  obtain ⟨a, cap, hv, hn, hm, h | ⟨b, off, ha, _, hb, hc⟩⟩ := h
  · exact ⟨a, cap, hv, hn, hm, .inl h⟩
  · exact ⟨a, cap, hv, hn, hm, .inr ⟨b, off, ha, hb, hc⟩⟩
theorem Slw.ofOwn {w : World} {base : Nat} {v : Value} {l : List Int} (h : OwnI w base v l) : Slw w v l := Slw.ofSlf (Slf.ofOwn h)
theorem Slw.toSlf {w : World} {v : Value} {l : List Int} (h : Slw w v l) : Slf w 0 v l := by
  obtain ⟨a, cap, hv, hn, hm, h | ⟨b, off, ha, hb, hc⟩⟩ := h
  · exact ⟨a, cap, hv, hn, hm, .inl h⟩
  · exact ⟨a, cap, hv, hn, hm, .inr ⟨b, off, ha, Nat.zero_le _, hb, hc⟩⟩
theorem Slw.lt {w : World} {v : Value} {l : List Int} (h : Slw w v l) (hl : l ≠ []) : ∀ j, v.ownBlock = some j → j < w.heap.size := by
  obtain ⟨a, cap, rfl, hn, hm, h | ⟨b, off, rfl, hb, hc⟩⟩ := h
  · exact absurd h hl
  · intro j hj; simp [Value.ownBlock] at hj; omega
theorem Slw.ofRow {w : World} {a : Option Addr} {len cap : Nat} {f : Nat → Nat → Int} (h : Row w a len 1 f) (hc : len ≤ cap) (hn : a = none → cap = 0) : Slw w (.slice a len cap) ((List.range len).map fun i => f i 0) := by
  obtain ⟨a', cap', he, hm, h1⟩ := Sl.ofRow (cap := cap) h
  simp only [Value.slice.injEq] at he
  obtain ⟨rfl, _, rfl⟩ := he
  refine ⟨a, cap, by simp, ⟨hn, by simpa using hc⟩, hm, ?_⟩
  exact h1
/-- l[k:], l[:k] -/
theorem Slw.drop {w : World} {b off cap cap' : Nat} {l : List Int} {n : Nat} (h : Slw w (.slice (some ⟨b, off, none⟩) l.length cap) l) (k : Nat) (hk : k ≤ l.length) (hn : n = l.length - k) (hc' : n ≤ cap') : Slw w (.slice (some ⟨b, off + k, none⟩) n cap') (l.drop k) :=
  Slw.ofSlf (h.toSlf.drop k hk hn hc')
theorem Slw.take {w : World} {a : Option Addr} {cap : Nat} {l : List Int} (h : Slw w (.slice a l.length cap) l) (k : Nat) (hk : k ≤ l.length) : Slw w (.slice a k cap) (l.take k) := by
  obtain ⟨a', cap', he, hn, hm, h1⟩ := h
  simp only [Value.slice.injEq] at he
  obtain ⟨rfl, _, rfl⟩ := he
  refine ⟨a, cap, by simp; omega, ⟨hn.1, by simp; omega⟩, by simp; omega, ?_⟩
  rcases h1 with rfl | ⟨b, off, ha, hb, hc⟩
  · left; simp
  · refine .inr ⟨b, off, ha, hb, fun i hi => ?_⟩
    have hi' : i < k ∧ i < l.length := by simp at hi; omega
    rw [hc i hi'.2, List.getElem?_take_of_lt hi'.1]
theorem Slw.open {w : World} {v : Value} {l : List Int} (h : Slw w v l) : (v = .slice none 0 0 ∧ l = []) ∨ (∃ ad cap, v = .slice (some ad) 0 cap ∧ l = []) ∨
    ∃ b off cap, v = .slice (some ⟨b, off, none⟩) l.length cap ∧ l ≠ [] ∧ l.length ≤ cap ∧ b < w.heap.size ∧ ∀ i, i < l.length → w.cell? ⟨b, off + i, none⟩ = some (.int .i64 (l[i]?.getD 0)) := by
  rcases h.toSlf.open with h | h | ⟨b, off, cap, h1, h2, h3, _, h4, h5⟩
  · exact .inl h
  · exact .inr (.inl h)
  · exact .inr (.inr ⟨b, off, cap, h1, h2, h3, h4, h5⟩)
theorem Slw.new (w : World) (l : List Int) (h : l.length ≤ maxLen) : Slw (w.alloc (.cells (l.map (Value.int .i64)).toArray 3)) (.slice (some ⟨w.heap.size, 0, none⟩) l.length l.length) l := by
  refine ⟨_, _, rfl, ⟨(fun h => by cases h), Nat.le_refl _⟩, h, .inr ⟨_, 0, rfl, by simp, fun i hi => ?_⟩⟩
  rw [(Blk.new w _ 3).cell]
  simp [hi]

/-- s = s[:n] on a row of one's own. -/
theorem OwnI.shrink {w : World} {base : Nat} {g m cap : Nat} {l : List Int} (h : OwnI w base (.slice (some ⟨g, 0, none⟩) m cap) l) (k : Nat) (hk : k ≤ l.length) : OwnI w base (.slice (some ⟨g, 0, none⟩) k cap) (l.take k) := by
  obtain ⟨h1, ⟨hv, _⟩ | ⟨g', cap', cur, hv, hb, hg, hn, hm, hs, ht⟩⟩ := h
  · simp at hv
  · simp only [Value.slice.injEq] at hv
    obtain ⟨he, _, rfl⟩ := hv
    cases he
    rw [Nat.mul_one] at ht
    have hkl : (l.take k).length = k := by simp; omega
    refine ⟨by simp, .inr ⟨g, cap, cur, by rw [hkl], hb, hg, by rw [hkl]; omega, hm, hs, ?_⟩⟩
    rw [hkl, Nat.mul_one, List.map_take, ← ht, List.take_take]
    congr 1
    omega
theorem OwnI.bmono {w : World} {base base' : Nat} {v : Value} {l : List Int} (h : OwnI w base v l) (hb : ∀ j, v.ownBlock = some j → base' ≤ j) : OwnI w base' v l := by
  obtain ⟨h1, h2 | ⟨g, cap, cur, hv, hg, hh, r⟩⟩ := h
  · exact ⟨h1, .inl h2⟩
  · exact ⟨h1, .inr ⟨g, cap, cur, hv, hb g (by rw [hv]; rfl), hh, r⟩⟩
theorem OwnI.off {S : Nat → Prop} {w w' : World} {base : Nat} {v : Value} {l : List Int} (h : OwnI w base v l) (k : Only S w w') (hs : Off S v) : OwnI w' base v l := by
  obtain ⟨h1, h2 | ⟨g, cap, cur, hv, hg, hh, r⟩⟩ := h
  · exact ⟨h1, .inl h2⟩
  · exact ⟨h1, .inr ⟨g, cap, cur, hv, hg, (k.block g (Array.getElem?_eq_some_iff.1 hh).1 (hs g (by rw [hv]; rfl))).trans hh, r⟩⟩
/-- Opened: nil, or a row in a block of its own. -/
theorem OwnI.open {w : World} {base : Nat} {v : Value} {l : List Int} (h : OwnI w base v l) : (v = .slice none 0 0 ∧ l = []) ∨
    ∃ g cap, v = .slice (some ⟨g, 0, none⟩) l.length cap ∧ base ≤ g ∧ g < w.heap.size ∧ l.length ≤ cap ∧ ∀ i, i < l.length → w.cell? ⟨g, i, none⟩ = some (.int .i64 (l[i]?.getD 0)) := by
  have hs := Sl.ofOwn h
  obtain ⟨_, ⟨rfl, hz⟩ | ⟨g, cap, cur, rfl, hb, hg, hnc, hcm, hcs, hct⟩⟩ := h
  · exact .inl ⟨rfl, List.length_eq_zero_iff.1 hz⟩
  · refine .inr ⟨g, cap, rfl, hb, (Array.getElem?_eq_some_iff.1 hg).1, hnc, fun i hi => ?_⟩
    obtain ⟨a, cap', he, _, h1 | ⟨b, off, rfl, _, hc⟩⟩ := hs
    · simp [h1] at hi
    · simp only [Value.slice.injEq] at he
      obtain ⟨he, _⟩ := he
      cases he
      have := hc i hi
      rwa [Nat.zero_add] at this
end Go.Esc
