/- A block of m cells by an index function. Nothing of a program in sight. -/
import Derived.Test.YtcjgdnlacfpioaaBaseb
import Derived.Deep.OwnRows
namespace Go.Esc
open Go.RowKit

/-- Block g holds m cells of type t, the i-th being F i. -/
def Cells (w : World) (g m : Nat) (t : TypeId) (F : Nat → Value) : Prop := ∃ cs, Blk w g cs t ∧ cs.size = m ∧ ∀ i, i < m → cs[i]? = some (F i)

theorem Cells.lt {w : World} {g m : Nat} {t : TypeId} {F : Nat → Value} (h : Cells w g m t F) : g < w.heap.size := by obtain ⟨cs, hb, _⟩ := h; exact hb.lt
theorem Cells.cell {w : World} {g m : Nat} {t : TypeId} {F : Nat → Value} (h : Cells w g m t F) {i : Nat} (hi : i < m) : w.cell? ⟨g, i, none⟩ = some (F i) := by
  obtain ⟨cs, hb, _, hc⟩ := h; rw [hb.cell]; exact hc i hi
theorem Cells.free {w : World} {g m : Nat} {t : TypeId} {F : Nat → Value} (h : Cells w g m t F) (i : Nat) : w.frozen? ⟨g, i, none⟩ = false := by
  obtain ⟨cs, hb, _⟩ := h; exact hb.free i
theorem Cells.kept {w w' : World} {g m : Nat} {t : TypeId} {F : Nat → Value} {row : Option Nat} (h : Cells w g m t F) (hg : w.grownBy w' row) (hne : some g ≠ row) : Cells w' g m t F := by
  obtain ⟨cs, hb, r⟩ := h; exact ⟨cs, hb.kept hg hne, r⟩
theorem Cells.below {w w' : World} {g m B : Nat} {t : TypeId} {F : Nat → Value} (h : Cells w g m t F) (hb : Below B w w') (hlt : g < B) : Cells w' g m t F := by
  obtain ⟨cs, hc, r⟩ := h; exact ⟨cs, hc.below hb hlt, r⟩
theorem Cells.alloc {w : World} {g m : Nat} {t : TypeId} {F : Nat → Value} (h : Cells w g m t F) (o : Obj) : Cells (w.alloc o) g m t F := by
  obtain ⟨cs, hc, r⟩ := h; exact ⟨cs, hc.alloc o, r⟩
theorem Cells.congr {w : World} {g m : Nat} {t : TypeId} {F G : Nat → Value} (h : Cells w g m t F) (hFG : ∀ i, i < m → F i = G i) : Cells w g m t G := by
  obtain ⟨cs, hc, hs, r⟩ := h; exact ⟨cs, hc, hs, fun i hi => by rw [r i hi, hFG i hi]⟩
theorem Cells.set {w : World} {g m : Nat} {t : TypeId} {F : Nat → Value} (h : Cells w g m t F) {i : Nat} (hi : i < m) (u : Value) : Cells (w.setCell ⟨g, i, none⟩ u) g m t (fun k => if k = i then u else F k) := by
  obtain ⟨cs, hc, hs, r⟩ := h
  refine ⟨_, hc.set i u, by simpa using hs, fun k hk => ?_⟩
  rw [Array.getElem?_setIfInBounds]
  by_cases he : i = k
  · subst he; simp [hs, hi]
  · have : ¬ k = i := fun e => he e.symm
    simp [he, this, r k hk]
theorem Cells.setOther {w : World} {g m c i : Nat} {t : TypeId} {F : Nat → Value} (h : Cells w g m t F) (hne : g ≠ c) (u : Value) : Cells (w.setCell ⟨c, i, none⟩ u) g m t F := by
  obtain ⟨cs, hc, r⟩ := h; exact ⟨cs, hc.setOther hne u, r⟩
theorem Cells.made (w : World) (m : Nat) (t : TypeId) (z : Value) : Cells (w.alloc (.cells (madeCells #[z] m) t)) w.heap.size m t (fun _ => z) := by
  refine ⟨_, Blk.new w _ t, ?_, fun i hi => ?_⟩
  · exact size_madeCells _ _
  · simp [madeCells, hi, Nat.mod_one]
end Go.Esc
