/- More small lemmas on worlds; nothing of a program in sight. -/
import Derived.Test.YtcjgdnlacfpioaaBase
namespace Go.Esc
open Go.RowKit

theorem undrew {w w' : World} (h : Below w.drew.heap.size w.drew w') : Below w.heap.size w w' := ⟨h.os, h.tape, h.output, h.size, h.block⟩
theorem new_after {wr w' : World} (hb : Below wr.drew.heap.size wr.drew w') (cs : Array Value) (t : TypeId) :
    Blk (w'.alloc (.cells cs t)) w'.heap.size cs t ∧ wr.heap.size ≤ w'.heap.size ∧ Below wr.heap.size wr (w'.alloc (.cells cs t)) :=
  have hb' : Below wr.heap.size wr w' := undrew hb
  ⟨Blk.new _ _ _, hb'.size, below_alloc hb' _⟩
theorem new_before {wr w' : World} {x0 y0 : Value} (u v : Value) {t : TypeId} (hb : Below (wr.alloc (.cells #[x0, y0] t)).drew.heap.size (wr.alloc (.cells #[x0, y0] t)).drew w') :
    Blk ((w'.setCell ⟨wr.heap.size, 0, none⟩ u).setCell ⟨wr.heap.size, 1, none⟩ v) wr.heap.size #[u, v] t ∧ wr.heap.size ≤ wr.heap.size ∧ Below wr.heap.size wr ((w'.setCell ⟨wr.heap.size, 0, none⟩ u).setCell ⟨wr.heap.size, 1, none⟩ v) :=
  have hb' : Below (wr.alloc (.cells #[x0, y0] t)).heap.size (wr.alloc (.cells #[x0, y0] t)) w' := undrew hb
  ⟨(((Blk.new wr _ _).below hb' (by simp)).set2_0).set2_1, Nat.le_refl _, below_set (below_set (below_below (below_alloc (Below.refl _ _) _) hb') (Nat.le_refl _) _ _) (Nat.le_refl _) _ _⟩
end Go.Esc
