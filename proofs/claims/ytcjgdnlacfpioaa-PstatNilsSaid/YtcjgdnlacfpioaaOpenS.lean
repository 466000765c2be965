/- What a law's walk is told of a struct of ints that came in by value. Nothing of a program in sight. -/
import Derived.Test.YtcjgdnlacfpioaaOpen
namespace Go.Esc
open Go.ChangeShapes Go.WideShapes Go.Deep Go.RowKit
section
variable {H : Type} {enc : TypeId × Value → H} {P : Program} {w : World} {base : Nat} {spare : Nat → Bool} {held : Bool}
theorem open_struct {t : TypeId} {fs : Array Field} {fuel : Nat} {cs : List Value} {x : DataW H × List MemPlace} (he : P.underlying t = some (.struct fs))
    (hone : oneCellFields P fs = true) (_hC : P.cellsOf t = fs.size) (hint : (fs.toList.all fun f => match P.underlying f.type with | some (.int .i64) => true | _ => false) = true) (hlen0 : cs.length = fs.size)
    (h : DataW.trod enc P w base spare held fuel t cs = some x) : ∀ j, j < fs.size → ∃ z : Int, cs[j]? = some (.int .i64 z) ∧ (Lit.int .i64 z).wf = true := by
  intro j hj
  obtain ⟨ys, n', _, _, hlen, hyl, hf⟩ := DataW.trod_struct he h
  have hfj : fs[j]? = some fs[j] := Array.getElem?_eq_getElem hj
  obtain ⟨ho, hk⟩ := hone_of hone j _ hfj
  have h1 := hf j _ hfj
  rw [ho, hk] at h1
  have hjl : j < cs.length := by omega
  have hone' : (cs.drop j).take 1 = [cs[j]] := by rw [List.drop_eq_getElem_cons hjl]; rfl
  rw [hone', List.getElem?_eq_getElem (by omega : j < ys.length)] at h1
  have hty : P.underlying (fs[j]).type = some (.int .i64) := by
    have := List.all_eq_true.1 hint fs[j] (by simp)
    revert this
    split
    · intro _; assumption
    · intro hh; cases hh
  obtain ⟨z, e0, _, wz⟩ := DataW.trod_int hty h1
  exact ⟨z, by rw [List.getElem?_eq_getElem hjl]; simpa using e0, wz⟩
theorem agg3 {cs : Array Value} (hs : cs.size = 3) (h : ∀ j, j < 3 → ∃ z : Int, cs.toList[j]? = some (.int .i64 z) ∧ (Lit.int .i64 z).wf = true) : ∃ a b c : Int, cs = #[.int .i64 a, .int .i64 b, .int .i64 c] := by
  obtain ⟨a, ha, _⟩ := h 0 (by omega)
  obtain ⟨b, hb, _⟩ := h 1 (by omega)
  obtain ⟨c, hc, _⟩ := h 2 (by omega)
  refine ⟨a, b, c, ?_⟩
  apply Array.ext'
  apply List.ext_getElem?
  intro i
  rcases i with _ | _ | _ | i
  · simpa using ha
  · simpa using hb
  · simpa using hc
  · rw [List.getElem?_eq_none (by simpa using (by omega : cs.size ≤ i + 1 + 1 + 1))]; simp
end
end Go.Esc
