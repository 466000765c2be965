/- What a law's walk is told of a slice that came in: its elements' cells, each field an int. Nothing of a program in sight. -/
import Derived.Deep.Slices
import Derived.Deep.Fields
import Derived.ChangeSame
import Derived.ProofKit
import Derived.Below
namespace Go.Esc
open Go.ChangeShapes Go.WideShapes Go.Deep Go.RowKit

/-- A row of 'len' elements of 'nf' ints each lies at 'a' (or there is none). -/
def Row (w : World) (a : Option Addr) (len nf : Nat) (f : Nat → Nat → Int) : Prop :=
  len = 0 ∨ ∃ b off, a = some ⟨b, off, none⟩ ∧ b < w.heap.size ∧ len ≤ maxLen ∧
    (∀ i j, i < len → j < nf → w.cell? ⟨b, off + (i * nf + j), none⟩ = some (.int .i64 (f i j))) ∧ ∀ i j, i < len → j < nf → (Lit.int .i64 (f i j)).wf = true

theorem lt_of_cell {w : World} {a : Addr} {v : Value} (h : w.cell? a = some v) : a.block < w.heap.size := by
  unfold World.cell? at h
  rcases Nat.lt_or_ge a.block w.heap.size with h' | h'
  · exact h'
  · simp [Array.getElem?_eq_none h'] at h

section
variable {H : Type} {enc : TypeId × Value → H} {P : Program} {w : World} {base : Nat} {spare : Nat → Bool} {held : Bool}

theorem row_of {a : Addr} {len nf : Nat} (hnf : 0 < nf) (hlen : len ≤ maxLen)
    (h : ∀ i j, i < len → j < nf → ∃ z : Int, w.cell? (a.add (i * nf + j)) = some (.int .i64 z) ∧ (Lit.int .i64 z).wf = true) : ∃ f, Row w (some a) len nf f := by
  classical
  rcases Nat.eq_zero_or_pos len with h0 | hp
  · exact ⟨fun _ _ => 0, .inl h0⟩
  · obtain ⟨z0, hz0, _⟩ := h 0 0 hp hnf
    obtain ⟨b, off, spot⟩ := a
    have hspot : spot = none := by simpa [Addr.add] using World.cell?_spot hz0
    subst hspot
    refine ⟨fun i j => if hh : i < len ∧ j < nf then Classical.choose (h i j hh.1 hh.2) else 0, .inr ⟨b, off, rfl, ?_, hlen, fun i j hi hj => ?_, fun i j hi hj => ?_⟩⟩
    · have := lt_of_cell hz0
      simpa [Addr.add] using this
    · dsimp only; rw [dif_pos (And.intro hi hj), ← add_plain]; exact (Classical.choose_spec (h i j hi hj)).1
    · dsimp only; rw [dif_pos (And.intro hi hj)]; exact (Classical.choose_spec (h i j hi hj)).2

theorem open_row {t e : TypeId} {fs : Array Field} {fuel : Nat} {cs : List Value} {x : DataW H × List MemPlace} (ht : P.underlying t = some (.slice e)) (he : P.underlying e = some (.struct fs))
    (hone : oneCellFields P fs = true) (hC : P.cellsOf e = fs.size) (hfs : 0 < fs.size) (hint : (fs.toList.all fun f => match P.underlying f.type with | some (.int .i64) => true | _ => false) = true)
    (h : DataW.trod enc P w base spare held fuel t cs = some x) :
    ∃ a len cap, cs = [.slice a len cap] ∧ ∃ f, Row w a len fs.size f := by
  rcases open_slice ht h with ⟨rfl, _⟩ | ⟨a, len, cap, m, n, D, Pl, rfl, _, hl, hm, hmm, _, hi⟩
  · exact ⟨none, 0, 0, rfl, fun _ _ => 0, .inl rfl⟩
  · refine ⟨some a, len, cap, rfl, row_of hfs (Nat.le_trans hl hm) fun i j hil hj => ?_⟩
    have him : i < m := by rw [hmm]; split <;> omega
    obtain ⟨cs', hc, ht'⟩ := hi i him
    rw [hC] at hc
    obtain ⟨ys, n', _, _, hlen, hyl, hf⟩ := DataW.trod_struct he ht'
    obtain ⟨_, hcl, hat⟩ := World.cells?_some hc
    have hfj : fs[j]? = some fs[j] := Array.getElem?_eq_getElem hj
    obtain ⟨ho, hk⟩ := hone_of hone j _ hfj
    have h1 := hf j _ hfj
    rw [ho, hk] at h1
    have hjl : j < cs'.length := by omega
    have hone' : (cs'.drop j).take 1 = [cs'[j]] := by rw [List.drop_eq_getElem_cons hjl]; rfl
    rw [hone', List.getElem?_eq_getElem (by omega : j < ys.length)] at h1
    have hty : P.underlying (fs[j]).type = some (.int .i64) := by
      have := List.all_eq_true.1 hint fs[j] (by simp)
      revert this
      split
      · intro _; assumption
      · intro hh; cases hh
    obtain ⟨z, e0, _, wz⟩ := DataW.trod_int hty h1
    refine ⟨z, ?_, wz⟩
    rw [← Go.Deep.add_add, hat j hj, List.getElem?_eq_getElem hjl]
    simpa using e0

/-- A slice of ints that came in: one int a field. -/
theorem open_introw {t e : TypeId} {fuel : Nat} {cs : List Value} {x : DataW H × List MemPlace} (ht : P.underlying t = some (.slice e)) (he : P.underlying e = some (.int .i64)) (hC : P.cellsOf e = 1)
    (h : DataW.trod enc P w base spare held fuel t cs = some x) :
    ∃ a len cap, cs = [.slice a len cap] ∧ ∃ f, Row w a len 1 f := by
  rcases open_slice1 ht hC h with ⟨rfl, _⟩ | ⟨a, len, cap, m, n, V, D, Pl, rfl, _, hl, hm, hmm, _, hi⟩
  · exact ⟨none, 0, 0, rfl, fun _ _ => 0, .inl rfl⟩
  · refine ⟨some a, len, cap, rfl, row_of Nat.one_pos (Nat.le_trans hl hm) fun i j hil hj => ?_⟩
    have him : i < m := by rw [hmm]; split <;> omega
    obtain ⟨hc, ht'⟩ := hi i him
    obtain ⟨z, e0, _, wz⟩ := DataW.trod_int he ht'
    have : i * 1 + j = i := by omega
    rw [this]
    exact ⟨z, by rw [hc]; simpa using e0, wz⟩
end
end Go.Esc
