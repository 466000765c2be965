/- What a law's walk is told of a slice of structs that came in, whose fields are ints but the last, a slice of ints. Nothing of a program in sight. -/
import Derived.Test.YtgahkcbkpnehfaaSlw
namespace Go.Esc
open Go.ChangeShapes Go.WideShapes Go.Deep Go.RowKit

/-- A row of 'len' elements of 'nf' ints and a slice of ints each lies at 'a' (or there is none). -/
def ARow (w : World) (a : Option Addr) (len nf : Nat) (f : Nat → Nat → Int) (v : Nat → Value) (l : Nat → List Int) : Prop :=
  len = 0 ∨ ∃ b off, a = some ⟨b, off, none⟩ ∧ b < w.heap.size ∧ len ≤ maxLen ∧
    (∀ i j, i < len → j < nf → w.cell? ⟨b, off + (i * (nf + 1) + j), none⟩ = some (.int .i64 (f i j))) ∧ (∀ i j, i < len → j < nf → (Lit.int .i64 (f i j)).wf = true) ∧
    ∀ i, i < len → w.cell? ⟨b, off + (i * (nf + 1) + nf), none⟩ = some (v i) ∧ Slw w (v i) (l i)

section
variable {H : Type} {enc : TypeId × Value → H} {P : Program} {w : World} {base : Nat} {spare : Nat → Bool} {held : Bool}

theorem open_slw {t e : TypeId} {fuel : Nat} {cs : List Value} {x : DataW H × List MemPlace} (ht : P.underlying t = some (.slice e)) (he : P.underlying e = some (.int .i64)) (hC : P.cellsOf e = 1)
    (h : DataW.trod enc P w base spare held fuel t cs = some x) : ∃ v l, cs = [v] ∧ Slw w v l := by
  rcases open_slice1 ht hC h with ⟨rfl, _⟩ | ⟨a, len, cap, m, n, V, D, Pl, rfl, _, hl, hm, hmm, _, hi⟩
  · exact ⟨_, [], rfl, Slw.nil w⟩
  · obtain ⟨f, hr⟩ : ∃ f, Row w (some a) len 1 f := by
      refine row_of Nat.one_pos (Nat.le_trans hl hm) fun i j hil hj => ?_
      have him : i < m := by rw [hmm]; split <;> omega
      obtain ⟨hc, ht'⟩ := hi i him
      obtain ⟨z, e0, _, wz⟩ := DataW.trod_int he ht'
      have : i * 1 + j = i := by omega
      rw [this]
      exact ⟨z, by rw [hc]; simpa using e0, wz⟩
    exact ⟨_, _, rfl, Slw.ofRow hr hl (fun h => by cases h)⟩

theorem arow_of {a : Addr} {len nf : Nat} (hnf : 0 < nf) (hlen : len ≤ maxLen)
    (h : ∀ i j, i < len → j < nf → ∃ z : Int, w.cell? (a.add (i * (nf + 1) + j)) = some (.int .i64 z) ∧ (Lit.int .i64 z).wf = true)
    (hs : ∀ i, i < len → ∃ v l, w.cell? (a.add (i * (nf + 1) + nf)) = some v ∧ Slw w v l) : ∃ f v l, ARow w (some a) len nf f v l := by
  classical
  rcases Nat.eq_zero_or_pos len with h0 | hp
  · exact ⟨fun _ _ => 0, fun _ => undef, fun _ => [], .inl h0⟩
  · obtain ⟨z0, hz0, _⟩ := h 0 0 hp hnf
    obtain ⟨b, off, spot⟩ := a
    have hspot : spot = none := by simpa [Addr.add] using World.cell?_spot hz0
    subst hspot
    refine ⟨fun i j => if hh : i < len ∧ j < nf then Classical.choose (h i j hh.1 hh.2) else 0, fun i => if hh : i < len then Classical.choose (hs i hh) else undef, fun i => if hh : i < len then Classical.choose (Classical.choose_spec (hs i hh)) else [], .inr ⟨b, off, rfl, ?_, hlen, fun i j hi hj => ?_, fun i j hi hj => ?_, fun i hi => ?_⟩⟩
    · have := lt_of_cell hz0
      simpa [Addr.add] using this
    · dsimp only; rw [dif_pos (And.intro hi hj), ← add_plain]; exact (Classical.choose_spec (h i j hi hj)).1
    · dsimp only; rw [dif_pos (And.intro hi hj)]; exact (Classical.choose_spec (h i j hi hj)).2
    · dsimp only; rw [dif_pos hi, dif_pos hi, ← add_plain]; exact Classical.choose_spec (Classical.choose_spec (hs i hi))

theorem open_arow {t e : TypeId} {fs : Array Field} {nf : Nat} {q : TypeId} {fuel : Nat} {cs : List Value} {x : DataW H × List MemPlace} (ht : P.underlying t = some (.slice e)) (he : P.underlying e = some (.struct fs))
    (hone : oneCellFields P fs = true) (hC : P.cellsOf e = fs.size) (hnf : 0 < nf) (hfs : fs.size = nf + 1) (hint : ((fs.toList.take nf).all fun f => match P.underlying f.type with | some (.int .i64) => true | _ => false) = true)
    (hlast : (fs[nf]?).map (fun f => P.underlying f.type) = some (some (.slice q))) (hq : P.underlying q = some (.int .i64)) (hCq : P.cellsOf q = 1)
    (h : DataW.trod enc P w base spare held fuel t cs = some x) :
    ∃ a len cap, cs = [.slice a len cap] ∧ ∃ f v l, ARow w a len nf f v l := by
  rcases open_slice ht h with ⟨rfl, _⟩ | ⟨a, len, cap, m, n, D, Pl, rfl, _, hl, hm, hmm, _, hi⟩
  · exact ⟨none, 0, 0, rfl, fun _ _ => 0, fun _ => undef, fun _ => [], .inl rfl⟩
  · refine ⟨some a, len, cap, rfl, arow_of hnf (Nat.le_trans hl hm) (fun i j hil hj => ?_) (fun i hil => ?_)⟩
    · have him : i < m := by rw [hmm]; split <;> omega
      obtain ⟨cs', hc, ht'⟩ := hi i him
      rw [hC] at hc
      obtain ⟨ys, n', _, _, hlen, hyl, hf⟩ := DataW.trod_struct he ht'
      obtain ⟨_, hcl, hat⟩ := World.cells?_some hc
      have hjs : j < fs.size := by omega
      have hfj : fs[j]? = some fs[j] := Array.getElem?_eq_getElem hjs
      obtain ⟨ho, hk⟩ := hone_of hone j _ hfj
      have h1 := hf j _ hfj
      rw [ho, hk] at h1
      have hjl : j < cs'.length := by omega
      have hone' : (cs'.drop j).take 1 = [cs'[j]] := by rw [List.drop_eq_getElem_cons hjl]; rfl
      rw [hone', List.getElem?_eq_getElem (by omega : j < ys.length)] at h1
      have hty : P.underlying (fs[j]).type = some (.int .i64) := by
        have := List.all_eq_true.1 hint fs[j] (by
          refine List.mem_of_getElem? (i := j) ?_
          rw [List.getElem?_take_of_lt hj]
          simp [hjs])
        revert this
        split
        · intro _; assumption
        · intro hh; cases hh
      obtain ⟨z, e0, _, wz⟩ := DataW.trod_int hty h1
      refine ⟨z, ?_, wz⟩
      rw [← hfs, ← Go.Deep.add_add, hat j hjs, List.getElem?_eq_getElem hjl]
      simpa using e0
    · have him : i < m := by rw [hmm]; split <;> omega
      obtain ⟨cs', hc, ht'⟩ := hi i him
      rw [hC] at hc
      obtain ⟨ys, n', _, _, hlen, hyl, hf⟩ := DataW.trod_struct he ht'
      obtain ⟨_, hcl, hat⟩ := World.cells?_some hc
      have hjs : nf < fs.size := by omega
      have hfj : fs[nf]? = some fs[nf] := Array.getElem?_eq_getElem hjs
      obtain ⟨ho, hk⟩ := hone_of hone nf _ hfj
      have h1 := hf nf _ hfj
      rw [ho, hk] at h1
      have hjl : nf < cs'.length := by omega
      have hone' : (cs'.drop nf).take 1 = [cs'[nf]] := by rw [List.drop_eq_getElem_cons hjl]; rfl
      rw [hone', List.getElem?_eq_getElem (by omega : nf < ys.length)] at h1
      have hty : P.underlying (fs[nf]).type = some (.slice q) := by
        rw [hfj] at hlast
        simpa using hlast
      obtain ⟨v, l, e0, hs⟩ := open_slw hty hq hCq h1
      refine ⟨v, l, ?_, hs⟩
      rw [← hfs, ← Go.Deep.add_add, hat nf hjs, List.getElem?_eq_getElem hjl]
      simpa using e0
end
end Go.Esc
