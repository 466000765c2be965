/- Chapter 19: the document's list of processors; the contracts of with, Count, Resize. -/
import Derived.Test.YtcjgdnlacfpioaaPstatAct
import Derived.Test.YtcjgdnlacfpioaaRowm
namespace Go.Proofs.Ytcjgdnlacfpioaa.Pstat
open Go.RowKit Go.Esc
set_option linter.unusedVariables false

/-- The document's list, a row of its own from base on. -/
def Rp (w : World) (base : Nat) (v : Value) (l : List Pr) : Prop := w.ownsRow base 51 2 v l.length (ys l)
theorem Rp.below {w w' : World} {base : Nat} {v : Value} {l : List Pr} (h : Rp w base v l) (hb : Below w.heap.size w w') : Rp w' base v l := rowv_below h hb
theorem Rp.only {S : Nat → Prop} {w w' : World} {base : Nat} {v : Value} {l : List Pr} (h : Rp w base v l) (o : Only S w w') (hs : Off S v) : Rp w' base v l := rowv_off h o hs
theorem Rp.mono {w : World} {base base' : Nat} {v : Value} {l : List Pr} (h : Rp w base v l) (hb : base' ≤ base) : Rp w base' v l := rowv_mono h hb
theorem Rp.wide {w : World} {base : Nat} {v : Value} {l : List Pr} (h : Rp w base v l) (hl : 0 < l.length) : ∃ g cap, v = .slice (some ⟨g, 0, none⟩) l.length cap ∧ base ≤ g ∧ g < w.heap.size ∧ l.length ≤ cap := by
  rcases rowv_open h with ⟨_, h0⟩ | ⟨g, cap, h0, h1, h2, h3, _⟩
  · omega
  · exact ⟨g, cap, h0, h1, h2, h3⟩
theorem Rp.at {w : World} {base g n cap : Nat} {l : List Pr} (h : Rp w base (.slice (some ⟨g, 0, none⟩) n cap) l) (i : Nat) (hi : i < l.length) : w.cell? ⟨g, i * 2, none⟩ = some (.int .i64 (l[i]?.getD pz).1) ∧ w.cell? ⟨g, i * 2 + 1, none⟩ = some (.int .i64 (l[i]?.getD pz).2) := by
  rcases rowv_open h with ⟨h0, _⟩ | ⟨g', cap', he, _, hg, hc, hcells⟩
  · cases h0
  · simp only [Value.slice.injEq, Option.some.injEq, Addr.mk.injEq] at he
    obtain ⟨⟨rfl, _⟩, _, _⟩ := he
    obtain ⟨h1, h2⟩ := ys_at l i hi
    refine ⟨?_, ?_⟩
    · rw [hcells (i * 2) (by omega), h1]; rfl
    · rw [hcells (i * 2 + 1) (by omega), h2]; rfl
theorem Rp.put {w : World} {base g n cap : Nat} {l : List Pr} (h : Rp w base (.slice (some ⟨g, 0, none⟩) n cap) l) (i : Nat) (hi : i < l.length) (x : Pr) :
    Rp ((w.setCell ⟨g, i * 2, none⟩ (.int .i64 x.1)).setCell ⟨g, i * 2 + 1, none⟩ (.int .i64 x.2)) base (.slice (some ⟨g, 0, none⟩) n cap) (l.set i x) := by
  obtain ⟨hl, ⟨h0, _⟩ | ⟨g', cap', cur, he, hb, hh, hn, hm, hs, ht⟩⟩ := h
  · cases h0
  · simp only [Value.slice.injEq, Option.some.injEq, Addr.mk.injEq] at he
    obtain ⟨⟨rfl, _⟩, rfl, rfl⟩ := he
    have hB : Blk w g cur 51 := hh
    refine ⟨by rw [List.length_set, ys_len, List.length_set], .inr ⟨g, cap, _, by rw [List.length_set], hb, (hB.set (i * 2) (.int .i64 x.1)).set (i * 2 + 1) (.int .i64 x.2), by rw [List.length_set]; exact hn, hm, by simpa using hs, ?_⟩⟩
    rw [List.length_set, ys_set l x i hi, ← ht]
    simp [List.take_set]
theorem Rp.free {w : World} {base g n cap : Nat} {l : List Pr} (h : Rp w base (.slice (some ⟨g, 0, none⟩) n cap) l) (i : Nat) : w.frozen? ⟨g, i, none⟩ = false ∧ g < w.heap.size := by
  obtain ⟨hl, ⟨h0, _⟩ | ⟨g', cap', cur, he, hb, hh, hn, hm, hs, ht⟩⟩ := h
  · cases h0
  · simp only [Value.slice.injEq, Option.some.injEq, Addr.mk.injEq] at he
    obtain ⟨⟨rfl, _⟩, _, rfl⟩ := he
    have hB : Blk w g cur 51 := hh
    exact ⟨hB.free i, hB.lt⟩
theorem info51 : (Try.prog.info? 51).map (fun i => (i.zero, i.size, i.bytes)) = some (some (.agg #[.int .i64 0, .int .i64 0]), 2, 16) := by kernel_rfl
theorem ys_one (l : List Pr) : ∀ x ∈ ys l, x.oneCell' = true := by
  induction l with
  | nil => intro x hx; simp [ys] at hx
  | cons y l ih =>
    intro x hx
    simp only [ys, List.cons_append, List.nil_append, List.mem_cons] at hx
    rcases hx with rfl | rfl | hx
    · rfl
    · rfl
    · exact ih x hx
theorem Rp.cells {w : World} {base g n cap : Nat} {l : List Pr} (h : Rp w base (.slice (some ⟨g, 0, none⟩) n cap) l) : ∀ (j : Nat) (x : Value), (ys l)[j]? = some x → w.cell? ((⟨g, 0, none⟩ : Addr).add j) = some x := by
  intro j x hj
  rcases rowv_open h with ⟨h0, _⟩ | ⟨g', cap', he, _, hg, hc, hcells⟩
  · cases h0
  · simp only [Value.slice.injEq, Option.some.injEq, Addr.mk.injEq] at he
    obtain ⟨⟨rfl, _⟩, _, _⟩ := he
    have hjl : j < l.length * 2 := by have := (List.getElem?_eq_some_iff.1 hj).1; rw [ys_len] at this; exact this
    rw [Go.WideShapes.add_plain, Nat.zero_add, hcells j hjl, hj]; rfl
theorem own_lit (w : World) : (w.alloc (.cells #[] 51)).ownsRow w.heap.size 51 2 (.slice (some ⟨w.heap.size, 0, none⟩) 0 0) 0 [] :=
  ⟨by simp, .inr ⟨w.heap.size, 0, #[], rfl, Nat.le_refl _, Blk.new w _ 51, Nat.le_refl _, Nat.zero_le _, by simp, by simp⟩⟩

def WithP (l' : List Pr) (w : World) (e : Ending) (w' : World) : Prop := ∃ v', e = .returned v' ∧ Rp w' w.heap.size v' l' ∧ Below w.heap.size w w'
set_option maxHeartbeats 2000000 in
theorem with_any (base : Nat) (v : Value) (l : List Pr) (i : Nat) (x : Pr) (w : World) (h : Rp w base v l) (hi : i < l.length) (hl : l.length ≤ 100000) : Calls Try.prog 44 #[v, .int .i64 i, .agg #[.int .i64 x.1, .int .i64 x.2]] w (WithP (l.set i x) w) := by
  obtain ⟨g, cap, rfl, hg1, hg2, hc⟩ := h.wide (by omega)
  obtain ⟨x1, x2⟩ := x
  have HR := Lib.hid h
  obtain ⟨n, HN⟩ : ∃ n, Hid (l.length = n) := ⟨_, rfl⟩
  have HYl : Hid ((ys l).length = n * 2) := by show _ = _; rw [ys_len, HN.out]
  have hin : i < n := by rw [← HN.out]; exact hi
  have hii : (i : Int) < (n : Int) := by omega
  have hn1 : 0 < n := by omega
  have hn2 : 0 + n < 100000000 := by rw [← HN.out]; omega
  rw [HN.out] at HR ⊢
  have HI := Lib.hid hi
  clear h hi hc
  go_enter Try.func44, Try.ntmps44
  have HRb : Hid (Rp ((w.alloc (.cells #[.int .i64 x1, .int .i64 x2] 51)).alloc (.cells #[] 51)) base (.slice (some ⟨g, 0, none⟩) n cap) l) := HR.out.below (below_alloc (below_alloc (Below.refl _ _) _) _)
  have HBb : Hid (Below w.heap.size w ((w.alloc (.cells #[.int .i64 x1, .int .i64 x2] 51)).alloc (.cells #[] 51))) := below_alloc (below_alloc (Below.refl _ _) _) _
  have HXb : Hid (Blk ((w.alloc (.cells #[.int .i64 x1, .int .i64 x2] 51)).alloc (.cells #[] 51)) w.heap.size #[.int .i64 x1, .int .i64 x2] 51) := (Blk.new w _ 51).alloc _
  have HOb : Hid (((w.alloc (.cells #[.int .i64 x1, .int .i64 x2] 51)).alloc (.cells #[] 51)).ownsRow (w.heap.size + 1) 51 2 (.slice (some ⟨w.heap.size + 1, 0, none⟩) 0 0) 0 []) := by
    have := own_lit (w.alloc (.cells #[.int .i64 x1, .int .i64 x2] 51))
    show World.ownsRow _ _ _ _ _ _ _
    simpa using this
  have HAft : Hid (∀ g' cap' w2, AppdM ((w.alloc (.cells #[.int .i64 x1, .int .i64 x2] 51)).alloc (.cells #[] 51)) (w.heap.size + 1) 51 2 (.slice (some ⟨w.heap.size + 1, 0, none⟩) 0 0) 0 [] n (ys l) (.slice (some ⟨g', 0, none⟩) (0 + n) cap') w2 →
      Below w.heap.size w w2 ∧ Blk w2 w.heap.size #[.int .i64 x1, .int .i64 x2] 51 ∧ Rp w2 w.heap.size (.slice (some ⟨g', 0, none⟩) n cap') l ∧ g' ≠ w.heap.size) := fun g' cap' w2 hA => by
    refine ⟨below_grown HBb.out hA.2.1 (fun j hj => by simp [Value.ownBlock] at hj; omega), HXb.out.kept hA.2.1 (fun e => by simp [Value.ownBlock] at e), ?_, ?_⟩
    · have := rowv_mono hA.1 (show w.heap.size ≤ w.heap.size + 1 by omega)
      unfold Rp
      rw [HN.out]
      simpa using this
    · have := (World.ownsRow.lt hA.1 g' rfl).1; omega
  go_wp2_with (at_builtin; refine appM Try.underlying49 info51 rfl (by decide) (by decide) (w.heap.size + 1) _ rfl _ _ rfl (.slice (some ⟨w.heap.size + 1, 0, none⟩) 0 0) 0 [] ⟨g, 0, none⟩ n cap (ys l) rfl rfl HOb.out HYl.out HRb.out.cells (ys_one l) (by simp) hn2 hn1 ?_; intro v' w2 hA; obtain ⟨g', cap', rfl⟩ := hA.some hn1; obtain ⟨hB2, hX2, hR2, hgx⟩ := HAft.out g' cap' w2 hA; have e0 := hX2.cell 0; have e1 := hX2.cell 1; simp only [List.getElem?_toArray, List.getElem?_cons_zero, List.getElem?_cons_succ] at e0 e1; have hf0 := (hR2.free (i * 2)).1; have hf1 := (hR2.free (i * 2 + 1)).1; have hgl := (hR2.free 0).2; have hz := hR2.at i (by rw [HN.out]; exact hin); have z0 := hz.1; have z1 := hz.2; have HB2 := Lib.hid hB2; have HR2 := Lib.hid hR2; rw [Nat.zero_add]; clear hA hB2 hX2 hR2 hz)
  go_ret
  have hge : w.heap.size ≤ g' := (World.ownsRow.lt HR2.out g' rfl).1
  exact ⟨_, rfl, HR2.out.put i HI.out (x1, x2), below_set (below_set HB2.out hge _ _) hge _ _⟩

set_option maxHeartbeats 2000000 in
theorem rcount_any (base : Nat) (v : Value) (l : List Pr) (s : Int) (w : World) (h : Rp w base v l) (hl : l.length ≤ 100000) (hl0 : 0 < l.length) : Calls Try.prog 49 #[v, .int .i64 s] w fun e w' => e = .returned (.int .i64 (cnt s l : Nat)) ∧ w = w' := by
  obtain ⟨g, cap, rfl, _, hg2, hc⟩ := h.wide hl0
  have HR := Lib.hid h
  obtain ⟨n, HN⟩ : ∃ n, Hid (l.length = n) := ⟨_, rfl⟩
  rw [HN.out] at HR hl hc ⊢
  clear h hl0
  go_enter Try.func49, Try.ntmps49
  go_wp2
  go_loop [5, 6] (fun c i => ∃ k : Nat, k ≤ n ∧ i = .int .i64 k ∧ c = .int .i64 (cnt s (l.take k) : Nat)) (fun _ i => n - (intOf i).toNat)
  case atStart => exact ⟨0, Nat.zero_le _, rfl, by simp [cnt]⟩
  case round =>
    obtain ⟨k, hk, rfl, rfl⟩ := hrel
    by_cases hlt : k < n
    · have hd : decide (k < n) = true := by simpa using hlt
      obtain ⟨y0, y1⟩ := HR.out.at k (by rw [HN.out]; exact hlt)
      have HC := Lib.hid (cnt_take s l k (by rw [HN.out]; exact hlt))
      have hcl : cnt s (l.take k) ≤ k := Nat.le_trans (cnt_le _ _) (by rw [List.length_take]; omega)
      have hki : (k : Int) < (n : Int) := by omega
      generalize (l[k]?.getD pz).1 = z0 at *
      generalize cnt s (l.take k) = c at *
      by_cases hz : z0 = s
      · have hzb : (z0 == s) = true := by simpa using hz
        rw [if_pos hzb] at HC
        go_wp2
        go_round
        case rel => exact ⟨k + 1, by omega, by go_num, by rw [HC.out]; go_num⟩
        case measure => simp [intOf]; omega
      · have hzb : (z0 == s) = false := by simpa using hz
        rw [if_neg (by rw [hzb]; decide)] at HC
        go_wp2
        go_round
        case rel => exact ⟨k + 1, by omega, by go_num, by rw [HC.out]; rfl⟩
        case measure => simp [intOf]; omega
    · have hd : decide (k < n) = false := by simpa using hlt
      obtain rfl : k = n := by omega
      have HT : Hid (l.take k = l) := List.take_of_length_le (by rw [HN.out]; exact Nat.le_refl _)
      rw [HT.out]
      go_wp2
      go_ret
      exact ⟨rfl, rfl⟩

/-- What the document's Resize makes. -/
def refS (l : List Pr) (n i : Nat) : Pr := if n ≤ i then (4, -1) else if i < l.length ∧ (l[i]?.getD pz).1 = 3 then l[i]?.getD pz else (3, -1)
def refR (l : List Pr) (n k : Nat) : List Pr := (List.range k).map (refS l n)
theorem refR_succ (l : List Pr) (n k : Nat) : refR l n (k + 1) = refR l n k ++ [refS l n k] := by simp [refR, List.range_succ]
theorem refR_len (l : List Pr) (n k : Nat) : (refR l n k).length = k := by simp [refR]
def all34 (l : List Pr) : Prop := ∀ i, i < l.length → (l[i]?.getD pz).1 = 3 ∨ (l[i]?.getD pz).1 = 4
theorem cnt34 (l : List Pr) : cnt 3 l + cnt 4 l ≤ l.length ∧ (cnt 3 l + cnt 4 l = l.length ↔ all34 l) := by
  unfold cnt all34
  induction l with
  | nil => simp
  | cons x l ih =>
    obtain ⟨h1, h2⟩ := ih
    simp only [List.countP_cons, List.length_cons]
    have key : (∀ i, i < l.length + 1 → ((x :: l)[i]?.getD pz).1 = 3 ∨ ((x :: l)[i]?.getD pz).1 = 4) ↔ ((x.1 = 3 ∨ x.1 = 4) ∧ ∀ i, i < l.length → (l[i]?.getD pz).1 = 3 ∨ (l[i]?.getD pz).1 = 4) := by
      constructor
      · intro h
        exact ⟨by simpa using h 0 (by omega), fun i hi => by simpa using h (i + 1) (by omega)⟩
      · rintro ⟨ha, hb⟩ i hi
        cases i with
        | zero => simpa using ha
        | succ i => simpa using hb i (by omega)
    rw [key]
    by_cases e3 : x.1 = 3
    · have b3 : (x.1 == 3) = true := by simpa using e3
      have b4 : (x.1 == 4) = false := by rw [beq_eq_false_iff_ne]; omega
      simp only [b3, b4, if_true]
      refine ⟨by simp; omega, ?_⟩
      rw [← h2]
      simp [e3]; omega
    · have b3 : (x.1 == 3) = false := by rw [beq_eq_false_iff_ne]; exact e3
      by_cases e4 : x.1 = 4
      · have b4 : (x.1 == 4) = true := by simpa using e4
        simp only [b3, b4, if_true]
        refine ⟨by simp; omega, ?_⟩
        rw [← h2]
        simp [e4]; omega
      · have b4 : (x.1 == 4) = false := by rw [beq_eq_false_iff_ne]; exact e4
        simp only [b3, b4]
        refine ⟨by simp; omega, ?_⟩
        constructor
        · intro h; simp at h; omega
        · rintro ⟨h | h, _⟩
          · exact absurd h e3
          · exact absurd h e4
theorem resOk_iff (l : List Pr) : resOk l ↔ all34 l := by
  rw [← (cnt34 l).2]
  unfold resOk lenT
  omega
theorem resL_ref (l : List Pr) (n : Nat) (h : all34 l) : resL l n = refR l n (max n l.length) := by
  have hw : (wide l n).length = max n l.length := by simp [wide]; omega
  apply List.ext_getElem?
  intro i
  unfold resL refR upto
  rw [List.getElem?_mapIdx, List.getElem?_map]
  by_cases hi : i < max n l.length
  · have e1 : (wide l n)[i]? = some ((wide l n)[i]?.getD pz) := by simp [hw, hi]
    have e2 : (List.range (max n l.length))[i]? = some i := by simp [hi]
    rw [e1, e2, Option.map_some, Option.map_some, hw, if_pos hi]
    congr 1
    unfold stepR refS
    by_cases h1 : n ≤ i
    · rw [if_pos h1, if_pos h1]
    · rw [if_neg h1, if_neg h1]
      by_cases h2 : i < l.length
      · have e3 : (wide l n)[i]?.getD pz = l[i]?.getD pz := by unfold wide; rw [List.getElem?_append_left h2]
        rw [e3]
        rcases h i h2 with h3 | h3
        · rw [if_neg (by omega), if_pos ⟨h2, h3⟩]
        · rw [if_pos h3, if_neg (fun h => by omega)]
      · have e3 : (wide l n)[i]?.getD pz = (4, -1) := by
          unfold wide
          rw [List.getElem?_append_right (by omega), List.getElem?_replicate, if_pos (by omega)]
          rfl
        rw [e3, if_pos rfl, if_neg (fun h => h2 h.1)]
  · rw [List.getElem?_eq_none (by omega), List.getElem?_eq_none (by simp; omega)]
    rfl
end Go.Proofs.Ytcjgdnlacfpioaa.Pstat
