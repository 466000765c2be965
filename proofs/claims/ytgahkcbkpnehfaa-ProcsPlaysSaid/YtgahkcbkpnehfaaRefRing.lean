/- Chapter 13: the document's ring: its contracts. -/
import Derived.Test.YtgahkcbkpnehfaaRingFill
namespace Go.Proofs.Ytgahkcbkpnehfaa.Ring
open Go.RowKit Go.Esc
set_option linter.unusedVariables false

theorem OwnI.lit (w : World) (base : Nat) (h : base ≤ w.heap.size) : OwnI (w.alloc (.cells #[] 3)) base (.slice (some ⟨w.heap.size, 0, none⟩) 0 0) [] := (OwnI.new (w := w) (l := []) (by simp)).mono h
theorem size_lit {w : World} {n : Nat} {o : Obj} (h : n ≤ w.heap.size) : n ≤ (w.alloc o).heap.size := by simp; omega

/-- The document's ring, at an offset of a block that is known whole. -/
structure RefR (w : World) (b off : Nat) (cs : Array Value) (t : TypeId) (size : Nat) (nx : Int) (v : Value) (row : List Int) : Prop where
  blk : Blk w b cs t
  c0 : cs[off]? = some (.int .i64 size)
  c1 : cs[off + 1]? = some (.int .i64 nx)
  c2 : cs[off + 2]? = some v
  rd : Slw w v row
  ne : row ≠ [] → v.ownBlock ≠ some b

theorem RefR.cell0 {w : World} {b off : Nat} {cs : Array Value} {t : TypeId} {size : Nat} {nx : Int} {v : Value} {row : List Int} (h : RefR w b off cs t size nx v row) : w.cell? ⟨b, off, none⟩ = some (.int .i64 size) := (h.blk.cell off).trans h.c0
theorem RefR.cell1 {w : World} {b off : Nat} {cs : Array Value} {t : TypeId} {size : Nat} {nx : Int} {v : Value} {row : List Int} (h : RefR w b off cs t size nx v row) : w.cell? ⟨b, off + 1, none⟩ = some (.int .i64 nx) := (h.blk.cell (off + 1)).trans h.c1
theorem RefR.cell2 {w : World} {b off : Nat} {cs : Array Value} {t : TypeId} {size : Nat} {nx : Int} {v : Value} {row : List Int} (h : RefR w b off cs t size nx v row) : w.cell? ⟨b, off + 2, none⟩ = some v := (h.blk.cell (off + 2)).trans h.c2
theorem RefR.only {S : Nat → Prop} {w w' : World} {b off : Nat} {cs : Array Value} {t : TypeId} {size : Nat} {nx : Int} {v : Value} {row : List Int} (h : RefR w b off cs t size nx v row) (o : Only S w w') (hb : ¬ S b) (hv : row ≠ [] → Off S v) : RefR w' b off cs t size nx v row :=
  ⟨h.blk.only o hb, h.c0, h.c1, h.c2, h.rd.only' o hv, h.ne⟩
theorem RefR.below {w w' : World} {b off : Nat} {cs : Array Value} {t : TypeId} {size : Nat} {nx : Int} {v : Value} {row : List Int} (h : RefR w b off cs t size nx v row) (o : Below w.heap.size w w') : RefR w' b off cs t size nx v row :=
  h.only (S := fun _ => False) ((Only.refl _ w).below o) (fun x => x) (fun _ _ _ x => x)
theorem RefR.drewN {w : World} {b off : Nat} {cs : Array Value} {t : TypeId} {size : Nat} {nx : Int} {v : Value} {row : List Int} (h : RefR w b off cs t size nx v row) (n : Nat) : RefR (w.drewN n) b off cs t size nx v row :=
  ⟨h.blk, h.c0, h.c1, h.c2, h.rd, h.ne⟩
theorem off_self {v : Value} {b : Nat} (h : v.ownBlock ≠ some b) : Off (fun j => j = b) v := fun j hj e => h (by rw [hj, e])
theorem lt_of_get {cs : Array Value} {i : Nat} {v : Value} (h : cs[i]? = some v) : i < cs.size := (Array.getElem?_eq_some_iff.1 h).1
theorem set_same {cs : Array Value} {i : Nat} {v u : Value} (h : cs[i]? = some v) : (cs.setIfInBounds i u)[i]? = some u := by
  rw [Array.getElem?_setIfInBounds]; simp [lt_of_get h]
theorem set_other {cs : Array Value} {i j : Nat} {u : Value} (h : i ≠ j) : (cs.setIfInBounds i u)[j]? = cs[j]? := by
  rw [Array.getElem?_setIfInBounds]; simp [h]
theorem RefR.setNx {w : World} {b off : Nat} {cs : Array Value} {t : TypeId} {size : Nat} {nx : Int} {v : Value} {row : List Int} (h : RefR w b off cs t size nx v row) (x : Int) :
    RefR (w.setCell ⟨b, off + 1, none⟩ (.int .i64 x)) b off (cs.setIfInBounds (off + 1) (.int .i64 x)) t size x v row :=
  ⟨h.blk.set _ _, by rw [set_other (by omega)]; exact h.c0, set_same h.c1, by rw [set_other (by omega)]; exact h.c2, h.rd.only' ((Only.refl (fun j => j = b) w).set (.inr rfl) _ _) (fun hr => off_self (h.ne hr)), h.ne⟩
theorem RefR.setRow {w : World} {b off : Nat} {cs : Array Value} {t : TypeId} {size : Nat} {nx : Int} {v : Value} {row : List Int} (h : RefR w b off cs t size nx v row) {v' : Value} {row' : List Int} (hs : Slw w v' row') (hn : row' ≠ [] → v'.ownBlock ≠ some b) :
    RefR (w.setCell ⟨b, off + 2, none⟩ v') b off (cs.setIfInBounds (off + 2) v') t size nx v' row' :=
  ⟨h.blk.set _ _, by rw [set_other (by omega)]; exact h.c0, by rw [set_other (by omega)]; exact h.c1, set_same h.c2, hs.only' ((Only.refl (fun j => j = b) w).set (.inr rfl) _ _) (fun hr => off_self (hn hr)), hn⟩

/-- What has turned: the ring's own cells alone; its row is what it was, or lies in new memory. -/
structure Turned (b off : Nat) (cs cs' : Array Value) (v v' : Value) (w w' : World) : Prop where
  only : Only (fun j => j = b) w w'
  rest : ∀ i, i < off ∨ off + 3 ≤ i → cs'[i]? = cs[i]?
  grow : ∀ j, v'.ownBlock = some j → v.ownBlock = some j ∨ (w.heap.size ≤ j ∧ j < w'.heap.size)
theorem Turned.refl (b off : Nat) (cs : Array Value) (v : Value) (w : World) : Turned b off cs cs v v w w := ⟨Only.refl _ _, fun _ _ => rfl, fun _ h => .inl h⟩
theorem Turned.trans {b off : Nat} {cs cs1 cs2 : Array Value} {v v1 v2 : Value} {w w1 w2 : World} (h : Turned b off cs cs1 v v1 w w1) (k : Turned b off cs1 cs2 v1 v2 w1 w2) : Turned b off cs cs2 v v2 w w2 :=
  ⟨h.only.trans k.only, fun i hi => (k.rest i hi).trans (h.rest i hi), fun j hj => (k.grow j hj).elim (fun y => (h.grow j y).imp id (fun z => ⟨z.1, Nat.lt_of_lt_of_le z.2 k.only.size⟩)) (fun x => .inr ⟨Nat.le_trans h.only.size x.1, x.2⟩)⟩
theorem Turned.below {b off : Nat} {cs cs1 : Array Value} {v v1 : Value} {w w1 w2 : World} (h : Turned b off cs cs1 v v1 w w1) (k : Below w1.heap.size w1 w2) : Turned b off cs cs1 v v1 w w2 := ⟨h.only.below k, h.rest, fun j hj => (h.grow j hj).imp id (fun z => ⟨z.1, Nat.lt_of_lt_of_le z.2 k.size⟩)⟩
theorem Turned.nx {b off : Nat} {cs cs1 : Array Value} {v v1 : Value} {w w1 : World} (h : Turned b off cs cs1 v v1 w w1) (x : Value) : Turned b off cs (cs1.setIfInBounds (off + 1) x) v v1 w (w1.setCell ⟨b, off + 1, none⟩ x) :=
  ⟨h.only.set (.inr rfl) _ _, fun i hi => by rw [set_other (by omega)]; exact h.rest i hi, fun j hj => (h.grow j hj).imp id (fun z => ⟨z.1, by simpa [World.setCell] using z.2⟩)⟩
theorem Turned.row {b off : Nat} {cs cs1 : Array Value} {v v1 : Value} {w w1 : World} (h : Turned b off cs cs1 v v1 w w1) {v' : Value} (hg : ∀ j, v'.ownBlock = some j → v1.ownBlock = some j ∨ (w.heap.size ≤ j ∧ j < w1.heap.size)) : Turned b off cs (cs1.setIfInBounds (off + 2) v') v v' w (w1.setCell ⟨b, off + 2, none⟩ v') :=
  ⟨h.only.set (.inr rfl) _ _, fun i hi => by rw [set_other (by omega)]; exact h.rest i hi, fun j hj => ((hg j hj).elim (h.grow j) .inr).imp id (fun z => ⟨z.1, by simpa [World.setCell] using z.2⟩)⟩

def RefPost (b off : Nat) (cs : Array Value) (t : TypeId) (size : Nat) (v : Value) (nx' : Int) (row' out : List Int) (w : World) (e : Ending) (w' : World) : Prop :=
  ∃ u cs' v', e = .returned u ∧ Slw w' u out ∧ RefR w' b off cs' t size nx' v' row' ∧ Turned b off cs cs' v v' w w'

set_option maxHeartbeats 4000000 in
theorem rbehind_any (b off : Nat) (cs : Array Value) (t : TypeId) (size : Nat) (nx : Int) (v : Value) (row : List Int) (x : Int) (w : World) (h : RefR w b off cs t size nx v row) (hs1 : 1 ≤ size) (hs : size ≤ 100000) (hl : row.length ≤ 100000) :
    Calls Try.prog 83 #[.pointer (some ⟨b, off, none⟩), .int .i64 x] w (RefPost b off cs t size v nx (behindR size row x) (behindO size row x) w) := by
  have c0 := h.cell0
  have c1 := h.cell1
  have c2 := h.cell2
  have f2 := h.blk.free (off + 2)
  have hbl := h.blk.lt
  have HH := Lib.hid h
  have HS := Lib.hid h.rd
  obtain ⟨a, cap, rfl⟩ := h.rd.len
  clear h
  unfold behindR behindO
  by_cases hc : row.length < size
  · rw [if_pos hc, if_pos hc]
    have hd : decide (row.length < size) = true := by simpa using hc
    have hlen1 : ([] : List Int).length + row.length < 100000000 := by simp; omega
    have HLen1 := Lib.hid hlen1
    have hlen2 : row.length + [x].length < 100000000 := by simp; omega
    have HLen2 := Lib.hid hlen2
    clear hlen1 hlen2
    have c2n : ∀ n, ((w.drewN n).alloc (.cells #[] 3)).cell? ⟨b, off + 2, none⟩ = some (.slice a row.length cap) := fun n => ((HH.out.drewN n).below (below_alloc (Below.refl _ _) _)).cell2
    go_enter Try.func83, Try.ntmps83
    go_wp2_with fail
    go_quiet (fail)
    go_wp2_with (first | (at_builtin; refine appX Try.underlying25 Glob.info3 w.heap.size _ rfl _ _ rfl (.slice (some ⟨w.heap.size, 0, none⟩) 0 0) [] (.slice a row.length cap) row rfl rfl (OwnI.new (w := w.drewN _) (l := []) (by simp)) ((HS.out.drewN _).alloc _) (by simp) HLen1.out ?_; intro v' w2 hA; have hB2 : Below w.heap.size w w2 := below_grown (below_alloc (below_drewN (Below.refl _ _) _) _) hA.2.1 (fun j hj => by simp [Value.ownBlock] at hj; omega); have HOw : Hid (OwnI w2 w.heap.size v' row) := hA.1; have HB2 := Lib.hid hB2; have hBs := hB2.size; clear hA hB2) | (at_builtin; refine appX Try.underlying25 Glob.info3 w.heap.size _ rfl _ _ rfl v' row _ [x] rfl rfl (HOw.out.alloc _) (Slw.new1 w2 x) (by simp; omega) HLen2.out ?_; intro v2 w3 hA; have hB3 : Below w.heap.size w w3 := below_grown (below_alloc HB2.out _) hA.2.1 (fun j hj => (HOw.out.lt j hj).1); have HB3 := Lib.hid hB3; have HO3 := Lib.hid hA.1; have h3 := HH.out.below hB3; have f3 := h3.blk.free (off + 2); have d2 := h3.cell2; have hb3 := h3.blk.lt; have HH3 := Lib.hid h3; obtain ⟨g', cap', rfl⟩ := hA.some; clear hA hB3 h3))
    go_ret
    have hne : ∀ j, (Value.slice (some ⟨g', 0, none⟩) (row.length + 1) cap').ownBlock = some j → w.heap.size ≤ j := fun j hj => (HO3.out.lt j hj).1
    exact ⟨_, _, _, rfl, Slw.nil _, HH3.out.setRow (Slw.ofOwn HO3.out) (fun _ e => by have := hne b e; omega), ((Turned.refl b off cs _ w).below HB3.out).row (fun j hj => .inr (HO3.out.lt j hj))⟩
  · rw [if_neg hc, if_neg hc]
    have hd : decide (row.length < size) = false := by simpa using hc
    obtain ⟨k, HK⟩ : ∃ k, Hid (k = row.length / 2) := ⟨_, rfl⟩
    have hq2 : (row.length : Int) / 2 = (k : Int) := by rw [HK.out]; norm_cast
    have hk : k ≤ row.length := by rw [HK.out]; omega
    rw [← HK.out]
    rcases HS.out.open with ⟨_, h0⟩ | ⟨_, _, _, h0⟩ | ⟨bu, o, cap', he, hne, hcap, hbu, _⟩
    · simp [h0] at hc; omega
    · simp [h0] at hc; omega
    simp only [Value.slice.injEq] at he
    obtain ⟨rfl, _, rfl⟩ := he
    have HS1 := Lib.hid (HS.out.take k hk)
    have HS2 := Lib.hid (HS.out.drop (cap' := cap - k) k hk rfl (by omega))
    have hlen1 : ([] : List Int).length + (row.take k).length < 100000000 := by simp; omega
    have HLen1 := Lib.hid hlen1
    have hlen2 : (row.take k).length + [x].length < 100000000 := by simp; omega
    have HLen2 := Lib.hid hlen2
    have hlen3 : ([] : List Int).length + (row.drop k).length < 100000000 := by simp; omega
    have HLen3 := Lib.hid hlen3
    generalize row.take k = l1 at *
    generalize row.drop k = l2 at *
    have hkl : (k : Int) ≤ (row.length : Int) := by omega
    have hkc : (k : Int) ≤ (cap : Int) := by omega
    clear hlen1 hlen2 hlen3 hne
    have c2n : ∀ n, ((w.drewN n).alloc (.cells #[] 3)).cell? ⟨b, off + 2, none⟩ = some (.slice (some ⟨bu, o, none⟩) row.length cap) := fun n => ((HH.out.drewN n).below (below_alloc (Below.refl _ _) _)).cell2
    go_enter Try.func83, Try.ntmps83
    go_wp2_with fail
    go_quiet (fail)
    go_wp2_with (first | (at_builtin; refine appX Try.underlying25 Glob.info3 w.heap.size _ rfl _ _ rfl (.slice (some ⟨w.heap.size, 0, none⟩) 0 0) [] (.slice (some ⟨bu, o, none⟩) k cap) l1 rfl rfl (OwnI.new (w := w.drewN _) (l := []) (by simp)) ((HS1.out.drewN _).alloc _) (by simp) HLen1.out ?_; intro v' w2 hA; have hB2 : Below w.heap.size w w2 := below_grown (below_alloc (below_drewN (Below.refl _ _) _) _) hA.2.1 (fun j hj => by simp [Value.ownBlock] at hj; omega); have HOw : Hid (OwnI w2 w.heap.size v' l1) := hA.1; have HB2 := Lib.hid hB2; have hBs := hB2.size; clear hA hB2) | (at_builtin; refine appX Try.underlying25 Glob.info3 w.heap.size _ rfl _ _ rfl v' l1 _ [x] rfl rfl (HOw.out.alloc _) (Slw.new1 w2 x) (by simp; omega) HLen2.out ?_; intro v2 w3 hA; have hB3 : Below w.heap.size w w3 := below_grown (below_alloc HB2.out _) hA.2.1 (fun j hj => (HOw.out.lt j hj).1); have HB3 := Lib.hid hB3; have hBs3 := hB3.size; have HO3 := Lib.hid hA.1; have d2 := ((HH.out.below hB3).below (below_alloc (Below.refl _ _) (.cells #[] 3))).cell2; have e2 := (HH.out.below hB3).cell2; obtain ⟨g', cap', rfl⟩ := hA.some; clear hA hB3) | (at_builtin; refine appX Try.underlying25 Glob.info3 w.heap.size _ rfl _ _ rfl (.slice (some ⟨w3.heap.size, 0, none⟩) 0 0) [] (.slice (some ⟨bu, o + k, none⟩) (row.length - k) (cap - k)) l2 rfl rfl (OwnI.lit w3 w.heap.size hBs3) ((HS2.out.below HB3.out).alloc (.cells #[] 3)) (size_lit hBs3) HLen3.out ?_; intro v3 w4 hA; have hO4 : Hid (OwnI w4 w.heap.size (.slice (some ⟨g', 0, none⟩) (l1.length + 1) cap') (l1 ++ [x])) := (HO3.out.alloc _).kept hA.2.1 (.inr (fun e => by have h' : g' < w3.heap.size := (HO3.out.lt _ rfl).2; simp [Value.ownBlock] at e; omega)); have hB4 : Below w.heap.size w w4 := below_grown (below_alloc HB3.out _) hA.2.1 (fun j hj => by simp [Value.ownBlock] at hj; omega); have HB4 := Lib.hid hB4; have HO5 := Lib.hid hA.1; have h4 := HH.out.below hB4; have f4 := h4.blk.free (off + 2); have d4 := h4.cell2; have hb4 := h4.blk.lt; have HH4 := Lib.hid h4; obtain ⟨a5, cap5, rfl⟩ := Glob.own_len HO5.out; clear hA hB4 h4))
    go_ret
    have hne : ∀ j, (Value.slice a5 ([] ++ l2).length cap5).ownBlock = some j → w.heap.size ≤ j := fun j hj => (HO5.out.lt j hj).1
    have hb : ∀ u : Value, (∀ j, u.ownBlock = some j → w.heap.size ≤ j) → Off (fun j => j = b) u := fun u h j hj e => by have := h j hj; omega
    exact ⟨_, _, _, rfl, (Slw.ofOwn hO4.out).only ((Only.refl (fun j => j = b) w4).set (.inr rfl) _ _) (hb _ (fun j hj => (hO4.out.lt j hj).1)), HH4.out.setRow (Slw.ofOwn HO5.out) (fun _ e => by have := hne b e; omega), ((Turned.refl b off cs _ w).below HB4.out).row (fun j hj => .inr (HO5.out.lt j hj))⟩

end Go.Proofs.Ytgahkcbkpnehfaa.Ring
