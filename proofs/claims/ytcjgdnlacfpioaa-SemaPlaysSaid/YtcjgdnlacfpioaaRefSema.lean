/- Chapter 22: the contracts of the document's semaphore. -/
import Derived.Test.YtcjgdnlacfpioaaSemaActs
import Derived.Test.YtcjgdnlacfpioaaRefHas
namespace Go.Proofs.Ytcjgdnlacfpioaa.Sema
open Go.RowKit Go.Esc Go.Proofs.Ytcjgdnlacfpioaa.Ref
set_option linter.unusedVariables false

/-- The document's semaphore in memory, at block bb. -/
structure Rs (w : World) (bb : Nat) (ow : Int) (v : Value) (l : List Int) : Prop where
  blk : Blk w bb #[.int .i64 ow, v] 39
  rd : Slw w v l
  ne : v.ownBlock ≠ some bb
  live : ∀ j, v.ownBlock = some j → j < w.heap.size
theorem Rs.only {S : Nat → Prop} {w w' : World} {b : Nat} {ow : Int} {v : Value} {l : List Int} (h : Rs w b ow v l) (o : Only S w w') (hs : ∀ j, Sf b v j → ¬ S j) : Rs w' b ow v l :=
  ⟨h.blk.only o (hs b (.inl rfl)), h.rd.only o (fun j hj => hs j (.inr hj)), h.ne, fun j hj => Nat.lt_of_lt_of_le (h.live j hj) o.size⟩
theorem Rs.below {w w' : World} {b : Nat} {ow : Int} {v : Value} {l : List Int} (h : Rs w b ow v l) (o : Below w.heap.size w w') : Rs w' b ow v l :=
  h.only (S := fun _ => False) ((Only.refl _ w).below o) (fun _ _ x => x)
theorem Rs.drewN {w : World} {b : Nat} {ow : Int} {v : Value} {l : List Int} (h : Rs w b ow v l) (n : Nat) : Rs (w.drewN n) b ow v l := ⟨h.blk, h.rd, h.ne, h.live⟩
theorem Rs.cell0 {w : World} {b : Nat} {ow : Int} {v : Value} {l : List Int} (h : Rs w b ow v l) : w.cell? ⟨b, 0, none⟩ = some (.int .i64 ow) := h.blk.cell 0
theorem Rs.cell1 {w : World} {b : Nat} {ow : Int} {v : Value} {l : List Int} (h : Rs w b ow v l) : w.cell? ⟨b, 1, none⟩ = some v := h.blk.cell 1
theorem Rs.setOw {w : World} {b : Nat} {ow : Int} {v : Value} {l : List Int} (h : Rs w b ow v l) (x : Int) : Rs (w.setCell ⟨b, 0, none⟩ (.int .i64 x)) b x v l :=
  ⟨h.blk.set2_0, h.rd.only ((Only.refl (fun j => j = b) w).set (.inr rfl) _ _) (off_b h.ne), h.ne, fun j hj => by have := h.live j hj; simpa [World.setCell] using this⟩
theorem Rs.setRow {w : World} {b : Nat} {ow : Int} {v v' : Value} {l l' : List Int} (h : Rs w b ow v l) (hr : Slw w v' l') (hn : v'.ownBlock ≠ some b) (hl : ∀ j, v'.ownBlock = some j → j < w.heap.size) : Rs (w.setCell ⟨b, 1, none⟩ v') b ow v' l' :=
  ⟨h.blk.set2_1, hr.only ((Only.refl (fun j => j = b) w).set (.inr rfl) _ _) (off_b hn), hn, fun j hj => by have := hl j hj; simpa [World.setCell] using this⟩
def Rp (b : Nat) (ow : Int) (v : Value) (l : List Int) (w w' : World) : Prop := ∃ v', Rs w' b ow v' l ∧ Only (fun j => j = b) w w' ∧ Grs b v v' w
theorem Rp.same {b : Nat} {ow : Int} {v : Value} {l : List Int} {w w' : World} (h : Rs w' b ow v l) (o : Only (fun j => j = b) w w') : Rp b ow v l w w' := ⟨v, h, o, fun _ h => .inl h⟩

def RAcqPost (b : Nat) (ow : Int) (v : Value) (l : List Int) (g : Int) (w : World) (e : Ending) (w' : World) : Prop :=
  e = .returned (.tuple #[.bool (acqB ow g), .int .i64 (acqF g)]) ∧ Rp b (acqO ow g) v (acqL ow l g) w w'
set_option maxHeartbeats 2000000 in
theorem racquire_any (b : Nat) (ow : Int) (v : Value) (l : List Int) (g : Int) (w : World) (h : Rs w b ow v l) (hl : l.length < 1000000) : Calls Try.prog 17 #[.pointer (some ⟨b, 0, none⟩), .int .i64 g] w (RAcqPost b ow v l g w) := by
  have c0 := h.cell0
  have c1 := h.cell1
  have f0 := h.blk.free 0
  have f1 := h.blk.free 1
  have hbl := h.blk.lt
  unfold RAcqPost acqO acqB acqF acqL
  by_cases hg : g < 1
  · simp only [hg, if_true]
    have hd : decide (g < 1) = true := by simpa using hg
    have HH := Lib.hid h
    clear h
    go_enter Try.func17, Try.ntmps17
    go_wp2
    go_ret2
    exact ⟨rfl, Rp.same HH.out (Only.refl _ _)⟩
  have hd : decide (g < 1) = false := by simpa using hg
  simp only [hg, if_false]
  by_cases h0 : ow = 0
  · subst h0
    simp only [if_true]
    have hgg : (g == g) = true := by simp
    have HH := Lib.hid (h.setOw g)
    clear h hg
    go_enter Try.func17, Try.ntmps17
    go_wp2
    go_ret2
    exact ⟨rfl, Rp.same HH.out ((Only.refl (fun j => j = b) w).set (.inr rfl) _ _)⟩
  have hb0 : (ow == 0) = false := by rw [beq_eq_false_iff_ne]; exact h0
  simp only [h0, if_false]
  by_cases h1 : ow = g
  · have hb1 : (ow == g) = true := by rw [beq_iff_eq]; exact h1
    simp only [h1, if_true, decide_true]
    have HH : Hid (Rs w b g v l) := by rw [← h1]; exact h
    clear h h1 h0 hg
    go_enter Try.func17, Try.ntmps17
    go_wp2
    go_ret2
    exact ⟨rfl, Rp.same HH.out (Only.refl _ _)⟩
  have hb1 : (ow == g) = false := by rw [beq_eq_false_iff_ne]; exact h1
  simp only [h1, if_false, decide_false]
  have HH := Lib.hid h
  by_cases hmem : g ∈ l
  · have HHas := Lib.hid (has_yes v l g w h.rd.sl hmem)
    simp only [hmem, if_true]
    clear h h1 h0 hg hmem
    go_enter Try.func17, Try.ntmps17
    go_wp2_with fail
    refine HHas.out.mono ?_
    rintro e w2 ⟨rfl, rfl⟩
    go_wp2_with fail
    go_ret2
    exact ⟨rfl, Rp.same HH.out (Only.refl _ _)⟩
  · have HHas := Lib.hid (has_no v l g w h.rd.sl hmem)
    simp only [hmem, if_false]
    have HJ := Lib.hid (join_any v l (.slice (some ⟨w.heap.size, 0, none⟩) 1 1) [g] (w.alloc (.cells #[.int .i64 g] 3)) (h.rd.alloc _) (Slw.new1 w g) (by simp; omega))
    clear h h1 h0 hg hmem
    go_enter Try.func17, Try.ntmps17
    go_wp2_with fail
    refine HHas.out.mono ?_
    rintro e w2 ⟨rfl, rfl⟩
    go_wp2_with fail
    refine HJ.out.mono ?_
    rintro e w3 ⟨v3, rfl, ho3, hb3⟩
    have hB3 : Below w.heap.size w w3 := below_below (below_alloc (Below.refl _ _) _) hb3
    have h3 := HH.out.below hB3
    have d1 := h3.cell1
    have df := h3.blk.free 1
    have hbl3 := h3.blk.lt
    have hge : ∀ j, v3.ownBlock = some j → w.heap.size ≤ j := fun j hj => by have := (ho3.lt j hj).1; simp at this; omega
    have HS3 := Lib.hid (h3.setRow (Slw.ofOwn ho3) (fun e => by have := hge b e; omega) (fun j hj => (ho3.lt j hj).2))
    have HG : Hid (Grs b v v3 w) := fun j hj => .inr (hge j hj)
    have HB3 := Lib.hid hB3
    obtain ⟨a3, cap3, rfl⟩ : ∃ a3 cap3, v3 = .slice a3 (l ++ [g]).length cap3 := by obtain ⟨a, c, he, _⟩ := Sl.ofOwn ho3; exact ⟨a, c, he⟩
    clear ho3 hb3 hB3 h3 hge
    generalize (l ++ [g]).length = n3 at *
    go_wp2_with fail
    go_ret2
    exact ⟨rfl, _, HS3.out, ((Only.refl (fun j => j = b) w).below HB3.out).set (.inr rfl) _ _, HG.out⟩

def RRelPost (b : Nat) (ow : Int) (v : Value) (l : List Int) (g : Int) (w : World) (e : Ending) (w' : World) : Prop :=
  e = .returned (.tuple #[.int .i64 (relV ow l g), .int .i64 (relF ow g)]) ∧ Rp b (relO ow l g) v (relL ow l g) w w'
theorem Rp.cells {b : Nat} {ow x : Int} {v v' : Value} {l l' : List Int} {w : World} (h : Rs w b ow v l) (hr : Slw w v' l') (hn : v'.ownBlock ≠ some b) (hg : ∀ j, v'.ownBlock = some j → v.ownBlock = some j) : Rp b x v l' w (((w.setCell ⟨b, 0, none⟩ (.int .i64 0)).setCell ⟨b, 0, none⟩ (.int .i64 x)).setCell ⟨b, 1, none⟩ v') := by
  have h1 := (h.setOw 0).setOw x
  exact ⟨v', h1.setRow (hr.only (((Only.refl (fun j => j = b) w).set (.inr rfl) _ _).set (.inr rfl) _ _) (off_b hn)) hn (fun j hj => by have := h.live j (hg j hj); simpa [World.setCell] using this), (((Only.refl (fun j => j = b) w).set (.inr rfl) _ _).set (.inr rfl) _ _).set (.inr rfl) _ _, fun j hj => .inl (hg j hj)⟩
set_option maxHeartbeats 4000000 in
theorem rrelease_any (b : Nat) (ow : Int) (v : Value) (l : List Int) (g : Int) (w : World) (h : Rs w b ow v l) (hl : l.length < 1000000) : Calls Try.prog 18 #[.pointer (some ⟨b, 0, none⟩), .int .i64 g] w (RRelPost b ow v l g w) := by
  have c0 := h.cell0
  have c1 := h.cell1
  have f0 := h.blk.free 0
  have f1 := h.blk.free 1
  have hbl := h.blk.lt
  unfold RRelPost relO relV relF relL
  by_cases hg : g < 1
  · simp only [hg, if_true]
    have hd : decide (g < 1) = true := by simpa using hg
    have HH := Lib.hid h
    clear h
    go_enter Try.func18, Try.ntmps18
    go_wp2
    go_ret2
    exact ⟨rfl, Rp.same HH.out (Only.refl _ _)⟩
  have hd : decide (g < 1) = false := by simpa using hg
  simp only [hg, if_false]
  by_cases h1 : ow = g
  · subst h1
    have hb1 : (ow != ow) = false := by simp
    simp only [if_true]
    cases l with
    | nil =>
      obtain ⟨a, cap, rfl⟩ := h.rd.len
      have HH := Lib.hid (h.setOw 0)
      clear h hg
      go_enter Try.func18, Try.ntmps18
      go_wp2
      go_ret2
      exact ⟨rfl, Rp.same HH.out ((Only.refl (fun j => j = b) w).set (.inr rfl) _ _)⟩
    | cons x r =>
      rcases h.rd.open with ⟨_, h0⟩ | ⟨_, _, _, h0⟩ | ⟨bu, o, cap, rfl, hne, hcap, hbu, hcells⟩
      · cases h0
      · cases h0
      have cx := hcells 0 (by simp)
      simp only [Nat.add_zero, List.getElem?_cons_zero, Option.getD_some] at cx
      have hll : (x :: r).length = r.length + 1 := by simp
      have hbb : bu ≠ b := fun e => h.ne (by rw [e]; rfl)
      have hbb2 : ¬ b = bu := fun e => hbb e.symm
      rw [hll] at hcap c1 hl
      have hsl := h.rd
      rw [hll] at h
      have hd2 : decide ((0 : Int) < (r.length : Int) + 1) = true := by rw [decide_eq_true_eq]; omega
      have q1 : (1 : Int) ≤ (r.length : Int) + 1 := by omega
      have q2 : (r.length : Int) + 1 ≤ (cap : Int) := by omega
      have q3 : (1 : Int) ≤ (cap : Int) := by omega
      have q5 : (0 : Int) < (r.length : Int) + 1 := by omega
      by_cases hc1 : cap = 1
      · have hr0 : r = [] := by
          have : r.length = 0 := by omega
          exact List.length_eq_zero_iff.1 this
        subst hc1 hr0
        have HS := Lib.hid (Rp.cells (x := x) (v' := .slice (some ⟨bu, o, none⟩) 0 0) (l' := []) h (Slw.none0 _ _ _) h.ne (fun j hj => hj))
        clear h hcells hsl hll hg hne
        simp only [List.length_nil, Nat.zero_add] at *
        go_enter Try.func18, Try.ntmps18
        go_wp2_with fail
        go_ret2
        exact ⟨rfl, HS.out⟩
      · have hsl2 : Slw w (.slice (some ⟨bu, o + 1, none⟩) r.length (cap - 1)) r := hsl.drop 1 (by simp) (by simp) (by omega)
        have HS := Lib.hid (Rp.cells (x := x) (v' := .slice (some ⟨bu, o + 1, none⟩) r.length (cap - 1)) (l' := r) h hsl2 h.ne (fun j hj => hj))
        clear h hcells hsl hll hg hne hsl2
        go_enter Try.func18, Try.ntmps18
        go_wp2_with fail
        go_ret2
        exact ⟨rfl, HS.out⟩
  · have hb1 : (ow != g) = true := by simpa using h1
    simp only [h1, if_false]
    have HH := Lib.hid h
    clear h h1 hg
    go_enter Try.func18, Try.ntmps18
    go_wp2
    go_ret2
    exact ⟨rfl, Rp.same HH.out (Only.refl _ _)⟩

def RDropPost (b : Nat) (ow : Int) (v : Value) (l : List Int) (g : Int) (w : World) (e : Ending) (w' : World) : Prop :=
  e = .returned (.bool (decide (g ∈ l))) ∧ Rp b ow v (l.erase g) w w'
set_option maxHeartbeats 2000000 in
theorem rdrop_any (b : Nat) (ow : Int) (v : Value) (l : List Int) (g : Int) (w : World) (h : Rs w b ow v l) (hl : l.length < 1000000) : Calls Try.prog 20 #[.pointer (some ⟨b, 0, none⟩), .int .i64 g] w (RDropPost b ow v l g w) := by
  have c1 := h.cell1
  have hbl := h.blk.lt
  have HR := Lib.hid (remove_any v l g w h.rd hl)
  have HH := Lib.hid h
  clear h
  go_enter Try.func20, Try.ntmps20
  go_wp2_with fail
  refine HR.out.mono ?_
  rintro e w2 ⟨v2, rfl, hs2, hb2, hg2, hn2⟩
  have h2 := HH.out.below hb2
  have d1 := h2.cell1
  have df := h2.blk.free 1
  have hbl2 := h2.blk.lt
  have hne : v2.ownBlock ≠ some b := fun e => by
    rcases hg2 b e with h' | h'
    · exact HH.out.ne h'
    · omega
  have hl2 : ∀ j, v2.ownBlock = some j → j < w2.heap.size := fun j hj => (hn2 j hj).elim (fun h' => Nat.lt_of_lt_of_le (HH.out.live j h') hb2.size) id
  have HS := Lib.hid (h2.setRow hs2 hne hl2)
  have HG : Hid (Grs b v v2 w) := hg2
  have HB2 := Lib.hid hb2
  obtain ⟨a2, cap2, rfl⟩ := hs2.len
  clear hs2 hb2 hg2 h2 hne hn2 hl2
  generalize (l.erase g).length = n2 at *
  go_wp2_with fail
  go_ret
  exact ⟨rfl, _, HS.out, ((Only.refl (fun j => j = b) w).below HB2.out).set (.inr rfl) _ _, HG.out⟩

set_option maxHeartbeats 1000000 in
theorem rahead_any (b : Nat) (ow : Int) (v : Value) (l : List Int) (g : Int) (w : World) (h : Rs w b ow v l) (hl : l.length < 10000000) : Calls Try.prog 22 #[.pointer (some ⟨b, 0, none⟩), .int .i64 g] w fun e w' => e = .returned (.int .i64 (idxZ l g)) ∧ w = w' := by
  have c1 := h.cell1
  obtain ⟨a, cap, rfl⟩ := h.rd.len
  have HS := Lib.hid h.rd
  clear h
  go_enter Try.func22, Try.ntmps22
  go_wp2
  go_loop [5] (fun i => ∃ k : Nat, k ≤ l.length ∧ i = .int .i64 k ∧ Hid (∀ i, i < k → l[i]?.getD 0 ≠ g)) (fun i => l.length - (intOf i).toNat)
  case atStart => exact ⟨0, Nat.zero_le _, rfl, fun i hi => by omega⟩
  case round =>
    obtain ⟨k, hk, rfl, HF⟩ := hrel
    by_cases hlt : k < l.length
    · rcases HS.out.open with ⟨_, h0⟩ | ⟨_, _, _, h0⟩ | ⟨bu, off, cap', he, _, _, hbu, hcells⟩
      · simp [h0] at hlt
      · simp [h0] at hlt
      simp only [Value.slice.injEq] at he
      obtain ⟨rfl, _, rfl⟩ := he
      have cu := hcells k hlt
      clear hcells
      by_cases hx : l[k]?.getD 0 = g
      · have HI := Lib.hid (idxZ_first l g k hlt hx HF.out)
        rw [hx] at cu
        have hgg : (g == g) = true := by simp
        clear hx
        go_wp2
        go_ret
        exact ⟨ret_int HI.out.symm, rfl⟩
      · have hxb : (l[k]?.getD 0 == g) = false := by rw [beq_eq_false_iff_ne]; exact hx
        have HN : Hid (∀ i, i < k + 1 → l[i]?.getD 0 ≠ g) := fun i hi => by
          by_cases e : i = k
          · subst e; exact hx
          · exact HF.out i (by omega)
        generalize l[k]?.getD 0 = y at *
        clear hx
        go_wp2
        go_round
        case rel => exact ⟨k + 1, by omega, by go_num, HN.out⟩
        case measure => simp [intOf]; omega
    · obtain rfl : k = l.length := by omega
      have HI := Lib.hid (idxZ_none l g HF.out)
      go_wp2
      go_ret
      exact ⟨ret_int HI.out.symm, rfl⟩
end Go.Proofs.Ytcjgdnlacfpioaa.Sema
