/- Chapter 23: the contract of the document's Resize. -/
import Derived.Test.YtgahkcbkpnehfaaRefProcs
import Derived.Test.YtgahkcbkpnehfaaLists
namespace Go.Proofs.Ytgahkcbkpnehfaa.Procs
open Go.RowKit Go.Esc
open Go.Proofs.Ytgahkcbkpnehfaa.Ring (Rw Sg allL RefR Turned rlist_any)
open Go.Proofs.Ytgahkcbkpnehfaa.Glob (Gr)
set_option linter.unusedVariables false

def dj (R : Nat → Rn) (m : Nat) (L : List Int) : Nat → List Int
  | 0 => L
  | k + 1 => allL (R (m + k)).nx (R (m + k)).row ++ dj R m L k
def R2 (R : Nat → Rn) (n : Nat) : Nat → Rn := fun i => if i < n then R i else ⟨0, 0, 0, []⟩
def V2 (vs : Nat → Value) (n : Nat) : Nat → Value := fun i => if i < n then vs i else .slice none 0 0
/-- The cells of a row of rings. -/
def xs (R : Nat → Rn) (vs : Nat → Value) : Nat → List Value
  | 0 => []
  | k + 1 => xs R vs k ++ [.int .i64 256, .int .i64 (R k).nx, vs k]
theorem xs_len (R : Nat → Rn) (vs : Nat → Value) (k : Nat) : (xs R vs k).length = k * 3 := by
  induction k with
  | zero => rfl
  | succ k ih => simp [xs, ih]; omega
theorem xs_at (R : Nat → Rn) (vs : Nat → Value) (k : Nat) : ∀ i, i < k → (xs R vs k)[i * 3]? = some (.int .i64 256) ∧ (xs R vs k)[i * 3 + 1]? = some (.int .i64 (R i).nx) ∧ (xs R vs k)[i * 3 + 2]? = some (vs i) := by
  induction k with
  | zero => intro i hi; omega
  | succ k ih =>
    intro i hi
    have hl := xs_len R vs k
    simp only [xs]
    by_cases e : i = k
    · subst e
      refine ⟨?_, ?_, ?_⟩
      · rw [List.getElem?_append_right (by omega)]; simp [hl]
      · rw [List.getElem?_append_right (by omega)]; simp [hl]
      · rw [List.getElem?_append_right (by omega)]; simp [hl]
    · obtain ⟨h1, h2, h3⟩ := ih i (by omega)
      rw [List.getElem?_append_left (by omega), List.getElem?_append_left (by omega), List.getElem?_append_left (by omega)]
      exact ⟨h1, h2, h3⟩
theorem row_ref {w : World} {base g m cap : Nat} {R : Nat → Rn} {vs : Nat → Value} (h : w.ownsRow base 54 3 (.slice (some ⟨g, 0, none⟩) m cap) m (xs R vs m)) : m ≤ cap ∧ base ≤ g ∧ ∃ cs, Blk w g cs 54 ∧ ∀ i, i < m → cs[i * 3]? = some (.int .i64 256) ∧ cs[i * 3 + 1]? = some (.int .i64 (R i).nx) ∧ cs[i * 3 + 2]? = some (vs i) := by
  obtain ⟨_, ⟨h0, _⟩ | ⟨g', cap', cur, he, hb, hh, hn, hm, hs, ht⟩⟩ := h
  · cases h0
  · simp only [Value.slice.injEq, Option.some.injEq, Addr.mk.injEq] at he
    obtain ⟨⟨rfl, _⟩, _, rfl⟩ := he
    refine ⟨hn, hb, cur, hh, fun i hi => ?_⟩
    have hx := xs_at R vs m i hi
    have hle : m * 3 ≤ cap * 3 := Nat.mul_le_mul_right _ hn
    have key : ∀ j, j < m * 3 → cur[j]? = (xs R vs m)[j]? := fun j hj => by
      rw [← ht, List.getElem?_take_of_lt hj]; simp
    exact ⟨(key _ (by omega)).trans hx.1, (key _ (by omega)).trans hx.2.1, (key _ (by omega)).trans hx.2.2⟩

/-- Glob = Join(..): how the document's rings are then. -/
theorem Dp.joined {w w1 w2 : World} {d g n cap : Nat} {cs : Array Value} {vs : Nat → Value} {gv v2 : Value} {R : Nat → Rn} {L L2 : List Int} (h : Dp w d g n cap cs vs gv R L) (hB1 : Below w.heap.size w w1) (ho : OwnI w2 w1.heap.size v2 L2) (hB2 : Below w1.heap.size w1 w2) :
    Blk w2 d #[.slice (some ⟨g, 0, none⟩) n cap, gv] 72 ∧ Dp (w2.setCell ⟨d, 1, none⟩ v2) d g n cap cs vs v2 R L2 ∧ Only (fun j => j = d) w (w2.setCell ⟨d, 1, none⟩ v2) ∧ ∀ j, v2.ownBlock = some j → (gv.ownBlock = some j) ∨ w.heap.size ≤ j := by
  have hB : Below w.heap.size w w2 := below_below hB1 hB2
  have h2 := h.below hB
  have hs1 := hB1.size
  have hdl := h.blk.lt
  have hgl := h.gl
  have hO : Only (fun j => j = d) w2 (w2.setCell ⟨d, 1, none⟩ v2) := (Only.refl (fun j => j = d) w2).set (.inr rfl) 1 v2
  have hnew : ∀ j, v2.ownBlock = some j → w.heap.size ≤ j := fun j hj => Nat.le_trans hs1 (ho.lt j hj).1
  have hvd : v2.ownBlock ≠ some d := fun e => by have := hnew d e; omega
  have hvg : v2.ownBlock ≠ some g := fun e => by have := hnew g e; omega
  refine ⟨h2.blk, ⟨h2.blk.set 1 v2, fun i hi => (h2.ring i hi).only hO (fun e => h.dg (show g = d from e).symm) (fun _ j hj e => h.vd i hi (by rw [hj, show j = d from e])), h.dg, (Slw.ofOwn ho).only hO (fun j hj e => hvd (by rw [hj, show j = d from e])), hvd, hvg, h.vd, h.vg, h.nc, h.nums, Nat.lt_of_lt_of_le h2.gl hO.size, fun i hi j hj => Nat.lt_of_lt_of_le (h2.vl i hi j hj) hO.size, fun j hj => Nat.lt_of_lt_of_le (ho.lt j hj).2 hO.size⟩, ((Only.refl (fun j => j = d) w).below hB).trans hO, fun j hj => .inr (hnew j hj)⟩

theorem info54 : (Try.prog.info? 54).map (fun i => (i.zero, i.size, i.bytes)) = some (some (.agg #[.int .i64 0, .int .i64 0, .slice none 0 0]), 3, 40) := by kernel_rfl
theorem new3 (w : World) (x y z : Value) (t : TypeId) : ∀ (j : Nat) (u : Value), [x, y, z][j]? = some u → (w.alloc (.cells #[x, y, z] t)).cell? ((⟨w.heap.size, 0, none⟩ : Addr).add j) = some u := by
  intro j u hj
  have hj0 : j < 3 := by have := (List.getElem?_eq_some_iff.1 hj).1; simpa using this
  rw [Go.WideShapes.add_plain, (Blk.new w #[x, y, z] t).cell, Nat.zero_add]
  simpa using hj
theorem one3 (nx : Int) (a : Option Addr) (n c : Nat) : ∀ x ∈ ([.int .i64 256, .int .i64 nx, .slice a n c] : List Value), x.oneCell' = true := by
  intro x hx
  simp at hx
  rcases hx with rfl | rfl | rfl <;> rfl

def DresPost (d g n m : Nat) (vs : Nat → Value) (gv : Value) (R : Nat → Rn) (L : List Int) (w : World) (e : Ending) (w' : World) : Prop :=
  e = .returned (.int .i64 0) ∧ ∃ g' cap' cs' vs' gv', Dp w' d g' m cap' cs' vs' gv' (R2 R n) (dj R m L (n - m)) ∧ Only (fun j => j = d) w w' ∧ Gr (Df d g n vs gv) (Df d g' m vs' gv') w

/-- p.L = l: how the document's rings are then. -/
theorem dres_end {w wq wr : World} {d g n cap m g' cap' : Nat} {cs : Array Value} {vs : Nat → Value} {gv gv1 : Value} {R : Nat → Rn} {L L1 : List Int} (h : Dp wq d g n cap cs vs gv1 R L1) (hO : Only (fun j => j = d) w wq) (hgv : ∀ j, gv1.ownBlock = some j → gv.ownBlock = some j ∨ w.heap.size ≤ j) (hB : Below wq.heap.size wq wr) (hL : L1 = dj R m L (n - m))
    (hrow : wr.ownsRow wq.heap.size 54 3 (.slice (some ⟨g', 0, none⟩) m cap') m (xs (R2 R n) (V2 vs n) m)) :
    Blk wr d #[.slice (some ⟨g, 0, none⟩) n cap, gv1] 72 ∧ DresPost d g n m vs gv R L w (.returned (.int .i64 0)) (wr.setCell ⟨d, 0, none⟩ (.slice (some ⟨g', 0, none⟩) m cap')) := by
  have h2 := h.below hB
  obtain ⟨hmc, hbg, cs', hblk, hcs⟩ := row_ref hrow
  have hs := hO.size
  have hdl := h.blk.lt
  have hdg' : d ≠ g' := by omega
  have hOd : Only (fun j => j = d) wr (wr.setCell ⟨d, 0, none⟩ (.slice (some ⟨g', 0, none⟩) m cap')) := (Only.refl (fun j => j = d) wr).set (.inr rfl) 0 _
  have hgl := h.gl
  have hV : ∀ i j, (V2 vs n i).ownBlock = some j → i < n ∧ (vs i).ownBlock = some j := fun i j hj => by
    unfold V2 at hj
    by_cases e : i < n
    · rw [if_pos e] at hj; exact ⟨e, hj⟩
    · rw [if_neg e] at hj; simp [Value.ownBlock] at hj
  have hVl : ∀ i j, (V2 vs n i).ownBlock = some j → j < wq.heap.size := fun i j hj => h.vl i (hV i j hj).1 j (hV i j hj).2
  have hBs := hB.size
  have hOB : Only (fun j => j = d) wq (wr.setCell ⟨d, 0, none⟩ (.slice (some ⟨g', 0, none⟩) m cap')) := ((Only.refl (fun j => j = d) wq).below hB).trans hOd
  have hSl : ∀ i, Slw wr (V2 vs n i) (R2 R n i).row := fun i => by
    unfold V2 R2
    by_cases e : i < n
    · rw [if_pos e, if_pos e]; exact (h2.ring i e).rd
    · rw [if_neg e, if_neg e]; exact Slw.nil _
  refine ⟨h2.blk, rfl, g', cap', cs', V2 vs n, gv1, ⟨h2.blk.set 0 _, fun i hi => ?_, hdg', ?_, h.gd, fun e => by have := h.gvl g' e; omega, fun i hi e => h.vd i (hV i d e).1 (hV i d e).2, fun i hi e => by have := hVl i g' e; omega, hmc, fun i hi => ?_, Nat.lt_of_lt_of_le hblk.lt hOd.size, fun i hi j hj => Nat.lt_of_lt_of_le (hVl i j hj) hOB.size, fun j hj => Nat.lt_of_lt_of_le (h.gvl j hj) hOB.size⟩, hO.trans hOB, ?_⟩
  · obtain ⟨q0, q1, q2⟩ := hcs i hi
    exact ⟨hblk.only hOd (fun e => hdg' (show g' = d from e).symm), q0, q1, q2, (hSl i).only hOd (fun j hj e => h.vd i (hV i j hj).1 (by rw [(hV i j hj).2, show j = d from e])), fun _ e => by have := hVl i g' e; omega⟩
  · rw [← hL]; exact h2.glob.only hOd (fun j hj e => h.gd (by rw [hj, show j = d from e]))
  · unfold R2
    by_cases e : i < n
    · rw [if_pos e]; exact h.nums i e
    · rw [if_neg e]; exact ⟨Int.le_refl _, by simp⟩
  · rintro j (hj | hj | hj | ⟨i, hi, hj⟩)
    · exact .inl (.inl hj)
    · exact .inr (by omega)
    · exact (hgv j hj).imp (fun x => .inr (.inr (.inl x))) id
    · exact .inl (.inr (.inr (.inr ⟨i, (hV i j hj).1, (hV i j hj).2⟩)))
theorem dj_len {w : World} {d g n cap : Nat} {cs : Array Value} {vs : Nat → Value} {gv : Value} {R : Nat → Rn} {L : List Int} (h : Dp w d g n cap cs vs gv R L) (m : Nat) (k : Nat) (hk : m + k ≤ n) : (dj R m L k).length ≤ L.length + 257 * k := by
  induction k with
  | zero => simp [dj]
  | succ k ih =>
    have h1 := ih (by omega)
    have h2 := (h.nums (m + k) (by omega)).2
    have h3 : (allL (R (m + k)).nx (R (m + k)).row).length ≤ 257 := by unfold allL; rw [List.length_append]; split <;> simp <;> omega
    simp only [dj, List.length_append]
    omega

set_option maxRecDepth 100000 in
set_option maxHeartbeats 8000000 in
theorem dresize_any (d g n cap m : Nat) (cs : Array Value) (vs : Nat → Value) (gv : Value) (R : Nat → Rn) (L : List Int) (w : World) (h : Dp w d g n cap cs vs gv R L) (hn : n ≤ 256) (hm1 : 1 ≤ m) (hm : m ≤ 256) (hl : L.length + 257 * n < 1000000) :
    Calls Try.prog 80 #[.pointer (some ⟨d, 0, none⟩), .int .i64 m] w (DresPost d g n m vs gv R L w) := by
  have HH := Lib.hid h
  have d1 : decide ((m : Int) < 1) = false := by simp; omega
  have d2 : decide ((256 : Int) < (m : Int)) = false := by simp; omega
  clear h
  go_enter Try.func80, Try.ntmps80
  go_wp2
  go_loopw [5] (fun i wr => ∃ (k : Nat) (gv1 : Value), k ≤ n - m ∧ i = .int .i64 ((m + k : Nat) : Int) ∧ Dp wr d g n cap cs vs gv1 R (dj R m L k) ∧ Only (fun j => j = d) w wr ∧ (∀ j, gv1.ownBlock = some j → gv.ownBlock = some j ∨ w.heap.size ≤ j)) (fun i _ => n - (intOf i).toNat)
  case atStart => exact ⟨0, gv, Nat.zero_le _, by simp, HH.out, Only.refl _ _, fun j hj => .inl hj⟩
  case round =>
    obtain ⟨k, gv1, hk, rfl, hP, hO, hGv⟩ := hrel
    have c0 := hP.blk.cell 0
    have c1 := hP.blk.cell 1
    have hdl := hP.blk.lt
    simp only [List.getElem?_toArray, List.getElem?_cons_zero, List.getElem?_cons_succ] at c0 c1
    have HP := Lib.hid hP
    have HO := Lib.hid hO
    have HGv := Lib.hid hGv
    by_cases hlt : m + k < n
    · have hd : decide (m + k < n) = true := by simpa using hlt
      have hnm := hP.nums (m + k) hlt
      have HLs0 := Lib.hid (rlist_any g ((m + k) * 3) cs 54 256 _ _ _ wr.drew ((hP.drewN 1).ring (m + k) hlt) hnm.1 (by omega))
      have HJl0 : Hid ((allL (R (m + k)).nx (R (m + k)).row).length + (dj R m L k).length < 10000000) := by
        have h1 := dj_len HH.out m k (by omega)
        have h3 : (allL (R (m + k)).nx (R (m + k)).row).length ≤ 257 := by unfold allL; rw [List.length_append]; split <;> simp <;> omega
        show _ < _
        omega
      obtain ⟨i, HIk⟩ : ∃ i, Hid (m + k = i) := ⟨_, rfl⟩
      have HLs := HLs0
      have HJl := HJl0
      rw [HIk.out] at HLs HJl hlt hd ⊢
      have hii : (i : Int) < (n : Int) := by omega
      clear hP hO hGv hnm HLs0 HJl0
      go_wp2_with fail
      refine wp_region_any (by kernel_rfl) ?_
      try (change wpAny _ _ _ _ _ _ _ (World.drew _))
      refine wpAny_take (i := 0) (v := ?_) rfl (by kernel_rfl) (by kernel_rfl) (by kernel_rfl) (fun _ _ _ h => h) (Or.inl ⟨by kernel_rfl, ?_⟩) ?_
      rotate_left
      · intro w'; go_simp; try (with_reducible rfl)
      refine wpAny_take (i := 1) (v := ?_) rfl (by kernel_rfl) (by kernel_rfl) (by kernel_rfl) (fun _ _ _ h => h) (Or.inl ⟨by kernel_rfl, ?_⟩) ?_
      rotate_left
      · intro w'; go_simp; try (with_reducible rfl)
      refine wpAny_take (i := 2) (v := ?_) rfl (by kernel_rfl) (by kernel_rfl) (by kernel_rfl) (fun _ _ _ h => h) (Or.inl ⟨by kernel_rfl, ?_⟩) ?_
      rotate_left
      · intro w'; go_simp; try (with_reducible rfl)
      refine wpAny_take (i := 3) (v := ?_) rfl (by kernel_rfl) (by kernel_rfl) (by kernel_rfl) (fun _ _ _ h => h) (Or.inl ⟨by kernel_rfl, ?_⟩) ?_
      rotate_left
      · intro w'; go_simp; try (with_reducible rfl)
      refine wpAny_take (i := 5) (v := ?_) rfl (by kernel_rfl) (by kernel_rfl) (by kernel_rfl) (fun _ _ _ h => h) (Or.inl ⟨by kernel_rfl, ?_⟩) ?_
      rotate_left
      · intro w'; go_simp; try (with_reducible rfl)
      refine wpAny_take (i := 8) (v := ?_) rfl (by kernel_rfl) (by kernel_rfl) (by kernel_rfl) (fun _ _ _ h => h) (Or.inl ⟨by kernel_rfl, ?_⟩) ?_
      rotate_left
      · intro w'; go_simp; try (with_reducible rfl)
      refine wpAny_take (i := 9) (v := ?_) rfl (by kernel_rfl) (by kernel_rfl) (by kernel_rfl) (fun _ _ _ h => h) (Or.inl ⟨by kernel_rfl, ?_⟩) ?_
      rotate_left
      · intro w'; go_simp; try (with_reducible rfl)
      refine wpAny_take (i := 10) (v := ?_) rfl (by kernel_rfl) (by kernel_rfl) (by kernel_rfl) (fun _ _ _ h => h) (Or.inl ⟨by kernel_rfl, ?_⟩) ?_
      rotate_left
      · intro w'; go_simp; try (with_reducible rfl)
      refine wpAny_ready (rs := [4, 11]) (by kernel_rfl) (by simp) ?_
      refine AllReady.cons rfl (fun K hK => ?_) (AllReady.cons rfl (fun K hK => ?_) (AllReady.nil))
      · go_simp
        refine hK _ _ ?_
        clear hK K
        refine wpAny_take (i := 6) (v := ?_) rfl (by kernel_rfl) (by kernel_rfl) (by kernel_rfl) (fun _ _ _ h => h) (Or.inl ⟨by kernel_rfl, ?_⟩) ?_
        rotate_left
        · intro w'; go_simp; try (with_reducible rfl)
        refine wpAny_ready (rs := [7, 11]) (by kernel_rfl) (by simp) ?_
        refine AllReady.cons rfl (fun K hK => ?_) (AllReady.cons rfl (fun K hK => ?_) (AllReady.nil))
        · go_simp
          go_wp2_with (go_at_call 37; (with_reducible refine HLs.out.mono ?_); rintro e w1 ⟨v1, rfl, ho1, hB1⟩; have HO1 := Lib.hid ho1; have HB1 : Hid (Below wr.heap.size wr w1) := undrew hB1; have e1 : w1.cell? ⟨d, 1, none⟩ = some gv1 := (HB1.out.cell (p := ⟨d, 1, none⟩) HP.out.blk.lt).trans c1; clear ho1 hB1)
          refine wpAny_ready (rs := [11]) (by kernel_rfl) (by simp) ?_
          refine AllReady.cons rfl (fun K hK => ?_) (AllReady.nil)
          go_simp
          refine hK _ _ ?_
          clear hK K
          refine wpAny_ready (rs := [12]) (by kernel_rfl) (by simp) ?_
          refine AllReady.cons rfl (fun K hK => ?_) (AllReady.nil)
          go_simp
          go_wp2_with (go_at_call 48; (with_reducible refine (Ref.join_any v1 _ gv1 _ w1 (Slw.ofOwn HO1.out) (HP.out.glob.below HB1.out) HJl.out).mono ?_); rintro e w2 ⟨v2, rfl, ho2, hB2⟩; have HE := Lib.hid (HP.out.joined HB1.out ho2 hB2); have e2 := HE.out.1.cell 1; have f2 := HE.out.1.free 1; simp only [List.getElem?_toArray, List.getElem?_cons_zero, List.getElem?_cons_succ] at e2; have hd2 := HE.out.1.lt; obtain ⟨a2, n2, k2, rfl⟩ : ∃ a n c, v2 = .slice a n c := (by obtain ⟨a, c, hv⟩ := Glob.own_len ho2; exact ⟨a, _, c, hv⟩); clear ho2 hB2)
          refine wpAny_take (i := 13) (v := ?_) rfl (by kernel_rfl) (by kernel_rfl) (by kernel_rfl) (fun _ _ _ h => h) (Or.inl ⟨by kernel_rfl, ?_⟩) ?_
          rotate_left
          · intro w'; go_simp; try (with_reducible rfl)
          refine wpAny_take (i := 14) (v := ?_) rfl (by kernel_rfl) (by kernel_rfl) (by kernel_rfl) (fun _ _ _ h => h) (Or.inl ⟨by kernel_rfl, ?_⟩) ?_
          rotate_left
          · intro w'; go_simp; try (with_reducible rfl)
          refine wpAny_ready (rs := [15]) (by kernel_rfl) (by simp) ?_
          refine AllReady.cons rfl (fun K hK => ?_) (AllReady.nil)
          go_simp
          refine hK _ _ ?_
          clear hK K
          refine wpAny_done (by kernel_rfl) ?_ _
          go_wp2_with fail
          go_roundw
          case rel =>
            have hI := HIk.out
            subst hI
            refine ⟨k + 1, .slice a2 n2 k2, by omega, by go_num, ?_, HO.out.trans HE.out.2.2.1, fun j hj => ?_⟩
            · rw [dj]; exact HE.out.2.1
            · rcases HE.out.2.2.2 j hj with h' | h'
              · exact HGv.out j h'
              · exact .inr (Nat.le_trans HO.out.size h')
          case measure => have hI := HIk.out; simp [intOf]; omega
        · go_simp
          refine hK _ _ ?_
          clear hK K
          refine wpAny_ready (rs := [7]) (by kernel_rfl) (by simp) ?_
          refine AllReady.cons rfl (fun K hK => ?_) (AllReady.nil)
          go_simp
          go_wp2_with (go_at_call 37; (with_reducible refine HLs.out.mono ?_); rintro e w1 ⟨v1, rfl, ho1, hB1⟩; have HO1 := Lib.hid ho1; have HB1 : Hid (Below wr.heap.size wr w1) := undrew hB1; have e1 : w1.cell? ⟨d, 1, none⟩ = some gv1 := (HB1.out.cell (p := ⟨d, 1, none⟩) HP.out.blk.lt).trans c1; clear ho1 hB1)
          refine wpAny_ready (rs := [12]) (by kernel_rfl) (by simp) ?_
          refine AllReady.cons rfl (fun K hK => ?_) (AllReady.nil)
          go_simp
          go_wp2_with (go_at_call 48; (with_reducible refine (Ref.join_any v1 _ gv1 _ w1 (Slw.ofOwn HO1.out) (HP.out.glob.below HB1.out) HJl.out).mono ?_); rintro e w2 ⟨v2, rfl, ho2, hB2⟩; have HE := Lib.hid (HP.out.joined HB1.out ho2 hB2); have e2 := HE.out.1.cell 1; have f2 := HE.out.1.free 1; simp only [List.getElem?_toArray, List.getElem?_cons_zero, List.getElem?_cons_succ] at e2; have hd2 := HE.out.1.lt; obtain ⟨a2, n2, k2, rfl⟩ : ∃ a n c, v2 = .slice a n c := (by obtain ⟨a, c, hv⟩ := Glob.own_len ho2; exact ⟨a, _, c, hv⟩); clear ho2 hB2)
          refine wpAny_take (i := 13) (v := ?_) rfl (by kernel_rfl) (by kernel_rfl) (by kernel_rfl) (fun _ _ _ h => h) (Or.inl ⟨by kernel_rfl, ?_⟩) ?_
          rotate_left
          · intro w'; go_simp; try (with_reducible rfl)
          refine wpAny_take (i := 14) (v := ?_) rfl (by kernel_rfl) (by kernel_rfl) (by kernel_rfl) (fun _ _ _ h => h) (Or.inl ⟨by kernel_rfl, ?_⟩) ?_
          rotate_left
          · intro w'; go_simp; try (with_reducible rfl)
          refine wpAny_ready (rs := [15]) (by kernel_rfl) (by simp) ?_
          refine AllReady.cons rfl (fun K hK => ?_) (AllReady.nil)
          go_simp
          refine hK _ _ ?_
          clear hK K
          refine wpAny_done (by kernel_rfl) ?_ _
          go_wp2_with fail
          go_roundw
          case rel =>
            have hI := HIk.out
            subst hI
            refine ⟨k + 1, .slice a2 n2 k2, by omega, by go_num, ?_, HO.out.trans HE.out.2.2.1, fun j hj => ?_⟩
            · rw [dj]; exact HE.out.2.1
            · rcases HE.out.2.2.2 j hj with h' | h'
              · exact HGv.out j h'
              · exact .inr (Nat.le_trans HO.out.size h')
          case measure => have hI := HIk.out; simp [intOf]; omega
      · go_simp
        refine hK _ _ ?_
        clear hK K
        refine wpAny_ready (rs := [4]) (by kernel_rfl) (by simp) ?_
        refine AllReady.cons rfl (fun K hK => ?_) (AllReady.nil)
        go_simp
        refine hK _ _ ?_
        clear hK K
        refine wpAny_take (i := 6) (v := ?_) rfl (by kernel_rfl) (by kernel_rfl) (by kernel_rfl) (fun _ _ _ h => h) (Or.inl ⟨by kernel_rfl, ?_⟩) ?_
        rotate_left
        · intro w'; go_simp; try (with_reducible rfl)
        refine wpAny_ready (rs := [7]) (by kernel_rfl) (by simp) ?_
        refine AllReady.cons rfl (fun K hK => ?_) (AllReady.nil)
        go_simp
        go_wp2_with (go_at_call 37; (with_reducible refine HLs.out.mono ?_); rintro e w1 ⟨v1, rfl, ho1, hB1⟩; have HO1 := Lib.hid ho1; have HB1 : Hid (Below wr.heap.size wr w1) := undrew hB1; have e1 : w1.cell? ⟨d, 1, none⟩ = some gv1 := (HB1.out.cell (p := ⟨d, 1, none⟩) HP.out.blk.lt).trans c1; clear ho1 hB1)
        refine wpAny_ready (rs := [12]) (by kernel_rfl) (by simp) ?_
        refine AllReady.cons rfl (fun K hK => ?_) (AllReady.nil)
        go_simp
        go_wp2_with (go_at_call 48; (with_reducible refine (Ref.join_any v1 _ gv1 _ w1 (Slw.ofOwn HO1.out) (HP.out.glob.below HB1.out) HJl.out).mono ?_); rintro e w2 ⟨v2, rfl, ho2, hB2⟩; have HE := Lib.hid (HP.out.joined HB1.out ho2 hB2); have e2 := HE.out.1.cell 1; have f2 := HE.out.1.free 1; simp only [List.getElem?_toArray, List.getElem?_cons_zero, List.getElem?_cons_succ] at e2; have hd2 := HE.out.1.lt; obtain ⟨a2, n2, k2, rfl⟩ : ∃ a n c, v2 = .slice a n c := (by obtain ⟨a, c, hv⟩ := Glob.own_len ho2; exact ⟨a, _, c, hv⟩); clear ho2 hB2)
        refine wpAny_take (i := 13) (v := ?_) rfl (by kernel_rfl) (by kernel_rfl) (by kernel_rfl) (fun _ _ _ h => h) (Or.inl ⟨by kernel_rfl, ?_⟩) ?_
        rotate_left
        · intro w'; go_simp; try (with_reducible rfl)
        refine wpAny_take (i := 14) (v := ?_) rfl (by kernel_rfl) (by kernel_rfl) (by kernel_rfl) (fun _ _ _ h => h) (Or.inl ⟨by kernel_rfl, ?_⟩) ?_
        rotate_left
        · intro w'; go_simp; try (with_reducible rfl)
        refine wpAny_ready (rs := [15]) (by kernel_rfl) (by simp) ?_
        refine AllReady.cons rfl (fun K hK => ?_) (AllReady.nil)
        go_simp
        refine hK _ _ ?_
        clear hK K
        refine wpAny_done (by kernel_rfl) ?_ _
        go_wp2_with fail
        go_roundw
        case rel =>
          have hI := HIk.out
          subst hI
          refine ⟨k + 1, .slice a2 n2 k2, by omega, by go_num, ?_, HO.out.trans HE.out.2.2.1, fun j hj => ?_⟩
          · rw [dj]; exact HE.out.2.1
          · rcases HE.out.2.2.2 j hj with h' | h'
            · exact HGv.out j h'
            · exact .inr (Nat.le_trans HO.out.size h')
        case measure => have hI := HIk.out; simp [intOf]; omega
    · have hd : decide (m + k < n) = false := by simpa using hlt
      obtain rfl : k = n - m := by omega
      clear hP hO hGv
      go_wp2_with fail
      obtain ⟨wq, rfl⟩ : ∃ wq, wq = wr := ⟨wr, rfl⟩
      go_loopw [6, 7] (fun lv i wx => ∃ (k2 : Nat), k2 ≤ m ∧ i = .int .i64 k2 ∧ wx.ownsRow wq.heap.size 54 3 lv k2 (xs (R2 R n) (V2 vs n) k2) ∧ Below wq.heap.size wq wx) (fun _ i _ => m - (intOf i).toNat)
      case atStart => exact ⟨0, Nat.zero_le _, rfl, World.ownsRow_nil _ _ 54 3, Below.refl _ _⟩
      case round =>
        obtain ⟨k2, hk2, rfl, hRow, hBx⟩ := hrel
        have HRow := Lib.hid hRow
        have HBx := Lib.hid hBx
        have hPx := HP.out.below hBx
        have x0 := hPx.blk.cell 0
        have xf := hPx.blk.free 0
        have hxl := hPx.blk.lt
        simp only [List.getElem?_toArray, List.getElem?_cons_zero] at x0
        have hsz := hBx.size
        by_cases hlt2 : k2 < m
        · have hd2 : decide (k2 < m) = true := by simpa using hlt2
          by_cases hkn : k2 < n
          · have hd3 : decide (k2 < n) = true := by simpa using hkn
            have hR := hPx.ring k2 hkn
            have y0 := hR.cell0
            have y1 := hR.cell1
            have y2 := hR.cell2
            obtain ⟨av, nv, cv, hv⟩ : ∃ a n c, vs k2 = .slice a n c := by obtain ⟨a, c, hv⟩ := hR.rd.len; exact ⟨a, _, c, hv⟩
            rw [hv] at y2
            have HX : Hid ((R2 R n k2).nx = (R k2).nx ∧ V2 vs n k2 = .slice av nv cv) := by
              show _ ∧ _
              unfold R2 V2
              rw [if_pos hkn, if_pos hkn]
              exact ⟨rfl, hv⟩
            generalize (R k2).nx = nxk at *
            clear hRow hBx hPx hR hv c0 c1
            go_wp2_with (at_builtin; refine appV Try.underlying70 info54 rfl (by decide) (by decide) wq.heap.size _ rfl _ _ rfl u6 k2 (xs (R2 R n) (V2 vs n) k2) ⟨wr.heap.size, 0, none⟩ 1 [.int .i64 256, .int .i64 nxk, .slice av nv cv] rfl rfl (.inl (rowv_below HRow.out (below_alloc (Below.refl _ _) _))) rfl (new3 wr _ _ _ 54) (one3 _ _ _ _) (by simp; omega) (by omega) ?_; intro v' w2 hA; have HA := Lib.hid hA; clear hA)
            refine ⟨?_, ?measure⟩
            (repeat apply Exists.intro)
            refine ⟨?rel, rfl⟩
            case rel =>
              refine ⟨k2 + 1, by omega, by go_num, ?_, ?_⟩
              · rw [xs, HX.out.1, HX.out.2]; exact HA.out.1
              · exact below_grown (below_alloc HBx.out _) HA.out.2.1 (fun j hj => (World.ownsRow.lt HRow.out j hj).1)
            case measure => simp [intOf]; omega
          · have hd3 : decide (k2 < n) = false := by simpa using hkn
            have HX : Hid ((R2 R n k2).nx = 0 ∧ V2 vs n k2 = .slice none 0 0) := by
              show _ ∧ _
              unfold R2 V2
              rw [if_neg hkn, if_neg hkn]
              exact ⟨rfl, rfl⟩
            clear hRow hBx hPx c0 c1
            go_wp2_with (at_builtin; refine appV Try.underlying70 info54 rfl (by decide) (by decide) wq.heap.size _ rfl _ _ rfl u6 k2 (xs (R2 R n) (V2 vs n) k2) ⟨wr.heap.size, 0, none⟩ 1 [.int .i64 256, .int .i64 0, .slice none 0 0] rfl rfl (.inl (rowv_below HRow.out (below_alloc (Below.refl _ _) _))) rfl (new3 wr _ _ _ 54) (one3 _ _ _ _) (by simp; omega) (by omega) ?_; intro v' w2 hA; have HA := Lib.hid hA; clear hA)
            refine ⟨?_, ?measure⟩
            (repeat apply Exists.intro)
            refine ⟨?rel, rfl⟩
            case rel =>
              refine ⟨k2 + 1, by omega, by go_num, ?_, ?_⟩
              · rw [xs, HX.out.1, HX.out.2]; exact HA.out.1
              · exact below_grown (below_alloc HBx.out _) HA.out.2.1 (fun j hj => (World.ownsRow.lt HRow.out j hj).1)
            case measure => simp [intOf]; omega
        · have hd2 : decide (k2 < m) = false := by simpa using hlt2
          obtain rfl : k2 = m := by omega
          obtain ⟨g', cap', hlv⟩ : ∃ g' cap', u6 = .slice (some ⟨g', 0, none⟩) k2 cap' := by
            rcases rowv_open hRow with ⟨_, h0⟩ | ⟨g, cap, h0, _⟩
            · omega
            · exact ⟨g, cap, h0⟩
          subst hlv
          have HEnd := Lib.hid (dres_end (L := L) HP.out HO.out HGv.out hBx rfl hRow)
          clear hRow hBx hPx c0 c1
          go_wp2_with fail
          go_ret
          exact HEnd.out.2
end Go.Proofs.Ytgahkcbkpnehfaa.Procs
