/- Chapter 16: an act on the queue and on the list beside it. -/
import Derived.Test.YtgahkcbkpnehfaaGlobRef
import Derived.Test.YtgahkcbkpnehfaaQueueFront
import Derived.Deep.RegionHeld3
import Derived.Deep.DrawnRows
import Derived.BigQuiet
namespace Go.Proofs.Ytgahkcbkpnehfaa.Glob
open Go.RowKit Go.Esc
set_option linter.unusedVariables false

set_option maxHeartbeats 2000000 in
theorem put_q2 (b : Nat) (v1 v2 : Value) (f k : List Int) (u : Value) (l : List Int) (w : World) (h : Q w b v1 v2 f k) (hu : Slw w u l) (ho : l ≠ [] → Off (Qf b v1 v2) u) (hl : f.length + k.length + l.length < 100000000) :
    Calls Try.prog 17 #[.pointer (some ⟨b, 0, none⟩), u] w (PutPost b v1 v2 f (k ++ right l) w) := by
  obtain ⟨a, cap, rfl⟩ := hu.len
  have HU := Lib.hid hu
  have HO := Lib.hid ho
  clear ho
  have hb0 := h.1.lt
  go_enter Try.func17, Try.ntmps17
  go_wp2
  go_loopw [11] (fun i wr => ∃ (q : Nat) (v2' : Value), q ≤ l.length ∧ i = .int .i64 q ∧ Q wr b v1 v2' f (k ++ (l.take q).filter (fun p => decide (1 ≤ p))) ∧ Only (Qf b v1 v2) w wr ∧ Gr (Qf b v1 v2) (Qf b v1 v2') w) (fun i _ => l.length - (intOf i).toNat)
  case atStart => exact ⟨0, v2, Nat.zero_le _, rfl, by simpa using h, Only.refl _ _, Gr.refl _ _⟩
  case round =>
    obtain ⟨q, v2', hq, rfl, hQ, hon, hgr⟩ := hrel
    have hfl : ((l.take q).filter (fun p => decide (1 ≤ p))).length ≤ q := Nat.le_trans (List.length_filter_le _ _) (by rw [List.length_take]; omega)
    obtain ⟨kk, HK⟩ : ∃ kk, Hid (k ++ (l.take q).filter (fun p => decide (1 ≤ p)) = kk) := ⟨_, rfl⟩
    rw [HK.out] at hQ
    have hkk : kk.length ≤ k.length + q := by rw [← HK.out]; simp; omega
    clear hfl
    by_cases hlt : q < l.length
    · have hu2 := HU.out.only hon (HO.out (by rintro rfl; simp at hlt))
      rcases hu2.open with ⟨_, h0⟩ | ⟨_, _, _, h0⟩ | ⟨bu, off, cap', he, _, _, hbu, hcells⟩
      · simp [h0] at hlt
      · simp [h0] at hlt
      simp only [Value.slice.injEq] at he
      obtain ⟨rfl, _, rfl⟩ := he
      have cu := hcells q hlt
      have HF := Lib.hid (filter1_snoc l q hlt)
      clear hcells hu2
      generalize l[q]?.getD 0 = x at *
      have c1 := hQ.1.cell 1
      have f1 := hQ.1.free 1
      have hbl := hQ.1.lt
      simp only [List.getElem?_toArray, List.getElem?_cons_zero, List.getElem?_cons_succ] at c1
      by_cases hx : 1 ≤ x
      · rw [if_pos hx] at HF
        have HQ := Lib.hid hQ
        have hown := hQ.2.2.1
        have HOwn := Lib.hid hown
        clear hQ hown
        have hlen2 : kk.length + [x].length < 100000000 := by simp; omega
        have HLen := Lib.hid hlen2
        clear hlen2
        go_wp2_with (at_builtin; refine appX Try.underlying25 info3 0 _ rfl _ _ rfl _ _ _ [x] rfl rfl (HOwn.out.alloc _) (Slw.new1 wr x) (Nat.zero_le _) HLen.out ?_; intro v' w1 hA; obtain ⟨g', cap'', rfl⟩ := hA.some; obtain ⟨hb1, hQ1, hO1, hG1⟩ := HQ.out.putBack hA; have d1 := hb1.cell 1; simp only [List.getElem?_toArray, List.getElem?_cons_zero, List.getElem?_cons_succ] at d1; have e1 := hb1.free 1; have HQ1 := Lib.hid hQ1; clear hQ1 hb1)
        go_roundw
        case rel => exact ⟨q + 1, _, by omega, by go_num, by rw [HF.out, ← List.append_assoc, HK.out]; exact HQ1.out, hon.andThen hO1 (fun j hj hs => (hgr j hs).elim id (fun x => by omega)), hgr.trans hG1 hon.size⟩
        case measure => simp [intOf]; omega
      · rw [if_neg hx, List.append_nil] at HF
        have HQ := Lib.hid hQ
        clear hQ
        go_wp2
        go_roundw
        case rel => exact ⟨q + 1, _, by omega, by go_num, by rw [HF.out, HK.out]; exact HQ.out, hon, hgr⟩
        case measure => simp [intOf]; omega
    · obtain rfl : q = l.length := by omega
      rw [List.take_length] at HK
      have HQ := Lib.hid hQ
      clear hQ
      go_wp2_with fail
      refine (len_q _ _ _ _ _ _ HQ.out (by omega)).mono ?_
      rintro e w2 ⟨rfl, n, rfl⟩
      go_wp2_with fail
      go_ret
      exact ⟨by rw [show k ++ right l = kk from HK.out]; rfl, v2', by rw [show k ++ right l = kk from HK.out]; exact HQ.out.drewN n, hon.drewN n, hgr⟩


theorem put_any2 (b : Nat) (S : Nat → Prop) (L : List Int) (u : Value) (l : List Int) (w : World) (h : Queue w b S L) (hu : Slw w u l) (ho : l ≠ [] → Off S u) (hl : L.length + l.length < 10000000) :
    Calls Try.prog 17 #[.pointer (some ⟨b, 0, none⟩), u] w (PutP b S (L ++ right l) w) := by
  obtain ⟨v1, v2, f, k, h, rfl, rfl⟩ := h
  refine (put_q2 b v1 v2 f k u l w h hu ho (by simp at hl; omega)).mono ?_
  rintro e w' ⟨rfl, v2', hQ, hO, hG⟩
  exact ⟨by simp, _, ⟨v1, v2', f, k ++ right l, hQ, by simp, rfl⟩, hO, hG⟩
theorem right_rev (l : List Int) : (right l.reverse).reverse = right l := by simp [right]
theorem front_any (b : Nat) (S : Nat → Prop) (L : List Int) (u : Value) (l : List Int) (w : World) (h : Queue w b S L) (hu : Slw w u l) (ho : l ≠ [] → Off S u) (hl : L.length + l.length < 1000000) :
    Calls Try.prog 34 #[.pointer (some ⟨b, 0, none⟩), u] w (PutP b S (right l ++ L) w) := by
  obtain ⟨v1, v2, f, k, h, rfl, rfl⟩ := h
  refine (front_q b v1 v2 f k u l w h hu ho (by simp at hl; omega)).mono ?_
  rintro e w' ⟨rfl, v1', hQ, hO, hG⟩
  refine ⟨?_, _, ⟨v1', v2, f ++ right l.reverse, k, hQ, by rw [List.reverse_append, right_rev, List.append_assoc], rfl⟩, hO, hG⟩
  rw [← right_rev l]
  simp; omega

/-- The queue and the list beside it, all in memory that is new to w0. -/
structure St (w0 w : World) (b : Nat) (lv : Value) (L : List Int) (S : Nat → Prop) : Prop where
  queue : Queue w b S L
  lst : Slw w lv L
  off : L ≠ [] → Off S lv
  new : ∀ j, S j → w0.heap.size ≤ j
  bel : Below w0.heap.size w0 w
theorem St.below {w0 w w' : World} {b : Nat} {lv : Value} {L : List Int} {S : Nat → Prop} (h : St w0 w b lv L S) (hb : Below w.heap.size w w') : St w0 w' b lv L S :=
  ⟨h.queue.below hb, h.lst.below hb, h.off, h.new, below_below h.bel hb⟩
theorem St.step {w0 w w1 w3 : World} {b : Nat} {lv v : Value} {L M : List Int} {S S3 : Nat → Prop} (h : St w0 w b lv L S) (hb : Below w.heap.size w w1) (hv : OwnI w1 w.heap.size v M) (hQ : Queue w3 b S3 M) (hO : Only S w1 w3) (hG : Gr S S3 w1) : St w0 w3 b v M S3 := by
  have ho : Off S v := fun j hj hs => by
    have := (hv.lt j hj).1
    have := h.queue.lt hs
    omega
  exact ⟨hQ, Slw.ofOwn (hv.off hO ho), fun _ => Off.gr ho hG (fun j hj => (hv.lt j hj).2), fun j hj => (hG j hj).elim (h.new j) (fun x => by have := h.bel.size; have := hb.size; omega), below_only (below_below h.bel hb) hO h.new⟩
theorem St.offu {w0 w : World} {b : Nat} {lv u : Value} {L l : List Int} {S : Nat → Prop} (h : St w0 w b lv L S) (hu : Slw w0 u l) : l ≠ [] → Off S u := fun hl j hj hs => by
  have := hu.lt hl j hj
  have := h.new j hs
  omega

def ActP (w0 : World) (b : Nat) (L : List Int) (e : Ending) (w' : World) : Prop := ∃ lv S, e = .returned (.tuple #[lv, .bool true]) ∧ St w0 w' b lv L S

theorem slw_empty {w w' : World} {v : Value} (h : Slw w v []) : Slw w' v [] := by
  rcases h.open with ⟨rfl, _⟩ | ⟨ad, cap, rfl, _⟩ | ⟨b, off, cap, rfl, h0, _⟩
  · exact Slw.nil _
  · exact Slw.none0 _ _ _
  · exact absurd rfl h0
set_option maxRecDepth 100000 in
set_option maxHeartbeats 4000000 in
theorem act_put (w0 w : World) (b : Nat) (lv : Value) (L : List Int) (S : Nat → Prop) (A B : Int) (u : Value) (l : List Int) (h : St w0 w b lv L S) (hu : Slw w0 u l) (hl : L.length + l.length < 10000) :
    Calls Try.prog 31 #[.pointer (some ⟨b, 0, none⟩), lv, .agg #[.int .i64 0, .int .i64 A, .int .i64 B, u]] w (ActP w0 b (L ++ right l)) := by
  have h' := h.below (below_alloc (Below.refl _ w) (.cells #[.int .i64 0, .int .i64 A, .int .i64 B, u] 48))
  have HX : Hid (Blk (w.alloc (.cells #[.int .i64 0, .int .i64 A, .int .i64 B, u] 48)) w.heap.size #[.int .i64 0, .int .i64 A, .int .i64 B, u] 48) := Blk.new _ _ _
  have HU := Lib.hid hu
  have HH := Lib.hid h'
  have hrl := right_len l
  clear h h' hu
  go_enter Try.func31, Try.ntmps31
  go_wp2_with fail
  obtain ⟨wp, hwp⟩ : ∃ wp, wp = w.alloc (.cells #[.int .i64 0, .int .i64 A, .int .i64 B, u] 48) := ⟨_, rfl⟩
  rw [← hwp] at HX HH ⊢
  clear hwp
  refine (right_any u l wp (HU.out.below HH.out.bel) (by omega)).mono ?_
  rintro e w1 ⟨v1, rfl, ho1, hb1⟩
  have HO1 := Lib.hid ho1
  have HB1 := Lib.hid hb1
  clear ho1 hb1
  go_wp2_with fail
  refine (Ref.join_any lv L v1 (right l) w1 (HH.out.lst.below HB1.out) (Slw.ofOwn HO1.out) (by omega)).mono ?_
  rintro e w2 ⟨v2, rfl, ho2, hb2⟩
  have HB2 : Hid (Below wp.heap.size wp w2) := below_below HB1.out hb2
  have HO2 : Hid (OwnI w2 wp.heap.size v2 (L ++ right l)) := ho2.mono HB1.out.size
  obtain ⟨M, HM⟩ : ∃ M, Hid (L ++ right l = M) := ⟨_, rfl⟩
  have c3 := (HX.out.below HB2.out HX.out.lt).cell 3
  simp only [List.getElem?_toArray, List.getElem?_cons_zero, List.getElem?_cons_succ] at c3
  rw [HM.out] at HO2 ⊢
  obtain ⟨a2, p2, rfl⟩ := own_len HO2.out
  have hmm : ((M.length : Int) == (M.length : Int)) = true := by simp
  clear ho2 hb2
  generalize hn : (M.length : Int) = n at *
  go_wp2_with fail
  refine (put_any2 b S L u l w2 (HH.out.queue.below HB2.out) (HU.out.below (below_below HH.out.bel HB2.out)) (HH.out.offu HU.out) (by omega)).mono ?_
  rintro e w3 ⟨rfl, S3, hQ3, hO3, hG3⟩
  rw [HM.out] at hQ3 ⊢
  have HF := Lib.hid (HH.out.step HB2.out HO2.out hQ3 hO3 hG3)
  clear hQ3 hO3 hG3
  go_wp2_with fail
  go_ret2
  exact ⟨_, S3, rfl, by rw [HM.out]; exact HF.out⟩
set_option maxRecDepth 100000 in
set_option maxHeartbeats 4000000 in
theorem act_front (w0 w : World) (b : Nat) (lv : Value) (L : List Int) (S : Nat → Prop) (A B : Int) (u : Value) (l : List Int) (h : St w0 w b lv L S) (hu : Slw w0 u l) (hl : L.length + l.length < 10000) :
    Calls Try.prog 31 #[.pointer (some ⟨b, 0, none⟩), lv, .agg #[.int .i64 1, .int .i64 A, .int .i64 B, u]] w (ActP w0 b (right l ++ L)) := by
  have h' := h.below (below_alloc (Below.refl _ w) (.cells #[.int .i64 1, .int .i64 A, .int .i64 B, u] 48))
  have HX : Hid (Blk (w.alloc (.cells #[.int .i64 1, .int .i64 A, .int .i64 B, u] 48)) w.heap.size #[.int .i64 1, .int .i64 A, .int .i64 B, u] 48) := Blk.new _ _ _
  have HU := Lib.hid hu
  have HH := Lib.hid h'
  have hrl := right_len l
  clear h h' hu
  go_enter Try.func31, Try.ntmps31
  go_wp2_with fail
  obtain ⟨wp, hwp⟩ : ∃ wp, wp = w.alloc (.cells #[.int .i64 1, .int .i64 A, .int .i64 B, u] 48) := ⟨_, rfl⟩
  rw [← hwp] at HX HH ⊢
  clear hwp
  refine (right_any u l wp (HU.out.below HH.out.bel) (by omega)).mono ?_
  rintro e w1 ⟨v1, rfl, ho1, hb1⟩
  have HO1 := Lib.hid ho1
  have HB1 := Lib.hid hb1
  clear ho1 hb1
  go_wp2_with fail
  refine (Ref.join_any v1 (right l) lv L w1 (Slw.ofOwn HO1.out) (HH.out.lst.below HB1.out) (by omega)).mono ?_
  rintro e w2 ⟨v2, rfl, ho2, hb2⟩
  have HB2 : Hid (Below wp.heap.size wp w2) := below_below HB1.out hb2
  have HO2 : Hid (OwnI w2 wp.heap.size v2 (right l ++ L)) := ho2.mono HB1.out.size
  obtain ⟨M, HM⟩ : ∃ M, Hid (right l ++ L = M) := ⟨_, rfl⟩
  have c3 := (HX.out.below HB2.out HX.out.lt).cell 3
  simp only [List.getElem?_toArray, List.getElem?_cons_zero, List.getElem?_cons_succ] at c3
  rw [HM.out] at HO2 ⊢
  obtain ⟨a2, p2, rfl⟩ := own_len HO2.out
  have hmm : ((M.length : Int) == (M.length : Int)) = true := by simp
  clear ho2 hb2
  generalize hn : (M.length : Int) = n at *
  go_wp2_with fail
  refine (front_any b S L u l w2 (HH.out.queue.below HB2.out) (HU.out.below (below_below HH.out.bel HB2.out)) (HH.out.offu HU.out) (by omega)).mono ?_
  rintro e w3 ⟨rfl, S3, hQ3, hO3, hG3⟩
  rw [HM.out] at hQ3 ⊢
  have HF := Lib.hid (HH.out.step HB2.out HO2.out hQ3 hO3 hG3)
  clear hQ3 hO3 hG3
  go_wp2_with fail
  go_ret2
  exact ⟨_, S3, rfl, by rw [HM.out]; exact HF.out⟩
set_option maxRecDepth 100000 in
set_option maxHeartbeats 4000000 in
theorem act_rem (w0 w : World) (b : Nat) (lv : Value) (L : List Int) (S : Nat → Prop) (kind A B : Int) (u : Value) (h : St w0 w b lv L S) (hl : L.length < 10000) (hk : kind < 0 ∨ 3 < kind) :
    Calls Try.prog 31 #[.pointer (some ⟨b, 0, none⟩), lv, .agg #[.int .i64 kind, .int .i64 A, .int .i64 B, u]] w (ActP w0 b (L.erase A)) := by
  have k0 : (kind == 0) = false := by rw [beq_eq_false_iff_ne]; omega
  have k1 : (kind == 1) = false := by rw [beq_eq_false_iff_ne]; omega
  have k2 : (kind == 2) = false := by rw [beq_eq_false_iff_ne]; omega
  have k3 : (kind == 3) = false := by rw [beq_eq_false_iff_ne]; omega
  have h' := h.below (below_alloc (Below.refl _ w) (.cells #[.int .i64 kind, .int .i64 A, .int .i64 B, u] 48))
  have HX : Hid (Blk (w.alloc (.cells #[.int .i64 kind, .int .i64 A, .int .i64 B, u] 48)) w.heap.size #[.int .i64 kind, .int .i64 A, .int .i64 B, u] 48) := Blk.new _ _ _
  have HH := Lib.hid h'
  clear h h' hk
  go_enter Try.func31, Try.ntmps31
  go_wp2_with fail
  obtain ⟨wp, hwp⟩ : ∃ wp, wp = w.alloc (.cells #[.int .i64 kind, .int .i64 A, .int .i64 B, u] 48) := ⟨_, rfl⟩
  rw [← hwp] at HX HH ⊢
  clear hwp
  refine (Ref.remove_any lv L A wp HH.out.lst (by omega)).mono ?_
  rintro e w1 ⟨v1, rfl, hs1, hb1, hg1, hl1⟩
  have HS1 := Lib.hid hs1
  have HB1 := Lib.hid hb1
  have HG1 := Lib.hid hg1
  have HL1 := Lib.hid hl1
  have c1 := (HX.out.below HB1.out HX.out.lt).cell 1
  simp only [List.getElem?_toArray, List.getElem?_cons_zero, List.getElem?_cons_succ] at c1
  clear hs1 hb1 hg1 hl1
  generalize hq : decide (A ∈ L) = q at *
  have hqq : (q == q) = true := by simp
  go_wp2_with fail
  refine (qremove_any b S L A w1 (HH.out.queue.below HB1.out) (by omega)).mono ?_
  rintro e w3 ⟨rfl, S3, hQ3, hO3, hG3⟩
  rw [hq]
  have HF : Hid (St w0 w3 b v1 (L.erase A) S3) := by
    have ho : L.erase A ≠ [] → Off S v1 := fun hne j hj hs => by
      have hL : L ≠ [] := by rintro rfl; simp at hne
      rcases HG1.out j hj with h1 | h1
      · exact HH.out.off hL j h1 hs
      · have := HH.out.queue.lt hs; omega
    have hs3 : Slw w3 v1 (L.erase A) := by
      by_cases hne : L.erase A = []
      · have := HS1.out
        rw [hne] at this ⊢
        exact slw_empty this
      · exact HS1.out.only hO3 (ho hne)
    exact ⟨hQ3, hs3, fun hne => Off.gr (ho hne) hG3 (HS1.out.lt hne), fun j hj => (hG3 j hj).elim (HH.out.new j) (fun x => by have := HH.out.bel.size; have := HB1.out.size; omega), below_only (below_below HH.out.bel HB1.out) hO3 HH.out.new⟩
  clear hQ3 hO3 hG3 hq
  go_wp2_with fail
  go_ret2
  exact ⟨_, S3, rfl, HF.out⟩

end Go.Proofs.Ytgahkcbkpnehfaa.Glob
