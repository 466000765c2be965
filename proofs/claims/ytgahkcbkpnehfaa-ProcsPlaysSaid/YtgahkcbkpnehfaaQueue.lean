/- Chapter 16: the contracts of the queue: Len, Put, turn, Get. -/
import Derived.Test.YtgahkcbkpnehfaaMany
import Derived.Test.YtgahkcbkpnehfaaAppX
import Derived.WalkMore
import Derived.Deep.LoopGhost
import Derived.RegionTactic
import Derived.BigRegion
namespace Go.Proofs.Ytgahkcbkpnehfaa.Glob
open Go.RowKit Go.Esc

theorem info3 : (Try.prog.info? 3).map (fun i => (i.zero, i.size, i.bytes)) = some (some (.int .i64 0), 1, 8) := by kernel_rfl

/-- The queue in memory, at block b: front f (the last one goes first), back k. -/
def Q (w : World) (b : Nat) (v1 v2 : Value) (f k : List Int) : Prop :=
  Blk w b #[v1, v2] 75 ∧ OwnI w 0 v1 f ∧ OwnI w 0 v2 k ∧ v1.ownBlock ≠ some b ∧ v2.ownBlock ≠ some b ∧ ∀ j, v1.ownBlock = some j → v2.ownBlock ≠ some j
def Qf (b : Nat) (v1 v2 : Value) (j : Nat) : Prop := j = b ∨ v1.ownBlock = some j ∨ v2.ownBlock = some j

theorem Q.lt {w : World} {b : Nat} {v1 v2 : Value} {f k : List Int} (h : Q w b v1 v2 f k) {j : Nat} (hj : Qf b v1 v2 j) : j < w.heap.size := by
  rcases hj with rfl | hj | hj
  · exact h.1.lt
  · exact (h.2.1.lt j hj).2
  · exact (h.2.2.1.lt j hj).2
theorem Q.only {S : Nat → Prop} {w w' : World} {b : Nat} {v1 v2 : Value} {f k : List Int} (h : Q w b v1 v2 f k) (o : Only S w w') (hs : ∀ j, Qf b v1 v2 j → ¬ S j) : Q w' b v1 v2 f k :=
  ⟨h.1.only o (hs b (.inl rfl)), h.2.1.off o (fun j hj => hs j (.inr (.inl hj))), h.2.2.1.off o (fun j hj => hs j (.inr (.inr hj))), h.2.2.2⟩
theorem Q.below {w w' : World} {b : Nat} {v1 v2 : Value} {f k : List Int} (h : Q w b v1 v2 f k) (hb : Below w.heap.size w w') : Q w' b v1 v2 f k :=
  h.only (S := fun _ => False) ((Only.refl _ w).below hb) (fun _ _ x => x)
theorem Q.drewN {w : World} {b : Nat} {v1 v2 : Value} {f k : List Int} (h : Q w b v1 v2 f k) (n : Nat) : Q (w.drewN n) b v1 v2 f k := h
theorem Q.drew {w : World} {b : Nat} {v1 v2 : Value} {f k : List Int} (h : Q w b v1 v2 f k) : Q w.drew b v1 v2 f k := h

/-- The list, its blocks being S. -/
def Queue (w : World) (b : Nat) (S : Nat → Prop) (L : List Int) : Prop := ∃ v1 v2 f k, Q w b v1 v2 f k ∧ L = f.reverse ++ k ∧ S = Qf b v1 v2
theorem Queue.lt {w : World} {b : Nat} {S : Nat → Prop} {L : List Int} (h : Queue w b S L) {j : Nat} (hj : S j) : j < w.heap.size := by
  obtain ⟨v1, v2, f, k, h, _, rfl⟩ := h; exact h.lt hj
theorem Queue.only {S T : Nat → Prop} {w w' : World} {b : Nat} {L : List Int} (h : Queue w b S L) (o : Only T w w') (hs : ∀ j, S j → ¬ T j) : Queue w' b S L := by
  obtain ⟨v1, v2, f, k, h, hl, rfl⟩ := h; exact ⟨v1, v2, f, k, h.only o hs, hl, rfl⟩
theorem Queue.below {S : Nat → Prop} {w w' : World} {b : Nat} {L : List Int} (h : Queue w b S L) (hb : Below w.heap.size w w') : Queue w' b S L := by
  obtain ⟨v1, v2, f, k, h, hl, rfl⟩ := h; exact ⟨v1, v2, f, k, h.below hb, hl, rfl⟩
theorem Queue.drewN {S : Nat → Prop} {w : World} {b : Nat} {L : List Int} (h : Queue w b S L) (n : Nat) : Queue (w.drewN n) b S L := h
/-- Blocks come but new ones. -/
def Gr (S S' : Nat → Prop) (w : World) : Prop := ∀ j, S' j → S j ∨ w.heap.size ≤ j
theorem Gr.refl (S : Nat → Prop) (w : World) : Gr S S w := fun _ h => .inl h
theorem Gr.trans {S T U : Nat → Prop} {w w' : World} (h : Gr S T w) (k : Gr T U w') (hs : w.heap.size ≤ w'.heap.size) : Gr S U w := fun j hj => (k j hj).elim (fun x => h j x) (fun x => .inr (Nat.le_trans hs x))
theorem Off.gr {S S' : Nat → Prop} {w : World} {v : Value} (h : Off S v) (g : Gr S S' w) (hv : ∀ j, v.ownBlock = some j → j < w.heap.size) : Off S' v := fun j hj hs => (g j hs).elim (h j hj) (fun x => by have := hv j hj; omega)

set_option maxHeartbeats 1000000 in
theorem new_any (w : World) : Calls Try.prog 16 #[] w fun e w' => e = .returned (.pointer (some ⟨w.heap.size, 0, none⟩)) ∧ w.alloc (.cells #[.slice none 0 0, .slice none 0 0] 75) = w' := by
  go_enter Try.func16, Try.ntmps16
  go_wp2
  go_ret
  exact ⟨rfl, rfl⟩
theorem Queue.new (w : World) : Queue (w.alloc (.cells #[.slice none 0 0, .slice none 0 0] 75)) w.heap.size (fun j => j = w.heap.size) [] := by
  refine ⟨_, _, [], [], ⟨Blk.new w _ 75, OwnI.nil _ _, OwnI.nil _ _, by simp [Value.ownBlock], by simp [Value.ownBlock], by simp [Value.ownBlock]⟩, rfl, ?_⟩
  funext j
  simp [Qf, Value.ownBlock]

def IntQ (x : Int) (w : World) (e : Ending) (w' : World) : Prop := e = .returned (.int .i64 x) ∧ ∃ n, w' = w.drewN n

theorem own_len {w : World} {base : Nat} {v : Value} {l : List Int} (h : OwnI w base v l) : ∃ a cap, v = .slice a l.length cap := by
  obtain ⟨a, cap, hv, _⟩ := Sl.ofOwn h
  exact ⟨a, cap, hv⟩

set_option maxHeartbeats 1000000 in
theorem len_q (b : Nat) (v1 v2 : Value) (f k : List Int) (w : World) (h : Q w b v1 v2 f k) (hl : f.length + k.length < 100000000) : Calls Try.prog 32 #[.pointer (some ⟨b, 0, none⟩)] w (IntQ ((f.length : Int) + k.length) w) := by
  have c0 := h.1.cell 0
  have c1 := h.1.cell 1
  simp only [List.getElem?_toArray, List.getElem?_cons_zero, List.getElem?_cons_succ] at c0 c1
  obtain ⟨a1, p1, rfl⟩ := own_len h.2.1
  obtain ⟨a2, p2, rfl⟩ := own_len h.2.2.1
  clear h
  have e1 : IntKind.i64.wrap ((f.length : Int) + k.length) = (f.length : Int) + k.length := IntWalk.i64_in _ (by omega)
  go_enter Try.func32, Try.ntmps32
  go_wp2
  go_quiet (fail)
  go_wp2
  go_ret
  exact ⟨rfl, _, rfl⟩
theorem len_any (b : Nat) (S : Nat → Prop) (L : List Int) (w : World) (h : Queue w b S L) (hl : L.length < 100000000) : Calls Try.prog 32 #[.pointer (some ⟨b, 0, none⟩)] w (IntQ L.length w) := by
  obtain ⟨v1, v2, f, k, h, rfl, rfl⟩ := h
  simp at hl
  have := len_q b v1 v2 f k w h (by omega)
  simpa using this

/-- q.back = append(q.back, x): how the queue is then. -/
theorem Q.putBack {W w1 : World} {b : Nat} {v1 v2 v2' : Value} {f k m : List Int} {tmp : Obj} (h : Q W b v1 v2 f k) (hA : Appd (W.alloc tmp) 0 v2 k m v2' w1) :
    Blk w1 b #[v1, v2] 75 ∧ Q (w1.setCell ⟨b, 1, none⟩ v2') b v1 v2' f (k ++ m) ∧ Only (Qf b v1 v2) W (w1.setCell ⟨b, 1, none⟩ v2') ∧ Gr (Qf b v1 v2) (Qf b v1 v2') W := by
  obtain ⟨hb, h1, h2, n1, n2, n3⟩ := h
  obtain ⟨ho, hg, hx⟩ := hA
  have hlt := hb.lt
  have hb1 : Blk w1 b #[v1, v2] 75 := (hb.alloc tmp).kept hg (Ne.symm n2)
  have h11 : OwnI w1 0 v1 f := (h1.alloc tmp).kept hg (by cases hv : v1.ownBlock with | none => exact .inl rfl | some j => exact .inr (fun e => n3 j hv e.symm))
  have hne : ∀ j, v2'.ownBlock = some j → j ≠ b := fun j hj e => by
    rcases hx j hj with h' | h'
    · exact n2 (by rw [h', e])
    · simp at h'; omega
  have hd : ∀ j, v1.ownBlock = some j → v2'.ownBlock ≠ some j := fun j hj e => by
    rcases hx j e with h' | h'
    · exact n3 j hj h'
    · have := (h1.lt j hj).2
      simp at h'; omega
  refine ⟨hb1, ⟨hb1.set2_1, h11.kept (grown_set w1 b 1 v2') (.inr n1), ho.kept (grown_set w1 b 1 v2') (.inr (fun e => hne b e rfl)), n1, fun e => hne b e rfl, hd⟩, ?_, ?_⟩
  · exact ((((Only.refl _ W).alloc tmp).grown hg (fun j e => .inr (.inr (.inr e)))).set (.inr (.inl rfl)) 1 v2')
  · rintro j (rfl | hj | hj)
    · exact .inl (.inl rfl)
    · exact .inl (.inr (.inl hj))
    · rcases hx j hj with h' | h'
      · exact .inl (.inr (.inr h'))
      · exact .inr (by simp at h'; omega)

theorem filter1_snoc (L : List Int) (k : Nat) (h : k < L.length) : (L.take (k + 1)).filter (fun p => decide (1 ≤ p)) = (L.take k).filter (fun p => decide (1 ≤ p)) ++ (if 1 ≤ L[k]?.getD 0 then [L[k]?.getD 0] else []) := by
  rw [List.take_succ_eq_append_getElem h, List.filter_append]
  simp only [h, List.getElem?_eq_getElem, Option.getD_some]
  by_cases hc : 1 ≤ L[k]
  · simp [hc]
  · simp [hc]
def right (l : List Int) : List Int := l.filter (fun p => decide (1 ≤ p))

def PutPost (b : Nat) (v1 v2 : Value) (f k' : List Int) (w : World) (e : Ending) (w' : World) : Prop :=
  e = .returned (.int .i64 ((f.length : Int) + k'.length)) ∧ ∃ v2', Q w' b v1 v2' f k' ∧ Only (Qf b v1 v2) w w' ∧ Gr (Qf b v1 v2) (Qf b v1 v2') w

set_option maxHeartbeats 2000000 in
theorem put_q (b : Nat) (v1 v2 : Value) (f k : List Int) (u : Value) (l : List Int) (w : World) (h : Q w b v1 v2 f k) (hu : Slw w u l) (ho : Off (Qf b v1 v2) u) (hl : f.length + k.length + l.length < 100000000) :
    Calls Try.prog 17 #[.pointer (some ⟨b, 0, none⟩), u] w (PutPost b v1 v2 f (k ++ right l) w) := by
  obtain ⟨a, cap, rfl⟩ := hu.len
  have HU := Lib.hid hu
  have HO := Lib.hid ho
  clear ho
  have hb0 := h.1.lt
  go_enter Try.func17, Try.ntmps17
  go_wp2
  go_loopw [11] (fun i wr => ∃ (q : Nat) (v2' : Value), q ≤ l.length ∧ i = .int .i64 q ∧ Q wr b v1 v2' f (k ++ (l.take q).filter (fun p => decide (1 ≤ p))) ∧ Only (Qf b v1 v2) w wr ∧ Gr (Qf b v1 v2) (Qf b v1 v2') w) (fun i _ => l.length - (intOf i).toNat)
  case atStart => exact ⟨0, v2, Nat.zero_le _, rfl, by simpa using h, Only.refl _ _, Gr.refl _ _⟩
  case round =>
    obtain ⟨q, v2', hq, rfl, hQ, hon, hgr⟩ := hrel
    have hfl : ((l.take q).filter (fun p => decide (1 ≤ p))).length ≤ q := Nat.le_trans (List.length_filter_le _ _) (by rw [List.length_take]; omega)
    obtain ⟨kk, HK⟩ : ∃ kk, Hid (k ++ (l.take q).filter (fun p => decide (1 ≤ p)) = kk) := ⟨_, rfl⟩
    rw [HK.out] at hQ
    have hkk : kk.length ≤ k.length + q := by rw [← HK.out]; simp; omega
    clear hfl
    by_cases hlt : q < l.length
    · have hu2 := HU.out.only hon HO.out
      rcases hu2.open with ⟨_, h0⟩ | ⟨_, _, _, h0⟩ | ⟨bu, off, cap', he, _, _, hbu, hcells⟩
      · simp [h0] at hlt
      · simp [h0] at hlt
      simp only [Value.slice.injEq] at he
      obtain ⟨rfl, _, rfl⟩ := he
      have cu := hcells q hlt
      have HF := Lib.hid (filter1_snoc l q hlt)
      clear hcells hu2
      generalize l[q]?.getD 0 = x at *
      have c1 := hQ.1.cell 1
      have f1 := hQ.1.free 1
      have hbl := hQ.1.lt
      simp only [List.getElem?_toArray, List.getElem?_cons_zero, List.getElem?_cons_succ] at c1
      by_cases hx : 1 ≤ x
      · rw [if_pos hx] at HF
        have HQ := Lib.hid hQ
        have hown := hQ.2.2.1
        have HOwn := Lib.hid hown
        clear hQ hown
        have hlen2 : kk.length + [x].length < 100000000 := by simp; omega
        have HLen := Lib.hid hlen2
        clear hlen2
        go_wp2_with (at_builtin; refine appX Try.underlying25 info3 0 _ rfl _ _ rfl _ _ _ [x] rfl rfl (HOwn.out.alloc _) (Slw.new1 wr x) (Nat.zero_le _) HLen.out ?_; intro v' w1 hA; obtain ⟨g', cap'', rfl⟩ := hA.some; obtain ⟨hb1, hQ1, hO1, hG1⟩ := HQ.out.putBack hA; have d1 := hb1.cell 1; simp only [List.getElem?_toArray, List.getElem?_cons_zero, List.getElem?_cons_succ] at d1; have e1 := hb1.free 1; have HQ1 := Lib.hid hQ1; clear hQ1 hb1)
        go_roundw
        case rel => exact ⟨q + 1, _, by omega, by go_num, by rw [HF.out, ← List.append_assoc, HK.out]; exact HQ1.out, hon.andThen hO1 (fun j hj hs => (hgr j hs).elim id (fun x => by omega)), hgr.trans hG1 hon.size⟩
        case measure => simp [intOf]; omega
      · rw [if_neg hx, List.append_nil] at HF
        have HQ := Lib.hid hQ
        clear hQ
        go_wp2
        go_roundw
        case rel => exact ⟨q + 1, _, by omega, by go_num, by rw [HF.out, HK.out]; exact HQ.out, hon, hgr⟩
        case measure => simp [intOf]; omega
    · obtain rfl : q = l.length := by omega
      rw [List.take_length] at HK
      have HQ := Lib.hid hQ
      clear hQ
      go_wp2_with fail
      refine (len_q _ _ _ _ _ _ HQ.out (by omega)).mono ?_
      rintro e w2 ⟨rfl, n, rfl⟩
      go_wp2_with fail
      go_ret
      exact ⟨by rw [show k ++ right l = kk from HK.out]; rfl, v2', by rw [show k ++ right l = kk from HK.out]; exact HQ.out.drewN n, hon.drewN n, hgr⟩

end Go.Proofs.Ytgahkcbkpnehfaa.Glob
