/- Chapter 16: the contracts of turn, Get and Batch. -/
import Derived.Test.YtgahkcbkpnehfaaQueue
namespace Go.Proofs.Ytgahkcbkpnehfaa.Glob
open Go.RowKit Go.Esc

theorem Only.undrew {S : Nat → Prop} {w w' : World} (h : Only S w.drew w') : Only S w w' := ⟨h.os, h.tape, h.output, h.size, h.block⟩

theorem Q.putFront {W w1 : World} {b : Nat} {v1 v2 v1' : Value} {f k m : List Int} {tmp : Obj} (h : Q W b v1 v2 f k) (hA : Appd (W.alloc tmp) 0 v1 f m v1' w1) :
    Blk w1 b #[v1, v2] 75 ∧ Q (w1.setCell ⟨b, 0, none⟩ v1') b v1' v2 (f ++ m) k ∧ Only (Qf b v1 v2) W (w1.setCell ⟨b, 0, none⟩ v1') ∧ Gr (Qf b v1 v2) (Qf b v1' v2) W := by
  obtain ⟨hb, h1, h2, n1, n2, n3⟩ := h
  obtain ⟨ho, hg, hx⟩ := hA
  have hlt := hb.lt
  have hb1 : Blk w1 b #[v1, v2] 75 := (hb.alloc tmp).kept hg (Ne.symm n1)
  have h22 : OwnI w1 0 v2 k := (h2.alloc tmp).kept hg (by cases hv : v2.ownBlock with | none => exact .inl rfl | some j => exact .inr (fun e => n3 j e.symm hv))
  have hne : ∀ j, v1'.ownBlock = some j → j ≠ b := fun j hj e => by
    rcases hx j hj with h' | h'
    · exact n1 (by rw [h', e])
    · simp at h'; omega
  have hd : ∀ j, v1'.ownBlock = some j → v2.ownBlock ≠ some j := fun j hj e => by
    rcases hx j hj with h' | h'
    · exact n3 j h' e
    · have := (h2.lt j e).2
      simp at h'; omega
  refine ⟨hb1, ⟨hb1.set2_0, ho.kept (grown_set w1 b 0 v1') (.inr (fun e => hne b e rfl)), h22.kept (grown_set w1 b 0 v1') (.inr n2), fun e => hne b e rfl, n2, hd⟩, ?_, ?_⟩
  · exact ((((Only.refl _ W).alloc tmp).grown hg (fun j e => .inr (.inr (.inl e)))).set (.inr (.inl rfl)) 0 v1')
  · rintro j (rfl | hj | hj)
    · exact .inl (.inl rfl)
    · rcases hx j hj with h' | h'
      · exact .inl (.inr (.inl h'))
      · exact .inr (by simp at h'; omega)
    · exact .inl (.inr (.inr hj))

/-- q.back = q.back[:n] -/
theorem Q.cutBack {W : World} {b g m cap n : Nat} {v1 : Value} {f k : List Int} (h : Q W b v1 (.slice (some ⟨g, 0, none⟩) m cap) f k) (hn : n ≤ k.length) :
    Q (W.setCell ⟨b, 1, none⟩ (.slice (some ⟨g, 0, none⟩) n cap)) b v1 (.slice (some ⟨g, 0, none⟩) n cap) f (k.take n) := by
  obtain ⟨hb, h1, h2, n1, n2, n3⟩ := h
  have h2' := h2.shrink n hn
  exact ⟨hb.set2_1, h1.kept (grown_set W b 1 _) (.inr n1), h2'.kept (grown_set W b 1 _) (.inr n2), n1, n2, n3⟩
theorem Q.cutFront {W : World} {b g m cap n : Nat} {v2 : Value} {f k : List Int} (h : Q W b (.slice (some ⟨g, 0, none⟩) m cap) v2 f k) (hn : n ≤ f.length) :
    Q (W.setCell ⟨b, 0, none⟩ (.slice (some ⟨g, 0, none⟩) n cap)) b (.slice (some ⟨g, 0, none⟩) n cap) v2 (f.take n) k := by
  obtain ⟨hb, h1, h2, n1, n2, n3⟩ := h
  have h1' := h1.shrink n hn
  exact ⟨hb.set2_0, h1'.kept (grown_set W b 0 _) (.inr n1), h2.kept (grown_set W b 0 _) (.inr n2), n1, n2, n3⟩

theorem rev_snoc (k : List Int) (j : Nat) (h : j < k.length) : (k.drop j).reverse = (k.drop (j + 1)).reverse ++ [k[j]?.getD 0] := by
  rw [List.drop_eq_getElem_cons h, List.reverse_cons]; simp [h]

def TurnPost (b : Nat) (v1 v2 : Value) (k : List Int) (w : World) (e : Ending) (w' : World) : Prop :=
  (∃ v, e = .returned v) ∧ ∃ v1' v2', Q w' b v1' v2' k.reverse [] ∧ Only (Qf b v1 v2) w w' ∧ Gr (Qf b v1 v2) (Qf b v1' v2') w

set_option maxHeartbeats 2000000 in
theorem turn_q (b : Nat) (v1 v2 : Value) (k : List Int) (w : World) (h : Q w b v1 v2 [] k) (hl : k.length < 10000000) :
    Calls Try.prog 64 #[.pointer (some ⟨b, 0, none⟩)] w (TurnPost b v1 v2 k w) := by
  have hb0 := h.1.lt
  have c0 := h.1.cell 0
  simp only [List.getElem?_toArray, List.getElem?_cons_zero] at c0
  obtain ⟨a1, p1, rfl⟩ := own_len h.2.1
  rw [show ([] : List Int).length = 0 from rfl] at *
  have HH := Lib.hid h
  clear h
  go_enter Try.func64, Try.ntmps64
  go_wp2
  go_step3
  go_wp2
  go_step3
  go_wp2
  go_loopg [2] k.length (fun gk _ wr => ∃ (v1' v2' : Value), gk ≤ k.length ∧ Q wr b v1' v2' (k.drop gk).reverse (k.take gk) ∧ Only (Qf b (.slice a1 0 p1) v2) w wr ∧ Gr (Qf b (.slice a1 0 p1) v2) (Qf b v1' v2') w)
  case atStart => exact ⟨_, _, Nat.le_refl _, by simpa using HH.out, Only.refl _ _, Gr.refl _ _⟩
  case round =>
    obtain ⟨v1', v2', hgk, hQ, hon, hgr⟩ := hrel
    have d0 := hQ.1.cell 0
    have d1 := hQ.1.cell 1
    have f0 := hQ.1.free 0
    have f1 := hQ.1.free 1
    have hbl := hQ.1.lt
    simp only [List.getElem?_toArray, List.getElem?_cons_zero, List.getElem?_cons_succ] at d0 d1
    cases gk with
    | zero =>
      obtain ⟨a2, p2, rfl⟩ := own_len hQ.2.2.1
      rw [show (k.take 0).length = 0 from by simp] at *
      have HQ := Lib.hid hQ
      clear hQ c0
      go_wp2
      rw [Exit.noGoto_normal]
      go_end0
      exact ⟨⟨_, rfl⟩, _, _, by simpa using HQ.out, hon, hgr⟩
    | succ j =>
      have hjk : j < k.length := by omega
      have HR := Lib.hid (rev_snoc k j hjk)
      have hlk : (k.take (j + 1)).length = j + 1 := by simp; omega
      have HL := Lib.hid hlk
      obtain ⟨ff, HFF⟩ : ∃ ff, Hid ((k.drop (j + 1)).reverse = ff) := ⟨_, rfl⟩
      have hffl : ff.length ≤ k.length := by rw [← HFF.out, List.length_reverse, List.length_drop]; omega
      obtain ⟨kk, HKK⟩ : ∃ kk, Hid (k.take (j + 1) = kk) := ⟨_, rfl⟩
      have HTK : Hid (kk.take j = k.take j) := by show _ = _; rw [← HKK.out, List.take_take]; congr 1; omega
      have hgetj : kk[j]?.getD 0 = k[j]?.getD 0 := by rw [← HKK.out, List.getElem?_take_of_lt (by omega)]
      rw [HKK.out] at hQ hlk
      rw [HFF.out] at hQ HR
      rcases hQ.2.2.1.open with ⟨_, h0⟩ | ⟨g, cap, rfl, _, hg, hcap, hcells⟩
      · rw [h0] at hlk; simp at hlk
      rw [hlk] at hcap hcells d1 hQ hgr
      have cx := hcells j (by omega)
      rw [hgetj] at cx
      clear hgetj
      generalize k[j]?.getD 0 = x at *
      have HQ := Lib.hid hQ
      have HOwn := Lib.hid hQ.2.1
      have hlf : ff.length + [x].length < 100000000 := by simp; omega
      have HLF := Lib.hid hlf
      have HLk := Lib.hid hlk
      clear hQ hcells hlf HL hlk c0
      have hjj : (j : Int) < (j : Int) + 1 := by omega
      have hjd : decide ((j : Int) < 0) = false := by simp
      go_wp2
      go_region_law (refine stepX Try.underlying25 info3 0 _ rfl (.tmp 21) (.tmp 29) rfl _ _ _ [x] (by simp [Act.eval]) (by simp [Act.eval]) (HOwn.out.alloc _) (Slw.new1 _ x) (Nat.zero_le _) HLF.out ?_; intro v' w1 hA; obtain ⟨g', cap', rfl⟩ := hA.some; obtain ⟨hb1, hQ1, hO1, hG1⟩ := HQ.out.drew.putFront (tmp := .cells #[.int .i64 x] 3) hA; have q0 := hb1.cell 0; have q1 := hb1.cell 1; have qf0 := hb1.free 0; have qf1 := hb1.free 1; simp only [List.getElem?_toArray, List.getElem?_cons_zero, List.getElem?_cons_succ] at q0 q1; have HQ1 := Lib.hid hQ1; have HO1 := Lib.hid hO1; have HG1 := Lib.hid hG1; clear hQ1 hb1 hO1 hG1 hA)
      all_goals
        go_wp2
        go_roundg j
        case rel =>
          refine ⟨_, _, by omega, by rw [HR.out, ← HTK.out]; exact (HQ1.out.cutBack (n := j) (by rw [HLk.out]; omega)), ?_, ?_⟩
          · exact (hon.andThen (Only.undrew (HO1.out.set (.inr (.inl rfl)) 1 _)) (fun j' hj' hs => (hgr j' hs).elim id (fun x => by omega)))
          · intro j' hj'
            refine (hgr.trans (w' := wr) HG1.out hon.size) j' ?_
            rcases hj' with h4 | h4 | h4
            · exact .inl h4
            · exact .inr (.inl h4)
            · exact .inr (.inr h4)
        case measure => omega

end Go.Proofs.Ytgahkcbkpnehfaa.Glob
