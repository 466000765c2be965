/- Chapter 16: the contracts of the reference's Right, of slices.Index, of Remove. -/
import Derived.Test.YtgahkcbkpnehfaaGlobOrderWalk
import Derived.Test.YtgahkcbkpnehfaaLists
namespace Go.Proofs.Ytgahkcbkpnehfaa.Glob
open Go.RowKit Go.Esc
set_option linter.unusedVariables false

set_option maxHeartbeats 2000000 in
theorem right_any (u : Value) (l : List Int) (w : World) (hu : Slw w u l) (hl : l.length < 1000000) : Calls Try.prog 62 #[u] w (Ref.LPost (right l) w) := by
  obtain ⟨a, cap, rfl⟩ := hu.len
  have HU := Lib.hid hu
  clear hu
  go_enter Try.func62, Try.ntmps62
  go_wp2
  go_loopw [3, 4] (fun t i wr => ∃ k : Nat, k ≤ l.length ∧ i = .int .i64 k ∧ OwnI wr w.heap.size t (right (l.take k)) ∧ Below w.heap.size w wr) (fun _ i _ => l.length - (intOf i).toNat)
  case atStart => exact ⟨0, Nat.zero_le _, rfl, by simpa [right] using OwnI.nil _ _, Below.refl _ _⟩
  case round =>
    obtain ⟨k, hk, rfl, hown, hB⟩ := hrel
    have hBs := hB.size
    have hrl : (right (l.take k)).length ≤ k := Nat.le_trans (right_len _) (List.length_take_le _ _)
    by_cases hlt : k < l.length
    · have hs := HU.out.below hB
      rcases hs.open with ⟨_, h0⟩ | ⟨_, _, _, h0⟩ | ⟨bu, off, cap', he, _, _, hbu, hcells⟩
      · simp [h0] at hlt
      · simp [h0] at hlt
      simp only [Value.slice.injEq] at he
      obtain ⟨rfl, _, rfl⟩ := he
      have cu := hcells k hlt
      have HT := Lib.hid (right_snoc l k hlt)
      generalize l[k]?.getD 0 = x at *
      generalize right (l.take k) = l1 at *
      have hlen : l1.length + [x].length < 100000000 := by simp; omega
      have HLen := Lib.hid hlen
      have HO := Lib.hid hown
      have HB := Lib.hid hB
      clear hcells hs hown hB hlen
      by_cases hx : 1 ≤ x
      · rw [right_yes hx] at HT
        have hdx : decide (1 ≤ x) = true := by simpa using hx
        go_wp2_with (at_builtin; refine appX Try.underlying25 info3 w.heap.size _ rfl _ _ rfl _ _ _ [x] rfl rfl (HO.out.alloc _) (Slw.new1 wr x) (by simp; omega) HLen.out ?_; intro v' w2 hA)
        go_roundw
        case rel => exact ⟨k + 1, by omega, by go_num, by rw [HT.out]; exact hA.1, below_grown (below_alloc HB.out _) hA.2.1 (fun j hj => (HO.out.lt j hj).1)⟩
        case measure => simp [intOf]; omega
      · rw [right_no hx, List.append_nil] at HT
        have hdx : decide (1 ≤ x) = false := by simpa using hx
        go_wp2
        go_roundw
        case rel => exact ⟨k + 1, by omega, by go_num, by rw [HT.out]; exact HO.out, HB.out⟩
        case measure => simp [intOf]; omega
    · obtain rfl : k = l.length := by omega
      rw [List.take_length] at hown
      have HO := Lib.hid hown
      have HB := Lib.hid hB
      clear hown hB
      go_wp2
      go_ret
      exact ⟨_, rfl, HO.out, HB.out⟩

def IdxP (l : List Int) (g : Int) (w : World) (e : Ending) (w' : World) : Prop :=
  ∃ k : Int, e = .returned (.int .i64 k) ∧ w = w' ∧ ((k = -1 ∧ l.erase g = l ∧ g ∉ l) ∨ ∃ i : Nat, k = i ∧ i < l.length ∧ l.erase g = l.take i ++ l.drop (i + 1) ∧ g ∈ l)
set_option maxHeartbeats 1000000 in
theorem index_any (u : Value) (l : List Int) (g : Int) (w : World) (h : Slw w u l) (hl : l.length < 10000000) : Calls Try.prog 65 #[u, .int .i64 g] w (IdxP l g w) := by
  obtain ⟨a, cap, rfl⟩ := h.len
  have HS := Lib.hid h
  clear h
  go_enter Try.func65, Try.ntmps65
  go_wp2
  go_loop [8] (fun i => ∃ k : Nat, k ≤ l.length ∧ i = .int .i64 k ∧ Hid (∀ i, i < k → l[i]?.getD 0 ≠ g)) (fun i => l.length - (intOf i).toNat)
  case atStart => exact ⟨0, Nat.zero_le _, rfl, fun i hi => by omega⟩
  case round =>
    obtain ⟨k, hk, rfl, HF⟩ := hrel
    by_cases hlt : k < l.length
    · rcases HS.out.open with ⟨_, h0⟩ | ⟨_, _, _, h0⟩ | ⟨bu, off, cap', he, _, _, hbu, hcells⟩
      · simp [h0] at hlt
      · simp [h0] at hlt
      simp only [Value.slice.injEq] at he
      obtain ⟨rfl, _, rfl⟩ := he
      have cu := hcells k hlt
      clear hcells
      by_cases hx : l[k]?.getD 0 = g
      · have HI := Lib.hid (Ref.idx_first l g k hlt hx HF.out)
        rw [hx] at cu
        have hgg : (g == g) = true := by simp
        clear hx
        go_wp2
        go_ret
        exact ⟨k, rfl, rfl, .inr ⟨k, rfl, hlt, HI.out.1, HI.out.2⟩⟩
      · have hxb : (g == l[k]?.getD 0) = false := by rw [beq_eq_false_iff_ne]; exact fun e => hx e.symm
        have HN : Hid (∀ i, i < k + 1 → l[i]?.getD 0 ≠ g) := fun i hi => by
          by_cases e : i = k
          · subst e; exact hx
          · exact HF.out i (by omega)
        generalize l[k]?.getD 0 = y at *
        clear hx
        go_wp2
        go_round
        case rel => exact ⟨k + 1, by omega, by go_num, HN.out⟩
        case measure => simp [intOf]; omega
    · obtain rfl : k = l.length := by omega
      have HI := Lib.hid (Ref.idx_none l g HF.out)
      go_wp2
      go_ret
      exact ⟨-1, rfl, rfl, .inl ⟨rfl, HI.out.1, HI.out.2⟩⟩

def RmPost (b : Nat) (S : Nat → Prop) (L : List Int) (g : Int) (w : World) (e : Ending) (w' : World) : Prop :=
  e = .returned (.bool (decide (g ∈ L))) ∧ ∃ S', Queue w' b S' (L.erase g) ∧ Only S w w' ∧ Gr S S' w

set_option maxHeartbeats 2000000 in
theorem qremove_any (b : Nat) (S : Nat → Prop) (L : List Int) (g : Int) (w : World) (h : Queue w b S L) (hl : L.length < 1000000) : Calls Try.prog 35 #[.pointer (some ⟨b, 0, none⟩), .int .i64 g] w (RmPost b S L g w) := by
  have HL := Lib.hid (list_any b S L w h (by omega))
  have HH := Lib.hid h
  have hbl := h.lt (j := b) (by obtain ⟨v1, v2, f, k, _, _, rfl⟩ := h; exact .inl rfl)
  unfold RmPost
  by_cases hm : g ∈ L
  · rw [decide_eq_true hm]
    clear h
    go_enter Try.func35, Try.ntmps35
    go_wp2_with fail
    refine HL.out.mono ?_
    rintro e w2 ⟨v2, rfl, ho2, hb2⟩
    have HI := Lib.hid (index_any v2 L g w2 (Slw.ofOwn ho2) (by omega))
    have HO2 := Lib.hid ho2
    have HB2 := Lib.hid hb2
    clear ho2 hb2
    go_wp2_with fail
    refine HI.out.mono ?_
    rintro e w3 ⟨k, rfl, rfl, ⟨_, _, hk⟩ | ⟨i, rfl, hi, hE, _⟩⟩
    · exact absurd hm hk
    have HE := Lib.hid hE
    obtain ⟨p, hp⟩ : ∃ p, L.length = p + 1 := ⟨L.length - 1, by omega⟩
    obtain ⟨g2, cap2, rfl, hg2, hg2l⟩ : ∃ g2 cap2, v2 = .slice (some ⟨g2, 0, none⟩) (p + 1) cap2 ∧ w.heap.size ≤ g2 ∧ g2 < w2.heap.size := by
      rcases HO2.out.open with ⟨_, h0⟩ | ⟨g2, cap2, he, h1, h2, _⟩
      · rw [h0] at hp; simp at hp
      · exact ⟨g2, cap2, by rw [he, hp], h1, h2⟩
    have HD := Lib.hid (Ref.delete_at g2 cap2 w.heap.size i p L w2 HO2.out (by omega) (by omega))
    have hid : decide ((i : Int) < 0) = false := by simp
    have hib : i < 1000000 := by omega
    clear hE hi hp
    go_wp2_with fail
    refine HD.out.mono ?_
    rintro e w4 ⟨v4, rfl, ho4, hv4, hg4⟩
    have hO4 : Only (fun j => j = g2) w2 w4 := (Only.refl _ w2).grown hg4 (fun j e => .inr (by simpa using e.symm))
    obtain ⟨q1, q2, f, k2, hQ, hLL, rfl⟩ := HH.out
    have hQ2 := hQ.below HB2.out
    have hb4 := hQ2.1.only hO4 (fun (e : b = g2) => by omega)
    have c0 := hb4.cell 0
    have c1 := hb4.cell 1
    have f0 := hb4.free 0
    have f1 := hb4.free 1
    have hlt4 := hb4.lt
    simp only [List.getElem?_toArray, List.getElem?_cons_zero, List.getElem?_cons_succ] at c0 c1
    have HB4 := Lib.hid hb4
    have HO4 := Lib.hid ho4
    have HV4 := Lib.hid hv4
    have HOn : Hid (Only (Qf b q1 q2) w w4) := ((Only.refl (Qf b q1 q2) w).below HB2.out).andThen hO4 (fun j hj e => by have e' : j = g2 := e; omega)
    obtain ⟨a4, c4, rfl⟩ := own_len ho4
    clear ho4 hv4 hg4 hO4 hQ hQ2 hb4 hLL HH
    generalize (L.take i ++ L.drop (i + 1)).length = n4 at *
    go_wp2_with fail
    go_ret
    have hnb : (Value.slice a4 n4 c4).ownBlock ≠ some b := by rw [HV4.out]; simp; omega
    refine ⟨rfl, Qf b (.slice none 0 0) (.slice a4 n4 c4), ⟨.slice none 0 0, .slice a4 n4 c4, [], L.take i ++ L.drop (i + 1), ⟨HB4.out.set2_0.set2_1, OwnI.nil _ _, ?_, by simp [Value.ownBlock], hnb, by simp [Value.ownBlock]⟩, by rw [HE.out]; simp, rfl⟩, (HOn.out.set (.inr (.inl rfl)) _ _).set (.inr (.inl rfl)) _ _, ?_⟩
    · exact ((HO4.out.mono (Nat.zero_le _)).kept (grown_set w4 b 0 _) (.inr hnb)).kept (grown_set _ b 1 _) (.inr hnb)
    · rintro j (hj | hj | hj)
      · exact .inl (.inl hj)
      · simp [Value.ownBlock] at hj
      · rw [HV4.out] at hj
        simp at hj
        right; omega
  · rw [decide_eq_false hm]
    have HE : Hid (L.erase g = L) := List.erase_of_not_mem hm
    clear h
    go_enter Try.func35, Try.ntmps35
    go_wp2_with fail
    refine HL.out.mono ?_
    rintro e w2 ⟨v2, rfl, ho2, hb2⟩
    have HI := Lib.hid (index_any v2 L g w2 (Slw.ofOwn ho2) (by omega))
    have HB2 := Lib.hid hb2
    clear ho2 hb2
    go_wp2_with fail
    refine HI.out.mono ?_
    rintro e w3 ⟨k, rfl, rfl, ⟨rfl, _, hk⟩ | ⟨i, rfl, hi, hE, hk⟩⟩
    · go_wp2_with fail
      go_ret
      exact ⟨rfl, S, by rw [HE.out]; exact HH.out.below HB2.out, (Only.refl _ _).below HB2.out, Gr.refl _ _⟩
    · exact absurd hk hm
end Go.Proofs.Ytgahkcbkpnehfaa.Glob
