/- Chapter 23: the chapter's example (alive), and the walk of ProcsNils. -/
import Derived.Test.YtgahkcbkpnehfaaProcsResize
namespace Go.Proofs.Ytgahkcbkpnehfaa.Procs
open Go.RowKit Go.Esc
open Go.Proofs.Ytgahkcbkpnehfaa.Ring (Rw Sg allL)
open Go.Proofs.Ytgahkcbkpnehfaa.Glob (Gr Queue right PutP)
set_option linter.unusedVariables false

theorem new_q (p : Nat) (rv : Value) (n : Nat) (R : Nat → Rn) (w : World) (h : Prc w p rv n R) : Calls Try.prog 16 #[] w fun e w' => e = .returned (.pointer (some ⟨w.heap.size, 0, none⟩)) ∧ PQ w' p rv n R w.heap.size (fun j => j = w.heap.size) [] ∧ Below w.heap.size w w' := by
  refine (Glob.new_any w).mono ?_
  rintro e w1 ⟨rfl, rfl⟩
  have hb : Below w.heap.size w (w.alloc (.cells #[.slice none 0 0, .slice none 0 0] 75)) := below_alloc (Below.refl _ _) _
  exact ⟨rfl, ⟨h.below hb, Queue.new w, fun j hj e => by have := h.lt hj; have e' : j = w.heap.size := e; omega⟩, hb⟩
theorem one7 (w : World) (base : Nat) (v : Value) (h : OwnI w base v [7]) : Calls Try.prog 20 #[v, .slice (some ⟨w.heap.size, 0, none⟩) 1 1] (w.alloc (.cells #[.int .i64 7] 3)) fun e w' => e = .returned (.bool true) ∧ ∃ n, w' = (w.alloc (.cells #[.int .i64 7] 3)).drewN n :=
  Ref.same_yes v _ [7] _ (Sl.ofOwn (h.alloc _)) (Slw.new1 w 7).sl

set_option maxHeartbeats 2000000 in
theorem alive_any (w : World) : Calls Try.prog 42 #[] w fun e w' => e = .returned (.bool true) ∧ Below w.heap.size w w' := by
  have HN : Hid (Calls Try.prog 43 #[.int .i64 2] w (NewP 2 w)) := new_good 2 w (by omega) (by omega)
  go_enter Try.func42, Try.ntmps42
  go_wp2_with fail
  refine HN.out.mono ?_
  rintro e w1 ⟨rfl, rv, R, hP, h0, hB, hF⟩
  have HQn := Lib.hid (new_q _ _ _ _ _ hP)
  have HB1 := Lib.hid hB
  have HF := Lib.hid hF
  have H0 := Lib.hid h0
  clear hP h0 hB hF
  go_wp2_with fail
  refine HQn.out.mono ?_
  rintro e w2 ⟨rfl, hPQ, hB2⟩
  have HR : Hid (Calls Try.prog 44 #[.pointer (some ⟨w.heap.size, 0, none⟩), .int .i64 1] w2 fun e w' => e = .returned (.pointer (some ⟨(R 1).b, 0, none⟩)) ∧ w2 = w') := ring_any _ rv 2 R 1 w2 hPQ.prc
  have hr1 : Rw w2 (R 1).b (R 1).g 256 0 [] := by have := hPQ.prc.ring 1 (by omega); rw [(H0.out 1 (by omega)).1, (H0.out 1 (by omega)).2] at this; exact this
  have HPut : Hid (Calls Try.prog 24 #[.pointer (some ⟨(R 1).b, 0, none⟩), .int .i64 7, .bool false] w2 (Ring.OutPost (R 1).b (R 1).g 256 0 [7] [] w2)) := Ring.put_any _ _ _ _ _ 7 false _ hr1
  have HPQ := Lib.hid hPQ
  have HB2 := Lib.hid hB2
  clear hPQ hB2 hr1
  go_wp2_with fail
  refine HR.out.mono ?_
  rintro e w3 ⟨rfl, rfl⟩
  go_wp2_with fail
  refine HPut.out.mono ?_
  rintro e w3 ⟨v, rfl, hown, hRw, hO3⟩
  have hPQ3 := HPQ.out.turn (i := 1) (by omega) hRw hO3
  have HRs : Hid (Calls Try.prog 46 #[.pointer (some ⟨w.heap.size, 0, none⟩), .int .i64 1, .pointer (some ⟨w1.heap.size, 0, none⟩)] w3 (ResPost w.heap.size rv 2 1 (updR R 1 0 [7]) w1.heap.size (fun j => j = w1.heap.size) [] w3)) := resize_any _ _ 2 1 _ _ _ _ _ hPQ3 (by omega) (by omega) (by omega) (by omega) (by simp)
  have HO3 := Lib.hid hO3
  clear hown hRw hO3 hPQ3
  go_wp2_with fail
  refine HRs.out.mono ?_
  rintro e w4 ⟨rfl, rv4, R4, S4, hPQ4, hO4, hG4, hold, _⟩
  have h40 : (R4 0).nx = 0 ∧ (R4 0).row = [] := by rw [hold 0 (by omega) (by omega), updR_ne _ _ _ _ (by omega)]; exact H0.out 0 (by omega)
  have HPQ4 : Hid (PQ w4 w.heap.size rv4 1 R4 w1.heap.size S4 [7]) := by
    show PQ _ _ _ _ _ _ _ _
    have e : dr (updR R 1 0 [7]) 1 [] (2 - 1) = [7] := by simp [dr, updR, allL, right]
    rw [e] at hPQ4
    exact hPQ4
  have HL : Hid (Calls Try.prog 51 #[.pointer (some ⟨w.heap.size, 0, none⟩)] w4 fun e w' => e = .returned (.int .i64 1) ∧ w4 = w') := len_any _ rv4 1 R4 w4 HPQ4.out.prc
  have HLi := Lib.hid (Glob.list_any _ _ _ _ HPQ4.out.que (by simp))
  have hsz1 := HB1.out.size
  have hsz2 := HB2.out.size
  have hall : ∀ j, Pb w.heap.size rv 2 (updR R 1 0 [7]) (fun j => j = w1.heap.size) j → w.heap.size ≤ j := fun j hj => by
    rcases hj with hj | hj
    · rw [Pf_updR] at hj; exact HF.out j hj
    · have e' : j = w1.heap.size := hj
      omega
  have HBel : Hid (Below w.heap.size w w4) := by
    show Below _ _ _
    have h1 : Below w.heap.size w w2 := below_below HB1.out HB2.out
    have h2 : Below w.heap.size w2 w3 := HO3.out.toBelow (by omega) (fun k hk => HF.out k (.inr (.inr ⟨1, by omega, hk⟩)))
    have h3 : Below w.heap.size w3 w4 := hO4.toBelow (by have := HO3.out.size; omega) hall
    exact (h1.trans h2).trans h3
  have H40 := Lib.hid h40
  clear hPQ4 hO4 hG4 hold h40 hsz1 hsz2 hall
  go_wp2_with fail
  refine HL.out.mono ?_
  rintro e w5 ⟨rfl, rfl⟩
  go_wp2_with fail
  refine HLi.out.mono ?_
  rintro e w5 ⟨v5, rfl, hown5, hB5⟩
  have HS := Lib.hid (one7 w5 _ v5 hown5)
  have HB5 := Lib.hid hB5
  obtain ⟨a5, c5, rfl⟩ := Glob.own_len hown5
  clear hown5 hB5
  go_wp2_with fail
  refine HS.out.mono ?_
  rintro e w6 ⟨rfl, n6, hw6⟩
  have hB6 : Below w4.heap.size w4 w6 := by
    rw [hw6]
    have h := below_alloc HB5.out (.cells #[.int .i64 7] 3)
    exact ⟨h.os, h.tape, h.output, h.size, h.block⟩
  have hT := total_any _ rv4 1 R4 w6 (HPQ4.out.prc.below hB6) (by omega)
  rw [show tot R4 1 = 0 by simp [tot, lenR, allL, H40.out.1, H40.out.2]] at hT
  have HT := Lib.hid hT
  have HB6 := Lib.hid hB6
  clear hT hB6 hw6
  go_wp2_with fail
  refine HT.out.mono ?_
  rintro e w7 ⟨rfl, n7, rfl⟩
  go_wp2_with fail
  go_ret
  have h := below_below HBel.out HB6.out
  exact ⟨rfl, ⟨h.os, h.tape, h.output, h.size, h.block⟩⟩

set_option maxHeartbeats 2000000 in
theorem nils (w : World) (n : Int) (_ : (Lit.int .i64 n).wf = true) : Calls Try.prog 11 #[.int .i64 n] w fun e w' => e = .returned (.bool true) ∧ Below w.heap.size w w' := by
  have HN : Hid (Calls Try.prog 43 #[.int .i64 1] w (NewP 1 w)) := new_good 1 w (by omega) (by omega)
  go_enter Try.func11, Try.ntmps11
  go_wp2_with fail
  refine HN.out.mono ?_
  rintro e w1 ⟨rfl, rv, R, hP, h0, hB, hF⟩
  have HB1 := Lib.hid hB
  clear hP h0 hB hF
  go_wp2_with fail
  refine (most_nil _).mono ?_
  rintro e w2 ⟨rfl, rfl⟩
  go_wp2_with fail
  refine (len_nil _).mono ?_
  rintro e w2 ⟨rfl, rfl⟩
  go_wp2_with fail
  refine (ring_nil _ _).mono ?_
  rintro e w2 ⟨rfl, rfl⟩
  go_wp2_with fail
  refine (Glob.new_any _).mono ?_
  rintro e w2 ⟨rfl, hw2⟩
  have HB2 : Hid (Below w.heap.size w w2) := by show Below _ _ _; rw [← hw2]; exact below_alloc HB1.out _
  clear hw2
  go_wp2_with fail
  refine (resize_nilp _ _ ⟨_, rfl⟩ _).mono ?_
  rintro e w3 ⟨rfl, rfl⟩
  go_wp2_with fail
  refine (resize_nilq _ _ _).mono ?_
  rintro e w3 ⟨rfl, rfl⟩
  go_wp2_with fail
  refine (queues_nil _).mono ?_
  rintro e w3 ⟨rfl, rfl⟩
  go_wp2_with fail
  refine (total_nil _).mono ?_
  rintro e w3 ⟨rfl, rfl⟩
  go_wp2_with fail
  refine (alive_any _).mono ?_
  rintro e w3 ⟨rfl, hB3⟩
  have HB3 := Lib.hid hB3
  clear hB3
  go_wp2_with fail
  go_ret
  exact ⟨rfl, below_below HB2.out HB3.out⟩
end Go.Proofs.Ytgahkcbkpnehfaa.Procs
