/- Chapter 16: the example; the walk of GlobManies. -/
import Derived.Test.YtgahkcbkpnehfaaQueueBatch
namespace Go.Proofs.Ytgahkcbkpnehfaa.Glob
open Go.RowKit Go.Esc

def PutP (b : Nat) (S : Nat → Prop) (L : List Int) (w : World) (e : Ending) (w' : World) : Prop :=
  e = .returned (.int .i64 L.length) ∧ ∃ S', Queue w' b S' L ∧ Only S w w' ∧ Gr S S' w
theorem put_any (b : Nat) (S : Nat → Prop) (L : List Int) (u : Value) (l : List Int) (w : World) (h : Queue w b S L) (hu : Slw w u l) (ho : Off S u) (hl : L.length + l.length < 100000000) :
    Calls Try.prog 17 #[.pointer (some ⟨b, 0, none⟩), u] w (PutP b S (L ++ right l) w) := by
  obtain ⟨v1, v2, f, k, h, rfl, rfl⟩ := h
  refine (put_q b v1 v2 f k u l w h hu ho (by simp at hl; omega)).mono ?_
  rintro e w' ⟨rfl, v2', hQ, hO, hG⟩
  exact ⟨by simp, _, ⟨v1, v2', f, _, hQ, by simp, rfl⟩, hO, hG⟩

theorem batch7 (b : Nat) (S : Nat → Prop) (w : World) (h : Queue w b S [1, 2, 3, 4, 5, 6, 7]) : Calls Try.prog 18 #[.pointer (some ⟨b, 0, none⟩), .int .i64 3, .int .i64 128] w (BatchPost b S [1, 2, 3, 4, 5, 6, 7] 3 w) := by
  have := batch_any b S [1, 2, 3, 4, 5, 6, 7] 3 128 w h (by simp)
  rwa [show (manyZ (([1, 2, 3, 4, 5, 6, 7] : List Int).length : Int) 3 128).toNat = 3 from by decide] at this
theorem many7 (w : World) : Calls Try.prog 13 #[.int .i64 7, .int .i64 3, .int .i64 128] w fun e w' => e = .returned (.int .i64 3) ∧ w = w' := by
  have := many_any 7 3 128 w (by omega)
  rwa [show manyZ 7 3 128 = 3 from by decide] at this
theorem put7 (w1 : World) (b : Nat) (h : Queue w1 b (fun j => j = b) []) : Calls Try.prog 17 #[.pointer (some ⟨b, 0, none⟩), .slice (some ⟨w1.heap.size, 0, none⟩) 7 7] (w1.alloc (.cells #[.int .i64 1, .int .i64 2, .int .i64 3, .int .i64 4, .int .i64 5, .int .i64 6, .int .i64 7] 3))
    (fun e w2 => e = .returned (.int .i64 7) ∧ ∃ S2, Queue w2 b S2 [1, 2, 3, 4, 5, 6, 7] ∧ Only (fun j => j = b) w1 w2 ∧ Gr (fun j => j = b) S2 w1) := by
  have hlt := h.lt (j := b) rfl
  have hs := Slw.new w1 [1, 2, 3, 4, 5, 6, 7] (by simp [maxLen])
  refine (put_any b (fun j => j = b) [] (.slice (some ⟨w1.heap.size, 0, none⟩) 7 7) [1, 2, 3, 4, 5, 6, 7] _ (h.below (below_alloc (Below.refl _ _) _)) hs ?_ (by simp)).mono ?_
  · intro j hj hb
    simp [Value.ownBlock] at hj
    omega
  · rintro e w2 ⟨rfl, S2, hQ, hO, hG⟩
    have hr : ([] : List Int) ++ right [1, 2, 3, 4, 5, 6, 7] = [1, 2, 3, 4, 5, 6, 7] := by decide
    rw [hr] at hQ ⊢
    refine ⟨rfl, S2, hQ, ((Only.refl _ w1).alloc _).trans hO, fun j hj => (hG j hj).elim .inl (fun x => .inr ?_)⟩
    simp at x; omega
theorem same3 (w : World) (base : Nat) (v : Value) (h : OwnI w base v [1, 2, 3]) : Calls Try.prog 20 #[v, .slice (some ⟨w.heap.size, 0, none⟩) 3 3] (w.alloc (.cells #[.int .i64 1, .int .i64 2, .int .i64 3] 3)) fun e w' => e = .returned (.bool true) ∧ ∃ n, w' = (w.alloc (.cells #[.int .i64 1, .int .i64 2, .int .i64 3] 3)).drewN n :=
  Ref.same_yes v _ [1, 2, 3] _ (Sl.ofOwn (h.alloc _)) (Slw.new w [1, 2, 3] (by simp [maxLen])).sl

set_option maxHeartbeats 1000000 in
theorem alive_any (w : World) : Calls Try.prog 15 #[] w fun e w' => e = .returned (.bool true) ∧ Below w.heap.size w w' := by
  go_enter Try.func15, Try.ntmps15
  go_wp2_with fail
  refine (new_any w).mono ?_
  rintro e w1 ⟨rfl, hw1⟩
  have hq1 := Queue.new w
  rw [hw1] at hq1
  have hO1 : Only (fun j => j = w.heap.size) w w1 := by rw [← hw1]; exact (Only.refl _ w).alloc _
  have HQ1 := Lib.hid hq1
  clear hw1 hq1
  go_wp2_with fail
  refine (put7 w1 _ HQ1.out).mono ?_
  rintro e w2 ⟨rfl, S2, hQ2, hO2, hG2⟩
  have HQ2 := Lib.hid hQ2
  clear hQ2
  go_wp2_with fail
  refine (many7 _).mono ?_
  rintro e w3 ⟨rfl, rfl⟩
  go_wp2_with fail
  refine (batch7 _ _ _ HQ2.out).mono ?_
  rintro e w4 ⟨v, S4, rfl, hown, hQ4, hO4, hG4, hOff⟩
  have HL4 := Lib.hid (len_any _ _ _ _ hQ4 (by simp))
  have HQ4 := Lib.hid hQ4
  have HOwn : Hid (OwnI w4 w2.heap.size v [1, 2, 3]) := hown
  obtain ⟨av, cv, rfl⟩ := own_len hown
  clear hown hQ4
  go_wp2_with fail
  refine (same3 _ _ _ HOwn.out).mono ?_
  rintro e w5 ⟨rfl, n, hw5⟩
  have hQ5 : Queue w5 w.heap.size S4 [4, 5, 6, 7] := by rw [hw5]; exact (HQ4.out.below (below_alloc (Below.refl _ _) _)).drewN n
  have HL5 := Lib.hid (len_any _ _ _ _ hQ5 (by simp))
  have hO5 : Only S2 w2 w5 := by rw [hw5]; exact (hO4.alloc _).drewN n
  clear hQ5 hw5 HL4
  go_wp2_with fail
  refine HL5.out.mono ?_
  rintro e w6 ⟨rfl, n6, rfl⟩
  go_wp2_with fail
  go_ret
  refine ⟨rfl, ?_⟩
  have hA : Only (fun j => j = w.heap.size) w (w5.drewN n6) := ((hO1.trans hO2).andThen hO5 (fun j hj hs => (hG2 j hs).elim id (fun x => by have := hO1.size; omega))).drewN n6
  exact hA.toBelow (Nat.le_refl _) (fun k hk => by omega)

end Go.Proofs.Ytgahkcbkpnehfaa.Glob
