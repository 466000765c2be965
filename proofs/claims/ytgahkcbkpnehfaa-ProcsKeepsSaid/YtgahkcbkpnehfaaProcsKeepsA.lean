/- Chapter 23: laws for the walk of ProcsKeeps; where nothing is played. -/
import Derived.Test.YtgahkcbkpnehfaaProcsPlain
import Derived.Test.YtgahkcbkpnehfaaProcsLists
import Derived.Test.YtgahkcbkpnehfaaProcsNilsWalk
import Derived.Test.YtgahkcbkpnehfaaRefSort
import Derived.Test.YtgahkcbkpnehfaaLists
import Derived.Test.YtgahkcbkpnehfaaRefRing
namespace Go.Proofs.Ytgahkcbkpnehfaa.Procs
open Go.RowKit Go.Esc
open Go.Proofs.Ytgahkcbkpnehfaa.Ring (Rw Sg allL putN putR putO)
open Go.Proofs.Ytgahkcbkpnehfaa.Glob (Gr Queue right PutP)
set_option linter.unusedVariables false

/-- The rings, the queue, and who came. -/
structure Kq (w0 w : World) (p : Nat) (rv : Value) (n : Nat) (R : Nat → Rn) (q : Nat) (S : Nat → Prop) (L : List Int) (vi : Value) (I : List Int) : Prop where
  pq : PQ w p rv n R q S L
  own : OwnI w w0.heap.size vi I
  off : Off (Pb p rv n R S) vi
  new : ∀ j, Pb p rv n R S j → w0.heap.size ≤ j
  bel : Below w0.heap.size w0 w
  pos : ∀ i, i < n → posr (R i).row
  perm : I.Perm (L ++ fl R n)
theorem Kq.drew {w0 w : World} {p : Nat} {rv : Value} {n : Nat} {R : Nat → Rn} {q : Nat} {S : Nat → Prop} {L : List Int} {vi : Value} {I : List Int} (h : Kq w0 w p rv n R q S L vi I) : Kq w0 w.drew p rv n R q S L vi I :=
  ⟨h.pq.drewN 1, h.own, h.off, h.new, below_drewN h.bel 1, h.pos, h.perm⟩
theorem Kq.below {w0 w w' : World} {p : Nat} {rv : Value} {n : Nat} {R : Nat → Rn} {q : Nat} {S : Nat → Prop} {L : List Int} {vi : Value} {I : List Int} (h : Kq w0 w p rv n R q S L vi I) (hb : Below w.heap.size w w') : Kq w0 w' p rv n R q S L vi I :=
  ⟨h.pq.below hb, h.own.below hb, h.off, h.new, below_below h.bel hb, h.pos, h.perm⟩
/-- Behind r.Put and q.Put. -/
theorem Kq.mid {w0 w w2 w3 : World} {p : Nat} {rv : Value} {n : Nat} {R : Nat → Rn} {q : Nat} {S S3 : Nat → Prop} {L out : List Int} {vi : Value} {I : List Int} {i : Nat} {nx : Int} {row : List Int} (h : Kq w0 w p rv n R q S L vi I) (hi : i < n)
    (hR : Rw w2 (R i).b (R i).g 256 nx row) (hO : Only (Sg (R i).b (R i).g) w w2) (hQ : Queue w3 q S3 (L ++ right out)) (hO3 : Only S w2 w3) (hG : Gr S S3 w2) (hp : posr out) :
    Below w0.heap.size w0 w3 ∧ OwnI w3 w0.heap.size vi I ∧ PQ w3 p rv n (updR R i nx row) q S3 (L ++ out) ∧ Off (Pb p rv n R S3) vi ∧ (∀ j, Pb p rv n R S3 j → w0.heap.size ≤ j) := by
  rw [right_all hp] at hQ
  have h2 := h.pq.turn hi hR hO
  have hs1 := hO.size
  have hs0 := h.bel.size
  have hsub : ∀ j, Sg (R i).b (R i).g j → Pb p rv n R S j := fun j hj => .inl (.inr (.inr ⟨i, hi, hj⟩))
  have o2 := h.own.off hO (fun j hj hs => h.off j hj (hsub j hs))
  have o3 := o2.off hO3 (fun j hj hs => h.off j hj (.inr hs))
  have hnew : ∀ j, Pb p rv n R S3 j → Pb p rv n R S j ∨ w2.heap.size ≤ j := fun j hj => hj.elim (fun x => .inl (.inl x)) (fun x => (hG j x).imp .inr id)
  refine ⟨below_only (below_only h.bel hO (fun j hj => h.new j (hsub j hj))) hO3 (fun j hj => h.new j (.inr hj)), o3, h2.queue hQ hO3 hG, fun j hj hs => ?_, fun j hj => ?_⟩
  · rcases hnew j hs with h' | h'
    · exact h.off j hj h'
    · have := (o2.lt j hj).2; omega
  · rcases hnew j hj with h' | h'
    · exact h.new j h'
    · omega
theorem Pb_updR {p : Nat} {rv : Value} {n : Nat} {R : Nat → Rn} {S : Nat → Prop} {i : Nat} {nx : Int} {row : List Int} : Pb p rv n (updR R i nx row) S = Pb p rv n R S := by
  funext j; unfold Pb; rw [Pf_updR]
theorem Kq.put {w0 w w3 w4 : World} {p : Nat} {rv : Value} {n : Nat} {R : Nat → Rn} {q : Nat} {S S3 : Nat → Prop} {L : List Int} {vi vi' : Value} {I : List Int} {i : Nat} {x : Int} {nb : Bool} {tmp : Obj} (h : Kq w0 w p rv n R q S L vi I) (hi : i < n)
    (hm : Below w0.heap.size w0 w3 ∧ OwnI w3 w0.heap.size vi I ∧ PQ w3 p rv n (updR R i (putN (R i).nx x nb) (putR 256 (R i).nx (R i).row x nb)) q S3 (L ++ putO 256 (R i).nx (R i).row x nb) ∧ Off (Pb p rv n R S3) vi ∧ (∀ j, Pb p rv n R S3 j → w0.heap.size ≤ j))
    (hA : Appd (w3.alloc tmp) w0.heap.size vi I [x] vi' w4) (hx : 1 ≤ x) (hp : posr (putR 256 (R i).nx (R i).row x nb)) (hnx : 0 ≤ (R i).nx) :
    Kq w0 w4 p rv n (updR R i (putN (R i).nx x nb) (putR 256 (R i).nx (R i).row x nb)) q S3 (L ++ putO 256 (R i).nx (R i).row x nb) vi' (I ++ [x]) := by
  obtain ⟨hb, ho, hpq, hof, hnw⟩ := hm
  obtain ⟨ho4, hg, hxx⟩ := hA
  have hO4 : Only (fun j => vi.ownBlock = some j) w3 w4 := ((Only.refl _ w3).alloc tmp).grown hg (fun j e => .inr e)
  refine ⟨hpq.only hO4 (fun j hj e => hof j e (by rw [Pb_updR] at hj; exact hj)), ho4, fun j hj hs => ?_, fun j hj => hnw j (by rw [Pb_updR] at hj; exact hj), below_only hb hO4 (fun j e => (ho.lt j e).1), upd_pos h.pos hp, fl_put hi hx hnx h.perm⟩
  rcases hxx j hj with h' | h'
  · exact hof j h' (by rw [Pb_updR] at hs; exact hs)
  · have := hpq.lt hs
    simp at h'; omega
theorem Kq.len {w0 w : World} {p : Nat} {rv : Value} {n : Nat} {R : Nat → Rn} {q : Nat} {S : Nat → Prop} {L : List Int} {vi : Value} {I : List Int} (h : Kq w0 w p rv n R q S L vi I) : L.length ≤ I.length := by
  have := h.perm.length_eq
  rw [List.length_append] at this
  omega
theorem putO_len (nx : Int) (row : List Int) (x : Int) (q : Bool) (h : row.length ≤ 256) : (putO 256 nx row x q).length ≤ 257 := by
  unfold putO Ring.behindO
  repeat' split
  all_goals simp
  all_goals omega

set_option maxHeartbeats 1000000 in
theorem keeps_bad (w : World) (n : Int) (a : Option Addr) (len cap : Nat) (to : Int) (h : n < 1 ∨ 20 < n ∨ 60 < len ∨ (20 < to ∧ to ≤ 256)) :
    Calls Try.prog 10 #[.int .i64 n, .slice a len cap, .int .i64 to] w fun e w' => e = .returned (.bool true) ∧ Below w.heap.size w w' := by
  have HA := Lib.hid (alive_any w)
  by_cases h1 : n < 1
  · go_enter Try.func10, Try.ntmps10
    go_wp2_with fail
    refine HA.out.mono ?_
    rintro e w1 ⟨rfl, hB⟩
    have HB := Lib.hid hB
    clear hB
    go_wp2_with fail
    go_ret
    exact ⟨rfl, HB.out⟩
  have d1 : decide (n < 1) = false := by simpa using h1
  by_cases h2 : 20 < n
  · clear h
    go_enter Try.func10, Try.ntmps10
    go_wp2_with fail
    refine HA.out.mono ?_
    rintro e w1 ⟨rfl, hB⟩
    have HB := Lib.hid hB
    clear hB
    go_wp2_with fail
    go_ret
    exact ⟨rfl, HB.out⟩
  have d2 : decide (20 < n) = false := by simpa using h2
  by_cases h3 : 60 < len
  · have d3 : decide ((60 : Int) < (len : Int)) = true := by simp; omega
    clear h
    go_enter Try.func10, Try.ntmps10
    go_wp2_with fail
    refine HA.out.mono ?_
    rintro e w1 ⟨rfl, hB⟩
    have HB := Lib.hid hB
    clear hB
    go_wp2_with fail
    go_ret
    exact ⟨rfl, HB.out⟩
  have d3 : decide ((60 : Int) < (len : Int)) = false := by simp; omega
  have h4 : 20 < to := by omega
  have h5 : to ≤ 256 := by omega
  clear h
  go_enter Try.func10, Try.ntmps10
  go_wp2_with fail
  refine HA.out.mono ?_
  rintro e w1 ⟨rfl, hB⟩
  have HB := Lib.hid hB
  clear hB
  go_wp2_with fail
  go_ret
  exact ⟨rfl, HB.out⟩

/-- What Resize leaves, whatever it is asked. -/
structure Rz (w0 w w' : World) (p : Nat) (rv : Value) (n : Nat) (R : Nat → Rn) (q : Nat) (S : Nat → Prop) (L : List Int) (vi : Value) (I : List Int) (rv' : Value) (m : Nat) (R' : Nat → Rn) (S' : Nat → Prop) (L' : List Int) : Prop where
  kq : Kq w0 w' p rv' m R' q S' L' vi I
  only : Only (Pb p rv n R S) w w'
  old : ∀ i, i < m → i < n → R' i = R i
  le : m ≤ 20
theorem Kq.resized {w0 w w' : World} {p : Nat} {rv rv' : Value} {n m : Nat} {R R' : Nat → Rn} {q : Nat} {S S' : Nat → Prop} {L : List Int} {vi : Value} {I : List Int} (h : Kq w0 w p rv n R q S L vi I) (hm : m ≤ 20)
    (hpq : PQ w' p rv' m R' q S' (dr R m L (n - m))) (hO : Only (Pb p rv n R S) w w') (hG : Gr (Pb p rv n R S) (Pb p rv' m R' S') w) (hold : ∀ i, i < m → i < n → R' i = R i) (hnew : ∀ i, n ≤ i → i < m → (R' i).nx = 0 ∧ (R' i).row = []) :
    Rz w0 w w' p rv n R q S L vi I rv' m R' S' (dr R m L (n - m)) := by
  have hs := h.bel.size
  refine ⟨⟨hpq, h.own.off hO h.off, fun j hj hs' => ?_, fun j hj => ?_, below_only h.bel hO h.new, res_pos h.pos hold hnew, res_perm h.pos h.perm hold hnew⟩, hO, hold, hm⟩
  · rcases hG j hs' with h' | h'
    · exact h.off j hj h'
    · have := (h.own.lt j hj).2; omega
  · rcases hG j hj with h' | h'
    · exact h.new j h'
    · omega
theorem Kq.same {w0 w : World} {p : Nat} {rv : Value} {n : Nat} {R : Nat → Rn} {q : Nat} {S : Nat → Prop} {L : List Int} {vi : Value} {I : List Int} (h : Kq w0 w p rv n R q S L vi I) (hn : n ≤ 20) : Rz w0 w w p rv n R q S L vi I rv n R S L := ⟨h, Only.refl _ _, fun _ _ _ => rfl, hn⟩
theorem join_take (R : Nat → Rn) {k : Nat} (L : List Int) : L ++ fl R (k + 1) = (L ++ fl R k) ++ allL (R k).nx (R k).row := by rw [fl_succ, List.append_assoc]

end Go.Proofs.Ytgahkcbkpnehfaa.Procs
