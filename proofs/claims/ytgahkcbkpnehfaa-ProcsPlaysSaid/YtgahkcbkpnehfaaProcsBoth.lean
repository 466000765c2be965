/- Chapter 23: the program's rings and the document's, side by side: laws. -/
import Derived.Test.YtgahkcbkpnehfaaRefResize
import Derived.Test.YtgahkcbkpnehfaaProcsPlain
namespace Go.Proofs.Ytgahkcbkpnehfaa.Procs
open Go.RowKit Go.Esc
open Go.Proofs.Ytgahkcbkpnehfaa.Ring (Rw Sg allL RefR Turned getR grabR)
open Go.Proofs.Ytgahkcbkpnehfaa.Glob (Gr Queue)
set_option linter.unusedVariables false

structure Bt (w0 w : World) (p : Nat) (rv : Value) (n : Nat) (R : Nat → Rn) (q : Nat) (S : Nat → Prop) (L : List Int) (d g cap : Nat) (cs : Array Value) (vs : Nat → Value) (gv : Value) : Prop where
  pq : PQ w p rv n R q S L
  dp : Dp w d g n cap cs vs gv R L
  dis : ∀ j, Df d g n vs gv j → ¬ Pb p rv n R S j
  new : ∀ j, Pb p rv n R S j → w0.heap.size ≤ j
  newd : ∀ j, Df d g n vs gv j → w0.heap.size ≤ j
  bel : Below w0.heap.size w0 w
  pos : ∀ i, i < n → posr (R i).row
def Bth (w0 w : World) (p q d n : Nat) (R : Nat → Rn) (L : List Int) : Prop := ∃ rv S g cap cs vs gv, Bt w0 w p rv n R q S L d g cap cs vs gv

theorem Bt.below {w0 w w' : World} {p : Nat} {rv : Value} {n : Nat} {R : Nat → Rn} {q : Nat} {S : Nat → Prop} {L : List Int} {d g cap : Nat} {cs : Array Value} {vs : Nat → Value} {gv : Value} (h : Bt w0 w p rv n R q S L d g cap cs vs gv) (hb : Below w.heap.size w w') : Bt w0 w' p rv n R q S L d g cap cs vs gv :=
  ⟨h.pq.below hb, h.dp.below hb, h.dis, h.new, h.newd, below_below h.bel hb, h.pos⟩
theorem Bth.below {w0 w w' : World} {p q d n : Nat} {R : Nat → Rn} {L : List Int} (h : Bth w0 w p q d n R L) (hb : Below w.heap.size w w') : Bth w0 w' p q d n R L := by
  obtain ⟨rv, S, g, cap, cs, vs, gv, h⟩ := h
  exact ⟨rv, S, g, cap, cs, vs, gv, h.below hb⟩
/-- What the program's side may turn, and a block that is neither's. -/
theorem Bt.box {w0 w : World} {p : Nat} {rv : Value} {n : Nat} {R : Nat → Rn} {q : Nat} {S : Nat → Prop} {L : List Int} {d g cap : Nat} {cs : Array Value} {vs : Nat → Value} {gv : Value} (h : Bt w0 w p rv n R q S L d g cap cs vs gv) : ¬ Pb p rv n R S w.heap.size ∧ ¬ Df d g n vs gv w.heap.size :=
  ⟨fun hj => by have := h.pq.lt hj; omega, fun hj => by have := h.dp.lt hj; omega⟩
theorem dj_dr {R : Nat → Rn} {n m : Nat} (hp : ∀ i, i < n → posr (R i).row) (L : List Int) : ∀ k, m + k ≤ n → dj R m L k = dr R m L k := by
  intro k
  induction k with
  | zero => intro _; rfl
  | succ k ih =>
    intro hk
    rw [dj, dr, ih (by omega), right_all (all_pos (hp (m + k) (by omega)))]

/-- Both turn a ring. -/
theorem Bt.turn {w0 w w1 w2 : World} {p : Nat} {rv : Value} {n : Nat} {R : Nat → Rn} {q : Nat} {S : Nat → Prop} {L : List Int} {d g cap : Nat} {cs cs' : Array Value} {vs : Nat → Value} {gv v' : Value} {i : Nat} {nx : Int} {row : List Int} (h : Bt w0 w p rv n R q S L d g cap cs vs gv) (hi : i < n)
    (hR : Rw w1 (R i).b (R i).g 256 nx row) (hO : Only (Sg (R i).b (R i).g) w w1) (hr : RefR w2 g (i * 3) cs' 54 256 nx v' row) (ht : Turned g (i * 3) cs cs' (vs i) v' w1 w2) (hp : posr row) :
    Bt w0 w2 p rv n (updR R i nx row) q S L d g cap cs' (updV vs i v') gv := by
  obtain ⟨hrl, _, _, hnx, _⟩ := hR.nums
  have hsub : ∀ j, Sg (R i).b (R i).g j → Pb p rv n R S j := fun j hj => .inl (.inr (.inr ⟨i, hi, hj⟩))
  have hpq1 := h.pq.turn hi hR hO
  have hdp1 := h.dp.only hO (fun j hj hs => h.dis j hj (hsub j hs))
  have hPb : Pb p rv n (updR R i nx row) S = Pb p rv n R S := by funext j; unfold Pb; rw [Pf_updR]
  have hG := Df_turn (d := d) (gv := gv) ht hi
  have hs1 := hO.size
  have hs0 := h.bel.size
  have hb1 : Below w0.heap.size w0 w1 := below_only h.bel hO (fun j hj => h.new j (hsub j hj))
  refine ⟨hpq1.only ht.only (fun j hj e => h.dis g (.inr (.inl rfl)) (by rw [hPb] at hj; rw [← show j = g from e]; exact hj)), hdp1.turn hi hr ht hnx hrl, fun j hj hs => ?_, fun j hj => h.new j (by rw [hPb] at hj; exact hj), fun j hj => ?_, below_only hb1 ht.only (fun j hj => h.newd j (.inr (.inl hj))), upd_pos h.pos hp⟩
  · rcases hG j hj with h' | h'
    · exact h.dis j h' (by rw [hPb] at hs; exact hs)
    · have := hpq1.lt hs; omega
  · rcases hG j hj with h' | h'
    · exact h.newd j h'
    · omega
/-- The document's ring behind the program's act. -/
theorem Bt.mid {w0 w w1 : World} {p : Nat} {rv : Value} {n : Nat} {R : Nat → Rn} {q : Nat} {S : Nat → Prop} {L : List Int} {d g cap : Nat} {cs : Array Value} {vs : Nat → Value} {gv : Value} {i : Nat} (h : Bt w0 w p rv n R q S L d g cap cs vs gv) (hi : i < n) (hO : Only (Sg (R i).b (R i).g) w w1) : RefR w1 g (i * 3) cs 54 256 (R i).nx (vs i) (R i).row ∧ 0 ≤ (R i).nx ∧ (R i).row.length ≤ 256 :=
  ⟨(h.dp.only hO (fun j hj hs => h.dis j hj (.inl (.inr (.inr ⟨i, hi, hs⟩))))).ring i hi, h.dp.nums i hi⟩

/-- Both come to have more or fewer rings. -/
theorem Bt.resized {w0 w w1 w2 : World} {p : Nat} {rv rv1 : Value} {n m : Nat} {R R1 : Nat → Rn} {q : Nat} {S S1 : Nat → Prop} {L : List Int} {d g cap g2 cap2 : Nat} {cs cs2 : Array Value} {vs vs2 : Nat → Value} {gv gv2 : Value} (h : Bt w0 w p rv n R q S L d g cap cs vs gv)
    (hPQ : PQ w1 p rv1 m R1 q S1 (dr R m L (n - m))) (hO : Only (Pb p rv n R S) w w1) (hG : Gr (Pb p rv n R S) (Pb p rv1 m R1 S1) w) (hold : ∀ i, i < m → i < n → R1 i = R i) (hnew : ∀ i, n ≤ i → i < m → (R1 i).nx = 0 ∧ (R1 i).row = [])
    (hD : Dp w2 d g2 m cap2 cs2 vs2 gv2 (R2 R n) (dj R m L (n - m))) (hO2 : Only (fun j => j = d) w1 w2) (hG2 : Gr (Df d g n vs gv) (Df d g2 m vs2 gv2) w1) :
    Bt w0 w2 p rv1 m R1 q S1 (dr R m L (n - m)) d g2 cap2 cs2 vs2 gv2 := by
  have hs1 := hO.size
  have hs0 := h.bel.size
  have hdl : d < w.heap.size := h.dp.lt (.inl rfl)
  have hL : dj R m L (n - m) = dr R m L (n - m) := by
    by_cases e : m ≤ n
    · exact dj_dr h.pos L (n - m) (by omega)
    · rw [show n - m = 0 by omega]; rfl
  rw [hL] at hD
  have hb1 : Below w0.heap.size w0 w1 := below_only h.bel hO h.new
  refine ⟨hPQ.only hO2 (fun j hj e => ?_), hD.congr (fun i hi => ?_), fun j hj hs => ?_, fun j hj => ?_, fun j hj => ?_, below_only hb1 hO2 (fun j hj => h.newd j (.inl hj)), res_pos h.pos hold hnew⟩
  · have e' : j = d := e
    rcases hG j hj with h' | h'
    · exact h.dis d (.inl rfl) (e' ▸ h')
    · omega
  · unfold R2
    by_cases e : i < n
    · rw [if_pos e, hold i hi e]; exact ⟨rfl, rfl⟩
    · rw [if_neg e]; exact hnew i (by omega) hi
  · rcases hG2 j hj with h' | h'
    · rcases hG j hs with h'' | h''
      · exact h.dis j h' h''
      · have := h.dp.lt h'; omega
    · have := hPQ.lt hs; omega
  · rcases hG j hj with h' | h'
    · exact h.new j h'
    · omega
  · rcases hG2 j hj with h' | h'
    · exact h.newd j h'
    · omega
theorem Bt.dmid {w0 w w1 : World} {p : Nat} {rv : Value} {n : Nat} {R : Nat → Rn} {q : Nat} {S : Nat → Prop} {L : List Int} {d g cap : Nat} {cs : Array Value} {vs : Nat → Value} {gv : Value} (h : Bt w0 w p rv n R q S L d g cap cs vs gv) (hO : Only (Pb p rv n R S) w w1) : Dp w1 d g n cap cs vs gv R L := h.dp.only hO (fun j hj hs => h.dis j hj hs)
theorem get_pos {nx : Int} {row : List Int} (h : posr row) : posr (getR nx row) := by
  intro x hx
  unfold getR at hx
  split at hx
  · exact h x hx
  · exact h x (List.mem_of_mem_tail hx)
theorem grab_pos {row : List Int} (h : posr row) : posr (grabR row) := fun x hx => h x (List.mem_of_mem_drop hx)
end Go.Proofs.Ytgahkcbkpnehfaa.Procs
