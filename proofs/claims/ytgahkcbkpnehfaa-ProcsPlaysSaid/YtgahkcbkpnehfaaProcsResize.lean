/- Chapter 23: the contract of Resize. -/
import Derived.Test.YtgahkcbkpnehfaaProcsNew
namespace Go.Proofs.Ytgahkcbkpnehfaa.Procs
open Go.RowKit Go.Esc
open Go.Proofs.Ytgahkcbkpnehfaa.Ring (Rw Sg allL)
open Go.Proofs.Ytgahkcbkpnehfaa.Glob (Gr Queue right PutP)
set_option linter.unusedVariables false

/-- One ring is another one then. -/
def updR (R : Nat → Rn) (i : Nat) (nx : Int) (row : List Int) : Nat → Rn := fun j => if j = i then ⟨(R i).b, (R i).g, nx, row⟩ else R j
theorem updR_b (R : Nat → Rn) (i : Nat) (nx : Int) (row : List Int) (j : Nat) : (updR R i nx row j).b = (R j).b := by unfold updR; split <;> simp_all
theorem updR_g (R : Nat → Rn) (i : Nat) (nx : Int) (row : List Int) (j : Nat) : (updR R i nx row j).g = (R j).g := by unfold updR; split <;> simp_all
theorem updR_self (R : Nat → Rn) (i : Nat) (nx : Int) (row : List Int) : updR R i nx row i = ⟨(R i).b, (R i).g, nx, row⟩ := by simp [updR]
theorem updR_ne (R : Nat → Rn) (i : Nat) (nx : Int) (row : List Int) {j : Nat} (h : j ≠ i) : updR R i nx row j = R j := by simp [updR, h]
theorem ptrs_updR (n : Nat) (R : Nat → Rn) (i : Nat) (nx : Int) (row : List Int) : ptrs n (updR R i nx row) = ptrs n R := by
  unfold ptrs; apply List.map_congr_left; intro j _; rw [updR_b]
theorem Pf_updR {p : Nat} {rv : Value} {n : Nat} {R : Nat → Rn} {i : Nat} {nx : Int} {row : List Int} : Pf p rv n (updR R i nx row) = Pf p rv n R := by
  funext j
  unfold Pf
  simp only [updR_b, updR_g]
theorem Prc.turn {w w1 : World} {p : Nat} {rv : Value} {n : Nat} {R : Nat → Rn} {i : Nat} {nx : Int} {row : List Int} (h : Prc w p rv n R) (hi : i < n) (hR : Rw w1 (R i).b (R i).g 256 nx row) (hO : Only (Sg (R i).b (R i).g) w w1) : Prc w1 p rv n (updR R i nx row) := by
  refine ⟨h.blk.only hO (h.rp i hi), ?_, ?_, h.np, ?_, ?_, ?_⟩
  · rw [ptrs_updR]; exact h.own.off hO (h.rr i hi)
  · intro j hj
    by_cases e : j = i
    · subst e; rw [updR_self]; exact hR
    · rw [updR_ne _ _ _ _ e]
      exact (h.ring j hj).only hO (h.dis j i hj hi e)
  · intro j hj; rw [updR_b, updR_g]; exact h.rp j hj
  · intro j hj; rw [updR_b, updR_g]; exact h.rr j hj
  · intro j k hj hk hne; rw [updR_b, updR_g, updR_b, updR_g]; exact h.dis j k hj hk hne

/-- Who waits for all when the rings from m on are drained. -/
def dr (R : Nat → Rn) (m : Nat) (L : List Int) : Nat → List Int
  | 0 => L
  | k + 1 => right (allL (R (m + k)).nx (R (m + k)).row) ++ dr R m L k
def emp (R : Nat → Rn) (m k : Nat) : Nat → Rn := fun i => if m ≤ i ∧ i < m + k then ⟨(R i).b, (R i).g, 0, []⟩ else R i
theorem emp_zero (R : Nat → Rn) (m : Nat) : emp R m 0 = R := by funext i; simp [emp]; omega
theorem emp_succ (R : Nat → Rn) (m k : Nat) : updR (emp R m k) (m + k) 0 [] = emp R m (k + 1) := by
  funext i
  unfold updR emp
  by_cases e : i = m + k
  · subst e; simp
  · by_cases h : m ≤ i ∧ i < m + k
    · rw [if_neg e, if_pos h, if_pos (by omega)]
    · rw [if_neg e, if_neg h, if_neg (by omega)]
theorem emp_at (R : Nat → Rn) (m k : Nat) : emp R m k (m + k) = R (m + k) := by simp [emp]
theorem emp_lt (R : Nat → Rn) (m k : Nat) {i : Nat} (h : i < m) : emp R m k i = R i := by simp [emp]; omega
theorem emp_b (R : Nat → Rn) (m k i : Nat) : (emp R m k i).b = (R i).b ∧ (emp R m k i).g = (R i).g := by unfold emp; split <;> simp
theorem Pf_emp {p : Nat} {rv : Value} {n m k : Nat} {R : Nat → Rn} : Pf p rv n (emp R m k) = Pf p rv n R := by
  funext j
  unfold Pf
  simp only [(emp_b R m k _).1, (emp_b R m k _).2]

/-- The rings and the queue beside them. -/
structure PQ (w : World) (p : Nat) (rv : Value) (n : Nat) (R : Nat → Rn) (q : Nat) (S : Nat → Prop) (L : List Int) : Prop where
  prc : Prc w p rv n R
  que : Queue w q S L
  dis : ∀ j, Pf p rv n R j → ¬ S j
def Pb (p : Nat) (rv : Value) (n : Nat) (R : Nat → Rn) (S : Nat → Prop) (j : Nat) : Prop := Pf p rv n R j ∨ S j
theorem PQ.below {w w' : World} {p : Nat} {rv : Value} {n : Nat} {R : Nat → Rn} {q : Nat} {S : Nat → Prop} {L : List Int} (h : PQ w p rv n R q S L) (hb : Below w.heap.size w w') : PQ w' p rv n R q S L := ⟨h.prc.below hb, h.que.below hb, h.dis⟩
theorem PQ.drewN {w : World} {p : Nat} {rv : Value} {n : Nat} {R : Nat → Rn} {q : Nat} {S : Nat → Prop} {L : List Int} (h : PQ w p rv n R q S L) (k : Nat) : PQ (w.drewN k) p rv n R q S L := ⟨h.prc.drewN k, h.que.drewN k, h.dis⟩
theorem PQ.only {w w' : World} {T : Nat → Prop} {p : Nat} {rv : Value} {n : Nat} {R : Nat → Rn} {q : Nat} {S : Nat → Prop} {L : List Int} (h : PQ w p rv n R q S L) (ho : Only T w w') (hs : ∀ j, Pb p rv n R S j → ¬ T j) : PQ w' p rv n R q S L := ⟨h.prc.only ho (fun j hj => hs j (.inl hj)), h.que.only ho (fun j hj => hs j (.inr hj)), h.dis⟩
theorem PQ.lt {w : World} {p : Nat} {rv : Value} {n : Nat} {R : Nat → Rn} {q : Nat} {S : Nat → Prop} {L : List Int} (h : PQ w p rv n R q S L) {j : Nat} (hj : Pb p rv n R S j) : j < w.heap.size := hj.elim (fun x => h.prc.lt x) (fun x => h.que.lt x)

/-- A ring turns. -/
theorem PQ.turn {w w1 : World} {p : Nat} {rv : Value} {n : Nat} {R : Nat → Rn} {q : Nat} {S : Nat → Prop} {L : List Int} {i : Nat} {nx : Int} {row : List Int} (h : PQ w p rv n R q S L) (hi : i < n) (hR : Rw w1 (R i).b (R i).g 256 nx row) (hO : Only (Sg (R i).b (R i).g) w w1) : PQ w1 p rv n (updR R i nx row) q S L :=
  ⟨h.prc.turn hi hR hO, h.que.only hO (fun j hj hs => h.dis j (.inr (.inr ⟨i, hi, hs⟩)) hj), fun j hj => h.dis j (by rw [Pf_updR] at hj; exact hj)⟩
/-- The queue turns. -/
theorem PQ.queue {w w1 : World} {p : Nat} {rv : Value} {n : Nat} {R : Nat → Rn} {q : Nat} {S S' : Nat → Prop} {L L' : List Int} (h : PQ w p rv n R q S L) (hQ : Queue w1 q S' L') (hO : Only S w w1) (hG : Gr S S' w) : PQ w1 p rv n R q S' L' :=
  ⟨h.prc.only hO h.dis, hQ, fun j hj hs => (hG j hs).elim (h.dis j hj) (fun x => by have := h.prc.lt hj; omega)⟩

/-- A round of the drain. -/
theorem dr_round {w wr w1 w2 : World} {p : Nat} {rv : Value} {n m k : Nat} {R : Nat → Rn} {q : Nat} {S S1 S2 : Nat → Prop} {L : List Int} (hk : m + k < n)
    (h : PQ wr p rv n (emp R m k) q S1 (dr R m L k)) (hO : Only (Pb p rv n R S) w wr) (hG : Gr S S1 w)
    (hR : Rw w1 (R (m + k)).b (R (m + k)).g 256 0 []) (hO1 : Only (Sg (R (m + k)).b (R (m + k)).g) wr w1)
    (hQ : Queue w2 q S2 (right (allL (R (m + k)).nx (R (m + k)).row) ++ dr R m L k)) (hO2 : Only S1 w1 w2) (hG2 : Gr S1 S2 w1) :
    PQ w2 p rv n (emp R m (k + 1)) q S2 (dr R m L (k + 1)) ∧ Only (Pb p rv n R S) w w2 ∧ Gr S S2 w := by
  have h1 : PQ w1 p rv n (updR (emp R m k) (m + k) 0 []) q S1 (dr R m L k) := h.turn hk (by rw [emp_at]; exact hR) (by rw [emp_at]; exact hO1)
  rw [emp_succ] at h1
  refine ⟨h1.queue hQ hO2 hG2, ?_, hG.trans hG2 (Nat.le_trans hO.size hO1.size)⟩
  exact (hO.andThen hO1 (fun j hj hs => .inl (.inr (.inr ⟨m + k, hk, hs⟩)))).andThen hO2 (fun j hj hs => (hG j hs).elim .inr (fun x => by omega))

theorem dr_len {w : World} {p : Nat} {rv : Value} {n : Nat} {R : Nat → Rn} (h : Prc w p rv n R) (m : Nat) (L : List Int) (k : Nat) (hk : m + k ≤ n) : (dr R m L k).length ≤ L.length + 257 * k := by
  induction k with
  | zero => simp [dr]
  | succ k ih =>
    have h1 := ih (by omega)
    have h2 := lenR_le h (m + k) (by omega)
    have h3 : (right (allL (R (m + k)).nx (R (m + k)).row)).length ≤ (allL (R (m + k)).nx (R (m + k)).row).length := List.length_filter_le _ _
    unfold lenR at h2
    simp only [dr, List.length_append]
    omega

/-- p.l = p.l[:k:k] -/
theorem Prc.cut {w : World} {p g cap n k : Nat} {R : Nat → Rn} (h : Prc w p (.slice (some ⟨g, 0, none⟩) n cap) n R) (hk : k ≤ n) :
    Prc (w.setCell ⟨p, 0, none⟩ (.slice (some ⟨g, 0, none⟩) k k)) p (.slice (some ⟨g, 0, none⟩) k k) k R := by
  have ho : Only (fun j => j = p) w (w.setCell ⟨p, 0, none⟩ (.slice (some ⟨g, 0, none⟩) k k)) := (Only.refl (fun j => j = p) w).set (.inr rfl) 0 _
  have hnp : g ≠ p := fun e => h.np (by rw [e]; rfl)
  refine ⟨h.blk.set 0 _, ?_, ?_, fun e => by simp [Value.ownBlock] at e; exact hnp e, fun i hi => h.rp i (by omega), fun i hi j hj hs => h.rr i (by omega) j hj hs, fun i j hi hj => h.dis i j (by omega) (by omega)⟩
  · have h1 := h.own.cut k hk
    rw [show (ptrs n R).take (k * 1) = ptrs k R from by simp [ptrs, ← List.map_take, List.take_range]; congr 2; omega] at h1
    exact h1.off ho (fun j hj e => by simp [Value.ownBlock] at hj; omega)
  · intro i hi
    exact (h.ring i (by omega)).only ho (fun j hj e => h.rp i (by omega) (e ▸ hj))
theorem Pf_cut {p g n k cap : Nat} {R : Nat → Rn} (hk : k ≤ n) {j : Nat} (h : Pf p (.slice (some ⟨g, 0, none⟩) k k) k R j) : Pf p (.slice (some ⟨g, 0, none⟩) n cap) n R j := by
  rcases h with h | h | ⟨i, hi, h⟩
  · exact .inl h
  · exact .inr (.inl h)
  · exact .inr (.inr ⟨i, by omega, h⟩)

def ResPost (p : Nat) (rv : Value) (n m : Nat) (R : Nat → Rn) (q : Nat) (S : Nat → Prop) (L : List Int) (w : World) (e : Ending) (w' : World) : Prop :=
  e = .returned (.int .i64 0) ∧ ∃ rv' R' S', PQ w' p rv' m R' q S' (dr R m L (n - m)) ∧ Only (Pb p rv n R S) w w' ∧ Gr (Pb p rv n R S) (Pb p rv' m R' S') w ∧ (∀ i, i < m → i < n → R' i = R i) ∧ (∀ i, n ≤ i → i < m → (R' i).nx = 0 ∧ (R' i).row = [])

theorem res_end {w wr w2 : World} {p g cap : Nat} {n m : Nat} {R R' : Nat → Rn} {rv' : Value} {q : Nat} {S S1 : Nat → Prop} {L : List Int}
    (h : PQ wr p (.slice (some ⟨g, 0, none⟩) n cap) n (emp R m (n - m)) q S1 (dr R m L (n - m))) (hO : Only (Pb p (.slice (some ⟨g, 0, none⟩) n cap) n R S) w wr) (hG : Gr S S1 w)
    (hg : Grw p (.slice (some ⟨g, 0, none⟩) (min m n) (min m n)) (min m n) (emp R m (n - m)) (wr.setCell ⟨p, 0, none⟩ (.slice (some ⟨g, 0, none⟩) (min m n) (min m n))) rv' m R' w2) :
    ResPost p (.slice (some ⟨g, 0, none⟩) n cap) n m R q S L w (.returned (.int .i64 0)) w2 := by
  have hk : min m n ≤ n := Nat.min_le_right _ _
  have hsub : ∀ j, Pf p (.slice (some ⟨g, 0, none⟩) (min m n) (min m n)) (min m n) (emp R m (n - m)) j → Pf p (.slice (some ⟨g, 0, none⟩) n cap) n R j := fun j hj => by
    have := Pf_cut (cap := cap) hk hj
    rw [Pf_emp] at this
    exact this
  have hO1 : Only (Pf p (.slice (some ⟨g, 0, none⟩) n cap) n R) wr w2 := ((Only.refl (Pf p (.slice (some ⟨g, 0, none⟩) n cap) n R) wr).set (.inr (.inl rfl)) 0 _).trans (hg.only.mono (fun j _ hj => hsub j hj))
  have hQ : Queue w2 q S1 (dr R m L (n - m)) := h.que.only hO1 (fun j hj hs => h.dis j (by rw [Pf_emp]; exact hs) hj)
  have hgr : ∀ j, Pf p rv' m R' j → Pf p (.slice (some ⟨g, 0, none⟩) n cap) n R j ∨ wr.heap.size ≤ j := fun j hj => (hg.gr j hj).imp (hsub j) (fun x => by simpa [World.setCell] using x)
  have hsz := hO.size
  refine ⟨rfl, rv', R', S1, ⟨hg.prc, hQ, fun j hj hs => ?_⟩, hO.andThen hO1 (fun j hj hs => .inl hs), fun j hj => ?_, fun i h1 h2 => ?_, fun i h1 h2 => hg.new i (by omega) h2⟩
  · rcases hgr j hj with h' | h'
    · exact h.dis j (by rw [Pf_emp]; exact h') hs
    · have := h.que.lt hs; omega
  · rcases hj with hj | hj
    · exact (hgr j hj).imp .inl (fun x => by omega)
    · exact (hG j hj).imp .inr id
  · rw [hg.old i (by omega), emp_lt _ _ _ h1]

set_option maxHeartbeats 4000000 in
theorem resize_any (p : Nat) (rv : Value) (n m : Nat) (R : Nat → Rn) (q : Nat) (S : Nat → Prop) (L : List Int) (w : World) (h : PQ w p rv n R q S L) (hn1 : 1 ≤ n) (hn : n ≤ 256) (hm1 : 1 ≤ m) (hm : m ≤ 256) (hl : L.length + 257 * n < 1000000) :
    Calls Try.prog 46 #[.pointer (some ⟨p, 0, none⟩), .int .i64 m, .pointer (some ⟨q, 0, none⟩)] w (ResPost p rv n m R q S L w) := by
  obtain ⟨g, cap, rfl⟩ : ∃ g cap, rv = .slice (some ⟨g, 0, none⟩) n cap := by
    rcases h.prc.own.open with ⟨_, h0⟩ | ⟨g, cap, h0, _⟩
    · omega
    · exact ⟨g, cap, h0⟩
  have HI := Lib.hid (is_any m w)
  rw [decide_eq_true ⟨by omega, by omega⟩] at HI
  have HH := Lib.hid h
  clear h
  go_enter Try.func46, Try.ntmps46
  go_wp2_with fail
  refine HI.out.mono ?_
  rintro e w1 ⟨rfl, rfl⟩
  go_wp2_with fail
  go_loopw [8] (fun i wr => ∃ (k : Nat) (S1 : Nat → Prop), k ≤ n - m ∧ i = .int .i64 ((m + k : Nat) : Int) ∧ PQ wr p (.slice (some ⟨g, 0, none⟩) n cap) n (emp R m k) q S1 (dr R m L k) ∧ Only (Pb p (.slice (some ⟨g, 0, none⟩) n cap) n R S) w wr ∧ Gr S S1 w) (fun i _ => n - (intOf i).toNat)
  case atStart => exact ⟨0, S, Nat.zero_le _, by simp, by rw [emp_zero]; exact HH.out, Only.refl _ _, Gr.refl _ _⟩
  case round =>
    obtain ⟨k, S1, hk, rfl, hPQ, hO, hG⟩ := hrel
    have c0 := hPQ.prc.blk.cell 0
    simp only [List.getElem?_toArray, List.getElem?_cons_zero] at c0
    by_cases hlt : m + k < n
    · have hd : decide (m + k < n) = true := by simpa using hlt
      rcases hPQ.prc.own.open with ⟨_, h0⟩ | ⟨g', cap', he, _, hg, hc, hcells⟩
      · omega
      cases he
      have cx := hcells (m + k) (by omega)
      rw [ptrs_at n _ (m + k) hlt, emp_at] at cx
      have hR := hPQ.prc.ring (m + k) hlt
      rw [emp_at] at hR
      have HD := Lib.hid (Ring.drain_any _ _ _ _ _ _ hR)
      have HP := Lib.hid hPQ
      have HO := Lib.hid hO
      have HGr := Lib.hid hG
      have HLen : Hid ((dr R m L k).length + (allL (R (m + k)).nx (R (m + k)).row).length < 1000000) := by
        have h1 := dr_len HH.out.prc m L k (by omega)
        have h2 := lenR_le HH.out.prc (m + k) hlt
        unfold lenR at h2
        show _ < _
        omega
      obtain ⟨i, HIk⟩ : ∃ i, Hid (m + k = i) := ⟨_, rfl⟩
      rw [HIk.out] at cx HD hlt hd ⊢
      clear hcells hR hPQ hO hG
      go_wp2_with fail
      refine HD.out.mono ?_
      rintro e w2 ⟨v, rfl, hown, hRw, hO2⟩
      have HOwn := Lib.hid hown
      have HRw := Lib.hid hRw
      have HO2 := Lib.hid hO2
      have HF := Lib.hid (Glob.front_any q S1 (dr R m L k) v (allL (R i).nx (R i).row) w2 (HP.out.que.only hO2 (fun j hj hs => HP.out.dis j (.inr (.inr ⟨i, hlt, by rw [(emp_b R m k i).1, (emp_b R m k i).2]; exact hs⟩)) hj)) (Slw.ofOwn hown) (fun _ j hj hs => by have h1 := (hown.lt j hj).1; have h2 := HP.out.que.lt hs; omega) (by rw [← HIk.out]; exact HLen.out))
      obtain ⟨av, cv, rfl⟩ := Glob.own_len hown
      clear hown hRw hO2
      go_wp2_with fail
      refine HF.out.mono ?_
      rintro e w3 ⟨rfl, S3, hQ3, hO3, hG3⟩
      have HQ3 := Lib.hid hQ3
      have HO3 := Lib.hid hO3
      have HG3 := Lib.hid hG3
      clear hQ3 hO3 hG3
      go_wp2_with fail
      go_roundw
      case rel =>
        have hI := HIk.out
        subst hI
        obtain ⟨h1, h2, h3⟩ := dr_round hlt HP.out HO.out HGr.out HRw.out HO2.out HQ3.out HO3.out HG3.out
        exact ⟨k + 1, S3, by omega, by go_num, h1, h2, h3⟩
      case measure => simp [intOf]; omega
    · have hd : decide (m + k < n) = false := by simpa using hlt
      obtain rfl : k = n - m := by omega
      have f0 := hPQ.prc.blk.free 0
      have HP := Lib.hid hPQ
      have HO := Lib.hid hO
      have HGr := Lib.hid hG
      have HGw := Lib.hid (grow_any p _ (min m n) m _ _ (HP.out.prc.cut (k := min m n) (Nat.min_le_right _ _)) (by omega) hm)
      have hcap : n ≤ cap := by
        rcases hPQ.prc.own.open with ⟨_, h0⟩ | ⟨g', cap', he, _, hg, hc, hcells⟩
        · omega
        · cases he; exact hc
      have hE := fun w2 rv' R' => res_end (w2 := w2) (rv' := rv') (R' := R') HP.out HO.out HGr.out
      have HE := Lib.hid hE
      clear hPQ hO hG hE
      by_cases hnm : n < m
      · have hle : n ≤ m := by omega
        have hle2 : n ≤ n := by omega
        rw [show min m n = n by omega] at HGw HE
        go_wp2_with fail
        refine HGw.out.mono ?_
        rintro e w3 ⟨⟨v, rfl⟩, rv', R', hg⟩
        rw [Nat.max_eq_right hle] at hg
        have HGg := Lib.hid hg
        clear hg
        go_wp2_with fail
        go_ret
        exact HE.out _ _ _ HGg.out
      · have hle : m ≤ m := by omega
        have hle2 : m ≤ n := by omega
        rw [show min m n = m by omega] at HGw HE
        go_wp2_with fail
        refine HGw.out.mono ?_
        rintro e w3 ⟨⟨v, rfl⟩, rv', R', hg⟩
        rw [Nat.max_eq_right hle] at hg
        have HGg := Lib.hid hg
        clear hg
        go_wp2_with fail
        go_ret
        exact HE.out _ _ _ HGg.out
end Go.Proofs.Ytgahkcbkpnehfaa.Procs
