/- Chapter 23: the document's rings in memory; the contracts of its Queues and Most. -/
import Derived.Test.YtgahkcbkpnehfaaProcsQueues
import Derived.Test.YtgahkcbkpnehfaaProcsMost
import Derived.Test.YtgahkcbkpnehfaaRefRingPut
namespace Go.Proofs.Ytgahkcbkpnehfaa.Procs
open Go.RowKit Go.Esc
open Go.Proofs.Ytgahkcbkpnehfaa.Ring (Rw Sg allL RefR Turned rlist_any)
open Go.Proofs.Ytgahkcbkpnehfaa.Glob (Gr)
set_option linter.unusedVariables false

/-- The document's rings, at block d, its row in block g. -/
structure Dp (w : World) (d g n cap : Nat) (cs : Array Value) (vs : Nat → Value) (gv : Value) (R : Nat → Rn) (L : List Int) : Prop where
  blk : Blk w d #[.slice (some ⟨g, 0, none⟩) n cap, gv] 72
  ring : ∀ i, i < n → RefR w g (i * 3) cs 54 256 (R i).nx (vs i) (R i).row
  dg : d ≠ g
  glob : Slw w gv L
  gd : gv.ownBlock ≠ some d
  gg : gv.ownBlock ≠ some g
  vd : ∀ i, i < n → (vs i).ownBlock ≠ some d
  vg : ∀ i, i < n → (vs i).ownBlock ≠ some g
  nc : n ≤ cap
  nums : ∀ i, i < n → 0 ≤ (R i).nx ∧ (R i).row.length ≤ 256
  gl : g < w.heap.size
  vl : ∀ i, i < n → ∀ j, (vs i).ownBlock = some j → j < w.heap.size
  gvl : ∀ j, gv.ownBlock = some j → j < w.heap.size
def Df (d g n : Nat) (vs : Nat → Value) (gv : Value) (j : Nat) : Prop := j = d ∨ j = g ∨ gv.ownBlock = some j ∨ ∃ i, i < n ∧ (vs i).ownBlock = some j
theorem Dp.only {S : Nat → Prop} {w w' : World} {d g n cap : Nat} {cs : Array Value} {vs : Nat → Value} {gv : Value} {R : Nat → Rn} {L : List Int} (h : Dp w d g n cap cs vs gv R L) (o : Only S w w') (hs : ∀ j, Df d g n vs gv j → ¬ S j) : Dp w' d g n cap cs vs gv R L :=
  ⟨h.blk.only o (hs d (.inl rfl)), fun i hi => (h.ring i hi).only o (hs g (.inr (.inl rfl))) (fun _ j hj => hs j (.inr (.inr (.inr ⟨i, hi, hj⟩)))), h.dg, h.glob.only o (fun j hj => hs j (.inr (.inr (.inl hj)))), h.gd, h.gg, h.vd, h.vg, h.nc, h.nums, Nat.lt_of_lt_of_le h.gl o.size, fun i hi j hj => Nat.lt_of_lt_of_le (h.vl i hi j hj) o.size, fun j hj => Nat.lt_of_lt_of_le (h.gvl j hj) o.size⟩
theorem Dp.below {w w' : World} {d g n cap : Nat} {cs : Array Value} {vs : Nat → Value} {gv : Value} {R : Nat → Rn} {L : List Int} (h : Dp w d g n cap cs vs gv R L) (hb : Below w.heap.size w w') : Dp w' d g n cap cs vs gv R L :=
  h.only (S := fun _ => False) ((Only.refl _ w).below hb) (fun _ _ x => x)
theorem Dp.drewN {w : World} {d g n cap : Nat} {cs : Array Value} {vs : Nat → Value} {gv : Value} {R : Nat → Rn} {L : List Int} (h : Dp w d g n cap cs vs gv R L) (k : Nat) : Dp (w.drewN k) d g n cap cs vs gv R L :=
  h.below ⟨rfl, rfl, rfl, Nat.le_refl _, fun _ _ => rfl⟩
theorem Dp.congr {w : World} {d g n cap : Nat} {cs : Array Value} {vs : Nat → Value} {gv : Value} {R R' : Nat → Rn} {L : List Int} (h : Dp w d g n cap cs vs gv R L) (he : ∀ i, i < n → (R' i).nx = (R i).nx ∧ (R' i).row = (R i).row) : Dp w d g n cap cs vs gv R' L :=
  ⟨h.blk, fun i hi => by rw [(he i hi).1, (he i hi).2]; exact h.ring i hi, h.dg, h.glob, h.gd, h.gg, h.vd, h.vg, h.nc, fun i hi => by rw [(he i hi).1, (he i hi).2]; exact h.nums i hi, h.gl, h.vl, h.gvl⟩
def updV (vs : Nat → Value) (i : Nat) (v : Value) : Nat → Value := fun j => if j = i then v else vs j
theorem Dp.turn {w w' : World} {d g n cap : Nat} {cs cs' : Array Value} {vs : Nat → Value} {gv v' : Value} {R : Nat → Rn} {L : List Int} {i : Nat} {nx : Int} {row : List Int} (h : Dp w d g n cap cs vs gv R L) (hi : i < n)
    (hr : RefR w' g (i * 3) cs' 54 256 nx v' row) (ht : Turned g (i * 3) cs cs' (vs i) v' w w') (hnx : 0 ≤ nx) (hrow : row.length ≤ 256) : Dp w' d g n cap cs' (updV vs i v') gv (updR R i nx row) L := by
  have hO := ht.only
  have hvg : v'.ownBlock ≠ some g := fun e => (ht.grow g e).elim (h.vg i hi) (fun x => by have := h.gl; omega)
  refine ⟨h.blk.only hO h.dg, fun j hj => ?_, h.dg, h.glob.only hO (fun k hk e => h.gg (by rw [hk, show k = g from e])), h.gd, h.gg, fun j hj => ?_, fun j hj => ?_, h.nc, fun j hj => ?_, Nat.lt_of_lt_of_le h.gl hO.size, fun j hj k hk => ?_, fun j hj => Nat.lt_of_lt_of_le (h.gvl j hj) hO.size⟩
  · by_cases e : j = i
    · subst e; simp only [updV, if_true, updR_self]; exact hr
    · rw [updR_ne _ _ _ _ e]
      simp only [updV, if_neg e]
      have hj' := h.ring j hj
      refine ⟨hr.blk, ?_, ?_, ?_, hj'.rd.only' hO (fun _ k hk e' => h.vg j hj (by rw [hk, show k = g from e'])), hj'.ne⟩
      · rw [ht.rest _ (by omega)]; exact hj'.c0
      · rw [ht.rest _ (by omega)]; exact hj'.c1
      · rw [ht.rest _ (by omega)]; exact hj'.c2
  · by_cases e : j = i
    · subst e; simp only [updV, if_true]
      intro e'
      rcases ht.grow d e' with h' | h'
      · exact h.vd j hi h'
      · have := h.blk.lt; omega
    · simp only [updV, if_neg e]; exact h.vd j hj
  · by_cases e : j = i
    · subst e; simp only [updV, if_true]; exact hvg
    · simp only [updV, if_neg e]; exact h.vg j hj
  · by_cases e : j = i
    · subst e; rw [updR_self]; exact ⟨hnx, hrow⟩
    · rw [updR_ne _ _ _ _ e]; exact h.nums j hj
  · by_cases e : j = i
    · subst e
      simp only [updV, if_true] at hk
      rcases ht.grow k hk with h' | h'
      · exact Nat.lt_of_lt_of_le (h.vl j hi k h') hO.size
      · exact h'.2
    · simp only [updV, if_neg e] at hk
      exact Nat.lt_of_lt_of_le (h.vl j hj k hk) hO.size
theorem Dp.lt {w : World} {d g n cap : Nat} {cs : Array Value} {vs : Nat → Value} {gv : Value} {R : Nat → Rn} {L : List Int} (h : Dp w d g n cap cs vs gv R L) {j : Nat} (hj : Df d g n vs gv j) : j < w.heap.size := by
  rcases hj with rfl | rfl | hj | ⟨i, hi, hj⟩
  · exact h.blk.lt
  · exact h.gl
  · exact h.gvl j hj
  · exact h.vl i hi j hj
theorem Df_turn {d g n : Nat} {vs : Nat → Value} {gv v' : Value} {i : Nat} {cs cs' : Array Value} {w w' : World} (ht : Turned g (i * 3) cs cs' (vs i) v' w w') (hi : i < n) : Gr (Df d g n vs gv) (Df d g n (updV vs i v') gv) w := by
  rintro j (hj | hj | hj | ⟨k, hk, hj⟩)
  · exact .inl (.inl hj)
  · exact .inl (.inr (.inl hj))
  · exact .inl (.inr (.inr (.inl hj)))
  · by_cases e : k = i
    · subst e
      simp only [updV, if_true] at hj
      exact (ht.grow j hj).imp (fun x => .inr (.inr (.inr ⟨k, hk, x⟩))) (fun x => x.1)
    · simp only [updV, if_neg e] at hj
      exact .inl (.inr (.inr (.inr ⟨k, hk, hj⟩)))

set_option maxHeartbeats 2000000 in
theorem dqueues_any (d g n cap : Nat) (cs : Array Value) (vs : Nat → Value) (gv : Value) (R : Nat → Rn) (L : List Int) (w : World) (h : Dp w d g n cap cs vs gv R L) (hn : n ≤ 256) : Calls Try.prog 54 #[.pointer (some ⟨d, 0, none⟩)] w (QsPost (qs R n) w) := by
  have HH := Lib.hid h
  clear h
  go_enter Try.func54, Try.ntmps54
  go_wp2
  go_loopw [3, 4] (fun t i wr => ∃ (k : Nat) (us : List Value), k ≤ n ∧ i = .int .i64 k ∧ LLv wr w.heap.size t us (qs R k) ∧ Below w.heap.size w wr) (fun _ i _ => n - (intOf i).toNat)
  case atStart => exact ⟨0, [], Nat.zero_le _, rfl, LLv.nil _ _, Below.refl _ _⟩
  case round =>
    obtain ⟨k, us, hk, rfl, hLL, hB⟩ := hrel
    have hP := HH.out.below hB
    have c0 := hP.blk.cell 0
    simp only [List.getElem?_toArray, List.getElem?_cons_zero] at c0
    by_cases hlt : k < n
    · have hnm := hP.nums k hlt
      have HR := Lib.hid (rlist_any g (k * 3) cs 54 256 _ _ _ wr (hP.ring k hlt) hnm.1 (by omega))
      have HLL := Lib.hid hLL
      have HB := Lib.hid hB
      obtain ⟨at_, ct, rfl⟩ := hLL.len
      rw [qs_len] at *
      clear hLL hP hB hnm
      go_wp2_with fail
      refine HR.out.mono ?_
      rintro e w1 ⟨u, rfl, hu, hB1⟩
      obtain ⟨au, nu, cu, rfl⟩ : ∃ a n c, u = .slice a n c := by obtain ⟨a, c, hv⟩ := Glob.own_len hu; exact ⟨a, _, c, hv⟩
      have HU := Lib.hid hu
      have HB1 := Lib.hid hB1
      have hsz := HB.out.size
      have hsz1 := hB1.size
      have HL1 := Lib.hid ((HLL.out.below hB1).below (below_alloc (Below.refl _ _) (.cells #[.slice au nu cu] 25)))
      have HU1 := Lib.hid ((hu.below (below_alloc (Below.refl _ _) (.cells #[.slice au nu cu] 25))).mono HB.out.size)
      have HOne := Lib.hid (own_one hu)
      clear hu hB1
      go_wp2_with (at_builtin; refine appV Try.underlying61 info25 rfl (by decide) (by decide) w.heap.size _ rfl _ _ rfl _ (qs R k).length us ⟨w1.heap.size, 0, none⟩ 1 [.slice au nu cu] rfl rfl (.inl HL1.out.1) rfl (new25 w1 (.slice au nu cu)) HOne.out (by simp; omega) (by rw [qs_len]; omega) ?_; intro v' w2 hA; have HA := Lib.hid hA; clear hA)
      go_roundw
      case rel =>
        refine ⟨k + 1, us ++ [.slice au nu cu], by omega, by go_num, ?_, ?_⟩
        · rw [qs_succ]; exact HL1.out.push HU1.out HA.out
        · exact below_grown (below_alloc (below_below HB.out HB1.out) _) HA.out.2.1 (fun j hj => (World.ownsRow.lt HL1.out.1 j hj).1)
      case measure => simp [intOf]; omega
    · obtain rfl : k = n := by omega
      have HLL := Lib.hid hLL
      have HB := Lib.hid hB
      clear hLL hB hP
      go_wp2
      go_ret
      exact ⟨_, rfl, ⟨us, HLL.out⟩, HB.out⟩

/-- best and most, behind the first k. -/
def bst (R : Nat → Rn) : Nat → Nat × Nat
  | 0 => (0, 0)
  | k + 1 => if (bst R k).2 < lenR (R k) then (k, lenR (R k)) else bst R k
theorem bst_eq (R : Nat → Rn) (k : Nat) : bst R (k + 1) = (mx R k, lenR (R (mx R k))) := by
  induction k with
  | zero =>
    show (if 0 < lenR (R 0) then (0, lenR (R 0)) else (0, 0)) = (0, lenR (R 0))
    by_cases h : 0 < lenR (R 0)
    · rw [if_pos h]
    · rw [if_neg h, show lenR (R 0) = 0 by omega]
  | succ k ih =>
    rw [bst, ih, mx]
    simp only
    by_cases h : lenR (R (mx R k)) < lenR (R (k + 1))
    · rw [if_pos h, if_pos h]
    · rw [if_neg h, if_neg h]

set_option maxHeartbeats 2000000 in
theorem dmost_any (d g n cap : Nat) (cs : Array Value) (vs : Nat → Value) (gv : Value) (R : Nat → Rn) (L : List Int) (w : World) (h : Dp w d g n cap cs vs gv R L) (hn1 : 1 ≤ n) (hn : n ≤ 256) : Calls Try.prog 55 #[.pointer (some ⟨d, 0, none⟩)] w fun e w' => e = .returned (.tuple #[.int .i64 (mostI R n), .bool (mostB R n)]) ∧ Below w.heap.size w w' := by
  have HH := Lib.hid h
  clear h
  have HE : Hid (bst R n = (mostI R n, lenR (R (mostI R n)))) := by
    show _ = _
    obtain ⟨m, rfl⟩ : ∃ m, n = m + 1 := ⟨n - 1, by omega⟩
    exact bst_eq R m
  go_enter Try.func55, Try.ntmps55
  go_wp2
  go_loopw [4, 5, 6] (fun v4 v5 i wr => ∃ (k : Nat), k ≤ n ∧ i = .int .i64 k ∧ v4 = .int .i64 ((bst R k).1 : Nat) ∧ v5 = .int .i64 ((bst R k).2 : Nat) ∧ Below w.heap.size w wr) (fun _ _ i _ => n - (intOf i).toNat)
  case atStart => exact ⟨0, Nat.zero_le _, rfl, rfl, rfl, Below.refl _ _⟩
  case round =>
    obtain ⟨k, hk, rfl, rfl, rfl, hB⟩ := hrel
    have hP := HH.out.below hB
    have c0 := hP.blk.cell 0
    simp only [List.getElem?_toArray, List.getElem?_cons_zero] at c0
    by_cases hlt : k < n
    · have hnm := hP.nums k hlt
      have HR := Lib.hid (rlist_any g (k * 3) cs 54 256 _ _ _ wr (hP.ring k hlt) hnm.1 (by omega))
      have HB := Lib.hid hB
      have HBs : Hid (bst R (k + 1) = if (bst R k).2 < lenR (R k) then (k, lenR (R k)) else bst R k) := rfl
      obtain ⟨ln, HLn⟩ : ∃ ln, Hid (lenR (R k) = ln) := ⟨_, rfl⟩
      rw [HLn.out] at HBs
      have HLn2 : Hid ((allL (R k).nx (R k).row).length = ln) := HLn.out
      obtain ⟨b1, b2, HB12⟩ : ∃ b1 b2, Hid (bst R k = (b1, b2)) := ⟨_, _, rfl⟩
      rw [HB12.out] at HBs ⊢
      clear hP hB hnm
      by_cases hgt : b2 < ln
      · have HBs' : Hid (bst R (k + 1) = (k, ln)) := by show _ = _; rw [HBs.out, if_pos hgt]
        have hdg : decide (b2 < ln) = true := by simpa using hgt
        go_wp2_with fail
        refine HR.out.mono ?_
        rintro e w1 ⟨u, rfl, hu, hB1⟩
        obtain ⟨au, cu, rfl⟩ := Glob.own_len hu
        rw [HLn2.out]
        have HB1 := Lib.hid (below_below HB.out hB1)
        clear hu hB1
        go_wp2_with fail
        go_roundw
        case rel => exact ⟨k + 1, by omega, by go_num, by rw [HBs'.out], by rw [HBs'.out], HB1.out⟩
        case measure => simp [intOf]; omega
      · have HBs' : Hid (bst R (k + 1) = (b1, b2)) := by show _ = _; rw [HBs.out, if_neg hgt]
        have hdg : decide (b2 < ln) = false := by simpa using hgt
        go_wp2_with fail
        refine HR.out.mono ?_
        rintro e w1 ⟨u, rfl, hu, hB1⟩
        obtain ⟨au, cu, rfl⟩ := Glob.own_len hu
        rw [HLn2.out]
        have HB1 := Lib.hid (below_below HB.out hB1)
        clear hu hB1
        go_wp2_with fail
        go_roundw
        case rel => exact ⟨k + 1, by omega, by go_num, by rw [HBs'.out], by rw [HBs'.out], HB1.out⟩
        case measure => simp [intOf]; omega
    · obtain rfl : k = n := by omega
      have HB := Lib.hid hB
      clear hB hP
      obtain ⟨im, HI⟩ : ∃ im, Hid (mostI R k = im) := ⟨_, rfl⟩
      obtain ⟨lm, HLm⟩ : ∃ lm, Hid (lenR (R (mostI R k)) = lm) := ⟨_, rfl⟩
      have HMB : Hid (mostB R k = decide (0 < lm)) := by show _ = _; rw [← HLm.out]; rfl
      rw [HE.out, HLm.out, HI.out]
      simp only
      go_wp2
      go_ret2
      exact ⟨by rw [HMB.out, HI.out]; rfl, HB.out⟩
end Go.Proofs.Ytgahkcbkpnehfaa.Procs
