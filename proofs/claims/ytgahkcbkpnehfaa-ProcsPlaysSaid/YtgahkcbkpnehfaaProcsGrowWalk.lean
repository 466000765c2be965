/- Chapter 23: the walk of grow. -/
import Derived.Test.YtgahkcbkpnehfaaProcsGrow
import Derived.Deep.LoopGhost
namespace Go.Proofs.Ytgahkcbkpnehfaa.Procs
open Go.RowKit Go.Esc
open Go.Proofs.Ytgahkcbkpnehfaa.Ring (Rw Sg allL)
open Go.Proofs.Ytgahkcbkpnehfaa.Glob (Gr)
set_option linter.unusedVariables false

theorem new1 (w : World) (x : Value) (t : TypeId) : ∀ (j : Nat) (y : Value), [x][j]? = some y → (w.alloc (.cells #[x] t)).cell? ((⟨w.heap.size, 0, none⟩ : Addr).add j) = some y := by
  intro j y hj
  have hj0 : j = 0 := by have := (List.getElem?_eq_some_iff.1 hj).1; simpa using this
  subst hj0
  rw [Go.WideShapes.add_plain, (Blk.new w #[x] t).cell]
  simpa using hj

/-- How the rings are behind some rounds: k of them now. -/
structure Grw (p : Nat) (rv : Value) (n : Nat) (R : Nat → Rn) (w : World) (rv' : Value) (k : Nat) (R' : Nat → Rn) (wr : World) : Prop where
  prc : Prc wr p rv' k R'
  only : Only (Pf p rv n R) w wr
  gr : Gr (Pf p rv n R) (Pf p rv' k R') w
  old : ∀ i, i < n → R' i = R i
  new : ∀ i, n ≤ i → i < k → (R' i).nx = 0 ∧ (R' i).row = []
  le : n ≤ k
theorem Grw.refl {p : Nat} {rv : Value} {n : Nat} {R : Nat → Rn} {w : World} (h : Prc w p rv n R) : Grw p rv n R w rv n R w := ⟨h, Only.refl _ _, Gr.refl _ _, fun _ _ => rfl, fun i h1 h2 => by omega, Nat.le_refl _⟩
theorem Grw.step {p : Nat} {rv rv1 rv2 : Value} {n k : Nat} {R R1 : Nat → Rn} {b g : Nat} {w wr w2 : World} (h : Grw p rv n R w rv1 k R1 wr) (hP : Prc w2 p rv2 (k + 1) (more k R1 b g)) (hO : Only (Pf p rv1 k R1) wr w2) (hG : Gr (Pf p rv1 k R1) (Pf p rv2 (k + 1) (more k R1 b g)) wr) :
    Grw p rv n R w rv2 (k + 1) (more k R1 b g) w2 := by
  have hle := h.le
  refine ⟨hP, h.only.andThen hO (fun j hj hs => (h.gr j hs).elim id (fun x => by omega)), h.gr.trans hG h.only.size, fun i hi => ?_, fun i h1 h2 => ?_, by omega⟩
  · rw [more_lt (by omega)]; exact h.old i hi
  · by_cases e : i = k
    · subst e; simp [more]
    · rw [more_lt (by omega)]; exact h.new i h1 (by omega)
def GrowPost (p : Nat) (rv : Value) (n m : Nat) (R : Nat → Rn) (w : World) (e : Ending) (w' : World) : Prop :=
  (∃ v, e = .returned v) ∧ ∃ rv' R', Grw p rv n R w rv' (max n m) R' w'
theorem growRel {p : Nat} {rv rv1 rv2 : Value} {n m j k : Nat} {R R1 : Nat → Rn} {b g : Nat} {w wr w2 : World} (h : Grw p rv n R w rv1 k R1 wr ∧ k + (j + 1) = max n m) (hP : Prc w2 p rv2 (k + 1) (more k R1 b g)) (hO : Only (Pf p rv1 k R1) wr w2) (hG : Gr (Pf p rv1 k R1) (Pf p rv2 (k + 1) (more k R1 b g)) wr) :
    ∃ rv' k' R', Grw p rv n R w rv' k' R' w2 ∧ k' + j = max n m := ⟨_, _, _, h.1.step hP hO hG, by omega⟩

set_option maxRecDepth 100000 in
set_option maxHeartbeats 8000000 in
theorem grow_any (p : Nat) (rv : Value) (n m : Nat) (R : Nat → Rn) (w : World) (h : Prc w p rv n R) (hn : n ≤ 256) (hm : m ≤ 256) :
    Calls Try.prog 76 #[.pointer (some ⟨p, 0, none⟩), .int .i64 m] w (GrowPost p rv n m R w) := by
  have HH0 := Lib.hid h
  clear h
  go_enter Try.func76, Try.ntmps76
  go_wp2
  go_loopg [4] (max n m - n) (fun gk _ wr => ∃ rv' k' R', Grw p rv n R w rv' k' R' wr ∧ k' + gk = max n m)
  case atStart => exact ⟨rv, n, R, Grw.refl HH0.out, by omega⟩
  case round =>
    obtain ⟨rv1, k, R1, hG, hgk⟩ := hrel
    have hle := hG.le
    obtain ⟨a, cap, rfl⟩ := hG.prc.slice
    have c0 := hG.prc.blk.cell 0
    simp only [List.getElem?_toArray, List.getElem?_cons_zero] at c0
    cases gk with
    | zero =>
      have hd : decide (k < m) = false := by simp; omega
      have HG := Lib.hid hG
      have HK : Hid (k = max n m) := by show _ = _; omega
      clear hG hgk hle
      go_wp2
      go_end0
      exact ⟨⟨_, rfl⟩, _, _, by rw [← HK.out]; exact HG.out⟩
    | succ j =>
      have hd : decide (k < m) = true := by simp; omega
      have hk256 : k < 256 := by omega
      have HRel := Lib.hid (And.intro hG hgk)
      have HH := Lib.hid hG.prc
      have hpl := hG.prc.blk.lt
      have HN : Hid (Calls Try.prog 23 #[.int .i64 256] wr.drew (Ring.NewPost 256 wr.drew)) := Ring.new_good 256 wr.drew (by decide)
      clear hG hgk hle
      go_wp2_with fail
      refine wp_region_any (by kernel_rfl) ?_
      try (change wpAny _ _ _ _ _ _ _ (World.drew _))
      refine wpAny_take (i := 0) (v := ?_) rfl (by kernel_rfl) (by kernel_rfl) (by kernel_rfl) (fun _ _ _ h => h) (Or.inl ⟨by kernel_rfl, ?_⟩) ?_
      rotate_left
      · intro w'; go_simp; try (with_reducible rfl)
      refine wpAny_take (i := 1) (v := ?_) rfl (by kernel_rfl) (by kernel_rfl) (by kernel_rfl) (fun _ _ _ h => h) (Or.inl ⟨by kernel_rfl, ?_⟩) ?_
      rotate_left
      · intro w'; go_simp; try (with_reducible rfl)
      refine wpAny_take (i := 2) (v := ?_) rfl (by kernel_rfl) (by kernel_rfl) (by kernel_rfl) (fun _ _ _ h => h) (Or.inl ⟨by kernel_rfl, ?_⟩) ?_
      rotate_left
      · intro w'; go_simp; try (with_reducible rfl)
      refine wpAny_take (i := 3) (v := ?_) rfl (by kernel_rfl) (by kernel_rfl) (by kernel_rfl) (fun _ _ _ h => h) (Or.inl ⟨by kernel_rfl, ?_⟩) ?_
      rotate_left
      · intro w'; go_simp; try (with_reducible rfl)
      refine wpAny_ready (rs := [4, 5]) (by kernel_rfl) (by simp) ?_
      refine AllReady.cons rfl (fun K hK => ?_) (AllReady.cons rfl (fun K hK => ?_) (AllReady.nil))
      · go_simp
        refine hK _ _ ?_
        clear hK K
        refine wpAny_ready (rs := [5]) (by kernel_rfl) (by simp) ?_
        refine AllReady.cons rfl (fun K hK => ?_) (AllReady.nil)
        go_simp
        go_wp2_with (go_at_call 23; (with_reducible refine HN.out.mono ?_); rintro e w1 ⟨rfl, hr1, hb1⟩; have HR1 := Lib.hid hr1; have HB1 : Hid (Below wr.heap.size wr w1) := undrew hb1; have d0 : w1.cell? ⟨p, 0, none⟩ = some (.slice a k cap) := ((Blk.below HH.out.blk HB1.out HH.out.blk.lt).cell 0); have hsz : wr.heap.size ≤ w1.heap.size := HB1.out.size; have hpw : p < w1.heap.size := (by omega); clear hr1 hb1)
        refine wpAny_ready (rs := [6]) (by kernel_rfl) (by simp) ?_
        refine AllReady.cons rfl (fun K hK => ?_) (AllReady.nil)
        go_simp
        refine hK _ _ ?_
        clear hK K
        refine wpAny_ready (rs := [7]) (by kernel_rfl) (by simp) ?_
        refine AllReady.cons rfl (fun K hK => ?_) (AllReady.nil)
        refine stepV Try.underlying91 info34 rfl (by decide) (by decide) 0 _ rfl (.tmp 15) (.tmp 17) rfl (.slice a k cap) k (ptrs k R1) ⟨w1.heap.size, 0, none⟩ 1 [.pointer (some ⟨wr.heap.size + 1, 0, none⟩)] (by kernel_rfl) (by kernel_rfl) ((HH.out.own.below HB1.out).below (below_alloc (Below.refl _ _) _)) rfl (new1 w1 _ _) (by simp [Value.oneCell']) (Nat.zero_le _) (by omega) ?_
        intro v' w3 hA
        obtain ⟨g', cap', rfl⟩ := hA.some
        obtain ⟨hb3, hP3, hO3, hG3⟩ := HH.out.grow HB1.out HR1.out (by simp) (by simp) hA
        have q0 := hb3.cell 0
        have qf0 := hb3.free 0
        simp only [List.getElem?_toArray, List.getElem?_cons_zero] at q0
        have HP3 := Lib.hid hP3
        have HO3 := Lib.hid hO3
        have HG3 := Lib.hid hG3
        clear hP3 hb3 hO3 hG3 hA
        refine hK _ _ ?_
        clear hK K
        refine wpAny_take (i := 8) (v := ?_) rfl (by kernel_rfl) (by kernel_rfl) (by kernel_rfl) (fun _ _ _ h => h) (Or.inl ⟨by kernel_rfl, ?_⟩) ?_
        rotate_left
        · intro w'; go_simp; try (with_reducible rfl)
        refine wpAny_take (i := 9) (v := ?_) rfl (by kernel_rfl) (by kernel_rfl) (by kernel_rfl) (fun _ _ _ h => h) (Or.inl ⟨by kernel_rfl, ?_⟩) ?_
        rotate_left
        · intro w'; go_simp; try (with_reducible rfl)
        refine wpAny_ready (rs := [10]) (by kernel_rfl) (by simp) ?_
        refine AllReady.cons rfl (fun K hK => ?_) (AllReady.nil)
        go_simp
        refine hK _ _ ?_
        clear hK K
        refine wpAny_done (by kernel_rfl) ?_ _
        go_wp2_with fail
        go_roundg j
        case rel => exact growRel HRel.out HP3.out HO3.out HG3.out
        case measure => omega
      · go_simp
        go_wp2_with (go_at_call 23; (with_reducible refine HN.out.mono ?_); rintro e w1 ⟨rfl, hr1, hb1⟩; have HR1 := Lib.hid hr1; have HB1 : Hid (Below wr.heap.size wr w1) := undrew hb1; have d0 : w1.cell? ⟨p, 0, none⟩ = some (.slice a k cap) := ((Blk.below HH.out.blk HB1.out HH.out.blk.lt).cell 0); have hsz : wr.heap.size ≤ w1.heap.size := HB1.out.size; have hpw : p < w1.heap.size := (by omega); clear hr1 hb1)
        refine wpAny_ready (rs := [4, 6]) (by kernel_rfl) (by simp) ?_
        refine AllReady.cons rfl (fun K hK => ?_) (AllReady.cons rfl (fun K hK => ?_) (AllReady.nil))
        · go_simp
          refine hK _ _ ?_
          clear hK K
          refine wpAny_ready (rs := [6]) (by kernel_rfl) (by simp) ?_
          refine AllReady.cons rfl (fun K hK => ?_) (AllReady.nil)
          go_simp
          refine hK _ _ ?_
          clear hK K
          refine wpAny_ready (rs := [7]) (by kernel_rfl) (by simp) ?_
          refine AllReady.cons rfl (fun K hK => ?_) (AllReady.nil)
          refine stepV Try.underlying91 info34 rfl (by decide) (by decide) 0 _ rfl (.tmp 15) (.tmp 17) rfl (.slice a k cap) k (ptrs k R1) ⟨w1.heap.size, 0, none⟩ 1 [.pointer (some ⟨wr.heap.size + 1, 0, none⟩)] (by kernel_rfl) (by kernel_rfl) ((HH.out.own.below HB1.out).below (below_alloc (Below.refl _ _) _)) rfl (new1 w1 _ _) (by simp [Value.oneCell']) (Nat.zero_le _) (by omega) ?_
          intro v' w3 hA
          obtain ⟨g', cap', rfl⟩ := hA.some
          obtain ⟨hb3, hP3, hO3, hG3⟩ := HH.out.grow HB1.out HR1.out (by simp) (by simp) hA
          have q0 := hb3.cell 0
          have qf0 := hb3.free 0
          simp only [List.getElem?_toArray, List.getElem?_cons_zero] at q0
          have HP3 := Lib.hid hP3
          have HO3 := Lib.hid hO3
          have HG3 := Lib.hid hG3
          clear hP3 hb3 hO3 hG3 hA
          refine hK _ _ ?_
          clear hK K
          refine wpAny_take (i := 8) (v := ?_) rfl (by kernel_rfl) (by kernel_rfl) (by kernel_rfl) (fun _ _ _ h => h) (Or.inl ⟨by kernel_rfl, ?_⟩) ?_
          rotate_left
          · intro w'; go_simp; try (with_reducible rfl)
          refine wpAny_take (i := 9) (v := ?_) rfl (by kernel_rfl) (by kernel_rfl) (by kernel_rfl) (fun _ _ _ h => h) (Or.inl ⟨by kernel_rfl, ?_⟩) ?_
          rotate_left
          · intro w'; go_simp; try (with_reducible rfl)
          refine wpAny_ready (rs := [10]) (by kernel_rfl) (by simp) ?_
          refine AllReady.cons rfl (fun K hK => ?_) (AllReady.nil)
          go_simp
          refine hK _ _ ?_
          clear hK K
          refine wpAny_done (by kernel_rfl) ?_ _
          go_wp2_with fail
          go_roundg j
          case rel => exact growRel HRel.out HP3.out HO3.out HG3.out
          case measure => omega
        · go_simp
          refine hK _ _ ?_
          clear hK K
          refine wpAny_ready (rs := [4]) (by kernel_rfl) (by simp) ?_
          refine AllReady.cons rfl (fun K hK => ?_) (AllReady.nil)
          go_simp
          refine hK _ _ ?_
          clear hK K
          refine wpAny_ready (rs := [7]) (by kernel_rfl) (by simp) ?_
          refine AllReady.cons rfl (fun K hK => ?_) (AllReady.nil)
          refine stepV Try.underlying91 info34 rfl (by decide) (by decide) 0 _ rfl (.tmp 15) (.tmp 17) rfl (.slice a k cap) k (ptrs k R1) ⟨w1.heap.size, 0, none⟩ 1 [.pointer (some ⟨wr.heap.size + 1, 0, none⟩)] (by kernel_rfl) (by kernel_rfl) ((HH.out.own.below HB1.out).below (below_alloc (Below.refl _ _) _)) rfl (new1 w1 _ _) (by simp [Value.oneCell']) (Nat.zero_le _) (by omega) ?_
          intro v' w3 hA
          obtain ⟨g', cap', rfl⟩ := hA.some
          obtain ⟨hb3, hP3, hO3, hG3⟩ := HH.out.grow HB1.out HR1.out (by simp) (by simp) hA
          have q0 := hb3.cell 0
          have qf0 := hb3.free 0
          simp only [List.getElem?_toArray, List.getElem?_cons_zero] at q0
          have HP3 := Lib.hid hP3
          have HO3 := Lib.hid hO3
          have HG3 := Lib.hid hG3
          clear hP3 hb3 hO3 hG3 hA
          refine hK _ _ ?_
          clear hK K
          refine wpAny_take (i := 8) (v := ?_) rfl (by kernel_rfl) (by kernel_rfl) (by kernel_rfl) (fun _ _ _ h => h) (Or.inl ⟨by kernel_rfl, ?_⟩) ?_
          rotate_left
          · intro w'; go_simp; try (with_reducible rfl)
          refine wpAny_take (i := 9) (v := ?_) rfl (by kernel_rfl) (by kernel_rfl) (by kernel_rfl) (fun _ _ _ h => h) (Or.inl ⟨by kernel_rfl, ?_⟩) ?_
          rotate_left
          · intro w'; go_simp; try (with_reducible rfl)
          refine wpAny_ready (rs := [10]) (by kernel_rfl) (by simp) ?_
          refine AllReady.cons rfl (fun K hK => ?_) (AllReady.nil)
          go_simp
          refine hK _ _ ?_
          clear hK K
          refine wpAny_done (by kernel_rfl) ?_ _
          go_wp2_with fail
          go_roundg j
          case rel => exact growRel HRel.out HP3.out HO3.out HG3.out
          case measure => omega
end Go.Proofs.Ytgahkcbkpnehfaa.Procs
