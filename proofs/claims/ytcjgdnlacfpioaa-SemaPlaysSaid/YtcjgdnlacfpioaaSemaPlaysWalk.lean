/- Chapter 22: the walk of SemaPlays. -/
import Derived.Test.YtcjgdnlacfpioaaRefSema
import Derived.Test.YtcjgdnlacfpioaaSemaNilsWalk
import Derived.Deep.RegionHeld3
import Derived.Deep.DrawnRows
import Derived.Deep.CutRange
namespace Go.Proofs.Ytcjgdnlacfpioaa.Sema
open Go.RowKit Go.Esc Go.Proofs.Ytcjgdnlacfpioaa.Ref
set_option linter.unusedVariables false

/-- Both, side by side, all in memory that is new to w0. -/
structure Bs (w0 w : World) (b bb : Nat) (ow : Int) (l : List Int) (v u : Value) : Prop where
  sm : Sm w b ow v l
  rs : Rs w bb ow u l
  ne : bb ≠ b
  off1 : ∀ j, v.ownBlock = some j → j ≠ bb ∧ u.ownBlock ≠ some j
  off2 : u.ownBlock ≠ some b
  lb : w0.heap.size ≤ b
  lbb : w0.heap.size ≤ bb
  lv : ∀ j, v.ownBlock = some j → w0.heap.size ≤ j
  bel : Below w0.heap.size w0 w

theorem Bs.below {w0 w w' : World} {b bb : Nat} {ow : Int} {l : List Int} {v u : Value} (h : Bs w0 w b bb ow l v u) (hb : Below w.heap.size w w') : Bs w0 w' b bb ow l v u :=
  ⟨h.sm.below hb, h.rs.below hb, h.ne, h.off1, h.off2, h.lb, h.lbb, h.lv, below_below h.bel hb⟩
theorem Bs.drewN {w0 w : World} {b bb : Nat} {ow : Int} {l : List Int} {v u : Value} (h : Bs w0 w b bb ow l v u) (n : Nat) : Bs w0 (w.drewN n) b bb ow l v u :=
  ⟨h.sm.drewN n, h.rs.drewN n, h.ne, h.off1, h.off2, h.lb, h.lbb, h.lv, below_drewN h.bel n⟩
/-- The program's acts, then the document's. -/
theorem Bs.mid {w0 w w1 : World} {b bb : Nat} {ow : Int} {l : List Int} {v u : Value} (h : Bs w0 w b bb ow l v u) (o : Only (Sf b v) w w1) : Rs w1 bb ow u l :=
  h.rs.only o (fun j hj hs => by
    rcases hj with rfl | hj
    · rcases hs with e | e
      · exact h.ne e
      · exact (h.off1 _ e).1 rfl
    · rcases hs with e | e
      · exact h.off2 (by rw [hj, e])
      · exact (h.off1 j e).2 hj)
theorem Bs.fin {w0 w w1 w2 : World} {b bb : Nat} {ow ow' : Int} {l l' : List Int} {v v' u u' : Value} (h : Bs w0 w b bb ow l v u) (hs : Sm w1 b ow' v' l') (o : Only (Sf b v) w w1) (hg : Grs b v v' w)
    (hr : Rs w2 bb ow' u' l') (o2 : Only (fun j => j = bb) w1 w2) (hg2 : Grs bb u u' w1)   : Bs w0 w2 b bb ow' l' v' u' := by
  have hbl := h.sm.blk.lt
  have hbbl := h.rs.blk.lt
  have hs1 := o.size
  have hv' : ∀ j, v'.ownBlock = some j → j ≠ bb := fun j hj => by
    rcases hg j hj with h' | h'
    · exact (h.off1 j h').1
    · omega
  refine ⟨hs.only o2 (fun j hj e => ?_), hr, h.ne, fun j hj => ⟨hv' j hj, fun e => ?_⟩, fun e => ?_, h.lb, h.lbb, fun j hj => ?_, ?_⟩
  · have e' : j = bb := e
    rcases hj with h' | h'
    · exact h.ne (by omega)
    · exact hv' j h' e'
  · rcases hg2 j e with h' | h'
    · rcases hg j hj with h'' | h''
      · exact (h.off1 j h'').2 h'
      · have := h.rs.live j h'; omega
    · have := hs.live j hj; omega
  · rcases hg2 b e with h' | h'
    · exact h.off2 h'
    · omega
  · exact (hg j hj).elim (h.lv j) (fun x => Nat.le_trans h.bel.size x)
  · have h1 : Below w0.heap.size w0 w1 := below_only h.bel o (fun k hk => by
      rcases hk with rfl | hk
      · exact h.lb
      · exact h.lv k hk)
    exact below_only h1 o2 (fun k hk => by have : k = bb := hk; have := h.lbb; omega)

theorem Bs.at1 {w0 w w8 : World} {b bb n : Nat} {ow : Int} {l : List Int} {v u : Value} (h : Bs w0 w b bb ow l v u) (e : w8 = w.drewN n) : Bs w0 w8 b bb ow l v u := by rw [e]; exact h.drewN n
theorem Bs.start (w : World) : Bs w ((w.alloc (.cells #[.int .i64 0, .slice none 0 0] 61)).alloc (.cells #[.int .i64 0, .slice none 0 0] 39)) w.heap.size (w.heap.size + 1) 0 [] (.slice none 0 0) (.slice none 0 0) :=
  ⟨(Sm.new w).below (below_alloc (Below.refl _ _) _), ⟨Blk.new' _ _ (by simp), Slw.nil _, by simp [Value.ownBlock], by simp [Value.ownBlock]⟩, by omega, by simp [Value.ownBlock], by simp [Value.ownBlock], Nat.le_refl _, by omega, by simp [Value.ownBlock], below_alloc (below_alloc (Below.refl _ _) _) _⟩
theorem acqL_len (ow : Int) (l : List Int) (g : Int) : (acqL ow l g).length ≤ l.length + 1 := by
  unfold acqL
  repeat' split
  all_goals first | omega | simp
theorem relL_len (ow : Int) (l : List Int) (g : Int) : (relL ow l g).length ≤ l.length + 1 := by
  unfold relL
  repeat' split
  all_goals first | omega | (simp; omega)
theorem erase_len (l : List Int) (g : Int) : (l.erase g).length ≤ l.length + 1 := by
  have := List.length_erase_le (a := g) (l := l)
  omega

attribute [local go_sem ↓] Go.wp_at_zero Go.wp_at_succ
set_option maxRecDepth 100000 in
set_option maxHeartbeats 8000000 in
theorem plays_good (w : World) (a : Option Addr) (len cap : Nat) (f : Nat → Nat → Int) (hr : Row w a len 2 f) (hlen : len ≤ 100) (g : Int) :
    Calls Try.prog 4 #[.slice a len cap, .int .i64 g] w fun e w' => e = .returned (.bool true) ∧ Below w.heap.size w w' := by
  have hd : decide ((100 : Int) < (len : Int)) = false := by simp; omega
  have HRow := Lib.hid hr
  clear hr
  go_enter Try.func4, Try.ntmps4
  go_wp2_with fail
  refine (new_any w).mono ?_
  rintro e w1 ⟨rfl, rfl⟩
  go_wp2_with fail
  have HS := Lib.hid (Bs.start w)
  obtain ⟨wq, hwq⟩ : ∃ wq, wq = (w.alloc (.cells #[.int .i64 0, .slice none 0 0] 61)).alloc (.cells #[.int .i64 0, .slice none 0 0] 39) := ⟨_, rfl⟩
  rw [← hwq] at HS ⊢
  clear hwq
  go_loopw [7] (fun i wr => ∃ (k : Nat) (ow : Int) (l : List Int) (v u : Value), k ≤ len ∧ i = .int .i64 k ∧ l.length ≤ k ∧ Bs w wr w.heap.size (w.heap.size + 1) ow l v u) (fun i _ => len - (intOf i).toNat)
  case atStart => exact ⟨0, 0, [], _, _, Nat.zero_le _, rfl, Nat.le_refl _, HS.out⟩
  case round =>
    obtain ⟨k, ow, l, v, u, hk, rfl, hll, hB⟩ := hrel
    clear HS
    by_cases hlt : k < len
    · rcases HRow.out with h0 | ⟨ba, off, rfl, hbl, hml, hcell, hwf⟩
      · omega
      have cA0 : wr.cell? ⟨ba, off + k * 2, none⟩ = some (.int .i64 (f k 0)) := (hB.bel.cell (p := ⟨ba, off + k * 2, none⟩) hbl).trans (hcell k 0 hlt (by omega))
      have cA1 : wr.cell? ⟨ba, off + k * 2 + 1, none⟩ = some (.int .i64 (f k 1)) := (hB.bel.cell (p := ⟨ba, off + k * 2 + 1, none⟩) hbl).trans (hcell k 1 hlt (by omega))
      have hbl' : ba < wr.heap.size := Nat.lt_of_lt_of_le hbl hB.bel.size
      generalize f k 0 = kind at *
      generalize f k 1 = x at *
      have HBc : Hid (Bs w (wr.alloc (.cells #[.int .i64 kind, .int .i64 x] 41)) w.heap.size (w.heap.size + 1) ow l v u) := hB.below (below_alloc (Below.refl _ _) _)
      have HK : Hid (Blk (wr.alloc (.cells #[.int .i64 kind, .int .i64 x] 41)) wr.heap.size #[.int .i64 kind, .int .i64 x] 41) := Blk.new _ _ _
      have hn1 : ¬ Sf w.heap.size v wr.heap.size := fun e => by
        rcases e with e | e
        · have := hB.sm.blk.lt; omega
        · have := hB.sm.live _ e; omega
      have HN1 := Lib.hid hn1
      have HN2 : Hid (wr.heap.size ≠ w.heap.size + 1) := fun e => by have := hB.rs.blk.lt; omega
      clear hB hcell hwf hn1
      have hki : (k : Int) < (len : Int) := by omega
      by_cases hk0 : kind = 0
      · subst hk0
        go_wp2_with fail
        refine (acquire_any _ _ _ _ _ _ HBc.out.sm (by omega)).mono ?_
        rintro e w2 ⟨rfl, v2, hS2, hO2, hG2⟩
        have HM := Lib.hid (HBc.out.mid hO2)
        have hk2 := HK.out.only hO2 HN1.out
        have d1 := hk2.cell 1
        simp only [List.getElem?_toArray, List.getElem?_cons_zero, List.getElem?_cons_succ] at d1
        have HS2 := Lib.hid hS2
        have HO2 := Lib.hid hO2
        have HG2 := Lib.hid hG2
        clear hS2 hO2 hG2 hk2
        go_wp2_with fail
        refine (racquire_any _ _ _ _ _ _ HM.out (by omega)).mono ?_
        rintro e w3 ⟨rfl, u2, hR3, hO3, hG3⟩
        have HB3 := Lib.hid (HBc.out.fin HS2.out HO2.out HG2.out hR3 hO3 hG3)
        clear hR3 hO3 hG3
        have e1 : (acqB ow x != acqB ow x) = false := by simp
        have e2 : (acqF x != acqF x) = false := by simp
        have hln := acqL_len ow l x
        generalize acqB ow x = y1 at *
        generalize acqF x = y2 at *
        obtain ⟨ow2, HOW⟩ : ∃ ow2, Hid (acqO ow x = ow2) := ⟨_, rfl⟩
        obtain ⟨l2, HL2⟩ : ∃ l2, Hid (acqL ow l x = l2) := ⟨_, rfl⟩
        rw [HOW.out, HL2.out] at HB3
        rw [HL2.out] at hln
        clear HOW HL2 HS2 HM
        -- behind the act: what both say
        obtain ⟨w5, hw5⟩ : ∃ w5 : World, w5 = w3 := ⟨_, rfl⟩
        rw [← hw5]
        have HB5 : Hid (Bs w w5 w.heap.size (w.heap.size + 1) ow2 l2 v2 u2) := by rw [hw5]; exact HB3.out
        clear hw5
        have r0 := HB5.out.rs.cell0
        have r1 := HB5.out.rs.cell1
        go_wp2_with fail
        go_region_held3 (fun w' => w'.cell? ⟨w.heap.size + 1, 0, none⟩ = some (.int .i64 ow2) ∧ w'.cell? ⟨w.heap.size + 1, 1, none⟩ = some u2) (go_keep) (first | (go_at_call 13; refine (owner_any _ _ _ _ _ (HB5.out.sm.drewN 1)).mono ?_; rintro e w6 ⟨rfl, rfl⟩) | (go_at_call 16; refine (waits_any _ _ _ _ _ (HB5.out.sm.drewN 1) (by omega)).mono ?_; rintro e w7 ⟨v7, rfl, ho7, hb7⟩; have HB7 : Hid (Below w5.heap.size w5 w7) := ⟨hb7.os, hb7.tape, hb7.output, hb7.size, hb7.block⟩; have HB7b := Lib.hid (HB5.out.below HB7.out); have HO7 := Lib.hid ho7; have t0 := HB7b.out.rs.cell0; have t1 := HB7b.out.rs.cell1; clear ho7 hb7) | (go_at_call 15; refine (same_yes _ _ _ _ (Sl.ofOwn HO7.out) HB7b.out.rs.rd.sl).mono ?_; rintro e w8 ⟨rfl, n8, hw8⟩; have HB8 : Hid (Bs w w8 w.heap.size (w.heap.size + 1) ow2 l2 v2 u2) := Bs.at1 HB7b.out hw8; have s0 := HB8.out.rs.cell0; have s1 := HB8.out.rs.cell1; clear hw8) | (go_at_call 21; refine (ahead_any _ _ _ _ _ _ HB8.out.sm (by omega)).mono ?_; rintro e w9 ⟨rfl, hb9⟩; have HB9 := Lib.hid (HB8.out.below hb9); have p0 := HB9.out.rs.cell0; have p1 := HB9.out.rs.cell1; clear hb9) | (go_at_call 22; refine (rahead_any _ _ _ _ _ _ HB9.out.rs (by omega)).mono ?_; rintro e w10 ⟨rfl, rfl⟩))
        go_wp2
        go_roundw
        case rel => exact ⟨k + 1, _, _, _, _, by omega, by go_num, by omega, HB9.out⟩
        case measure => simp [intOf]; omega
      by_cases hk1 : kind = 1
      · subst hk1
        clear hk0
        go_wp2_with fail
        refine (release_any _ _ _ _ _ _ HBc.out.sm (by omega)).mono ?_
        rintro e w2 ⟨rfl, v2, hS2, hO2, hG2⟩
        have HM := Lib.hid (HBc.out.mid hO2)
        have hk2 := HK.out.only hO2 HN1.out
        have d1 := hk2.cell 1
        simp only [List.getElem?_toArray, List.getElem?_cons_zero, List.getElem?_cons_succ] at d1
        have HS2 := Lib.hid hS2
        have HO2 := Lib.hid hO2
        have HG2 := Lib.hid hG2
        clear hS2 hO2 hG2 hk2
        go_wp2_with fail
        refine (rrelease_any _ _ _ _ _ _ HM.out (by omega)).mono ?_
        rintro e w3 ⟨rfl, u2, hR3, hO3, hG3⟩
        have HB3 := Lib.hid (HBc.out.fin HS2.out HO2.out HG2.out hR3 hO3 hG3)
        clear hR3 hO3 hG3
        have e1 : (relV ow l x != relV ow l x) = false := by simp
        have e2 : (relF ow x != relF ow x) = false := by simp
        have hln := relL_len ow l x
        generalize relV ow l x = y1 at *
        generalize relF ow x = y2 at *
        obtain ⟨ow2, HOW⟩ : ∃ ow2, Hid (relO ow l x = ow2) := ⟨_, rfl⟩
        obtain ⟨l2, HL2⟩ : ∃ l2, Hid (relL ow l x = l2) := ⟨_, rfl⟩
        rw [HOW.out, HL2.out] at HB3
        rw [HL2.out] at hln
        clear HOW HL2 HS2 HM
        -- behind the act: what both say
        obtain ⟨w5, hw5⟩ : ∃ w5 : World, w5 = w3 := ⟨_, rfl⟩
        rw [← hw5]
        have HB5 : Hid (Bs w w5 w.heap.size (w.heap.size + 1) ow2 l2 v2 u2) := by rw [hw5]; exact HB3.out
        clear hw5
        have r0 := HB5.out.rs.cell0
        have r1 := HB5.out.rs.cell1
        go_wp2_with fail
        go_region_held3 (fun w' => w'.cell? ⟨w.heap.size + 1, 0, none⟩ = some (.int .i64 ow2) ∧ w'.cell? ⟨w.heap.size + 1, 1, none⟩ = some u2) (go_keep) (first | (go_at_call 13; refine (owner_any _ _ _ _ _ (HB5.out.sm.drewN 1)).mono ?_; rintro e w6 ⟨rfl, rfl⟩) | (go_at_call 16; refine (waits_any _ _ _ _ _ (HB5.out.sm.drewN 1) (by omega)).mono ?_; rintro e w7 ⟨v7, rfl, ho7, hb7⟩; have HB7 : Hid (Below w5.heap.size w5 w7) := ⟨hb7.os, hb7.tape, hb7.output, hb7.size, hb7.block⟩; have HB7b := Lib.hid (HB5.out.below HB7.out); have HO7 := Lib.hid ho7; have t0 := HB7b.out.rs.cell0; have t1 := HB7b.out.rs.cell1; clear ho7 hb7) | (go_at_call 15; refine (same_yes _ _ _ _ (Sl.ofOwn HO7.out) HB7b.out.rs.rd.sl).mono ?_; rintro e w8 ⟨rfl, n8, hw8⟩; have HB8 : Hid (Bs w w8 w.heap.size (w.heap.size + 1) ow2 l2 v2 u2) := Bs.at1 HB7b.out hw8; have s0 := HB8.out.rs.cell0; have s1 := HB8.out.rs.cell1; clear hw8) | (go_at_call 21; refine (ahead_any _ _ _ _ _ _ HB8.out.sm (by omega)).mono ?_; rintro e w9 ⟨rfl, hb9⟩; have HB9 := Lib.hid (HB8.out.below hb9); have p0 := HB9.out.rs.cell0; have p1 := HB9.out.rs.cell1; clear hb9) | (go_at_call 22; refine (rahead_any _ _ _ _ _ _ HB9.out.rs (by omega)).mono ?_; rintro e w10 ⟨rfl, rfl⟩))
        go_wp2
        go_roundw
        case rel => exact ⟨k + 1, _, _, _, _, by omega, by go_num, by omega, HB9.out⟩
        case measure => simp [intOf]; omega
      · have b0 : (kind == 0) = false := by rw [beq_eq_false_iff_ne]; exact hk0
        have b1 : (kind == 1) = false := by rw [beq_eq_false_iff_ne]; exact hk1
        clear hk0 hk1
        go_wp2_with fail
        obtain ⟨wp, hwp⟩ : ∃ wp, wp = wr.alloc (.cells #[.int .i64 kind, .int .i64 x] 41) := ⟨_, rfl⟩
        rw [← hwp] at HBc HK ⊢
        have c1 := HK.out.cell 1
        simp only [List.getElem?_toArray, List.getElem?_cons_zero, List.getElem?_cons_succ] at c1
        clear hwp
        have e1 : (decide (x ∈ l) != decide (x ∈ l)) = false := by simp
        have hln := erase_len l x
        obtain ⟨l2, HL2⟩ : ∃ l2, Hid (l.erase x = l2) := ⟨_, rfl⟩
        go_region_held3 (fun w' => w'.cell? ⟨wr.heap.size, 1, none⟩ = some (.int .i64 x)) (go_keep) (first | (go_at_call 19; refine (drop_any _ _ _ _ _ _ (HBc.out.sm.drewN 1) (by omega)).mono ?_; rintro e w2 ⟨rfl, v2, hS2, hO2, hG2⟩; have HO2 : Hid (Only (Sf w.heap.size v) wp w2) := ⟨hO2.os, hO2.tape, hO2.output, hO2.size, hO2.block⟩; have HM := Lib.hid (HBc.out.mid HO2.out); have HK2 := Lib.hid (HK.out.only HO2.out HN1.out); have d1 : w2.cell? ⟨wr.heap.size, 1, none⟩ = some (.int .i64 x) := HK2.out.cell 1; have HS2 := Lib.hid hS2; have HG2 : Hid (Grs w.heap.size v v2 wp) := hG2; clear hS2 hO2 hG2) | (go_at_call 20; refine (rdrop_any _ _ _ _ _ _ HM.out (by omega)).mono ?_; rintro e w3 ⟨rfl, u2, hR3, hO3, hG3⟩; have HB3 := Lib.hid (HBc.out.fin HS2.out HO2.out HG2.out hR3 hO3 hG3); have d3 : w3.cell? ⟨wr.heap.size, 1, none⟩ = some (.int .i64 x) := (HK2.out.only hO3 HN2.out).cell 1; clear hR3 hO3 hG3))
        rw [HL2.out] at HB3 hln
        generalize decide (x ∈ l) = y1 at *
        clear HL2 HS2 HM
        -- behind the act: what both say
        obtain ⟨w5, hw5⟩ : ∃ w5 : World, w5 = w3 := ⟨_, rfl⟩
        rw [← hw5]
        have HB5 : Hid (Bs w w5 w.heap.size (w.heap.size + 1) ow l2 v2 u2) := by rw [hw5]; exact HB3.out
        clear hw5
        have r0 := HB5.out.rs.cell0
        have r1 := HB5.out.rs.cell1
        go_wp2_with fail
        go_region_held3 (fun w' => w'.cell? ⟨w.heap.size + 1, 0, none⟩ = some (.int .i64 ow) ∧ w'.cell? ⟨w.heap.size + 1, 1, none⟩ = some u2) (go_keep) (first | (go_at_call 13; refine (owner_any _ _ _ _ _ (HB5.out.sm.drewN 1)).mono ?_; rintro e w6 ⟨rfl, rfl⟩) | (go_at_call 16; refine (waits_any _ _ _ _ _ (HB5.out.sm.drewN 1) (by omega)).mono ?_; rintro e w7 ⟨v7, rfl, ho7, hb7⟩; have HB7 : Hid (Below w5.heap.size w5 w7) := ⟨hb7.os, hb7.tape, hb7.output, hb7.size, hb7.block⟩; have HB7b := Lib.hid (HB5.out.below HB7.out); have HO7 := Lib.hid ho7; have t0 := HB7b.out.rs.cell0; have t1 := HB7b.out.rs.cell1; clear ho7 hb7) | (go_at_call 15; refine (same_yes _ _ _ _ (Sl.ofOwn HO7.out) HB7b.out.rs.rd.sl).mono ?_; rintro e w8 ⟨rfl, n8, hw8⟩; have HB8 : Hid (Bs w w8 w.heap.size (w.heap.size + 1) ow l2 v2 u2) := Bs.at1 HB7b.out hw8; have s0 := HB8.out.rs.cell0; have s1 := HB8.out.rs.cell1; clear hw8) | (go_at_call 21; refine (ahead_any _ _ _ _ _ _ HB8.out.sm (by omega)).mono ?_; rintro e w9 ⟨rfl, hb9⟩; have HB9 := Lib.hid (HB8.out.below hb9); have p0 := HB9.out.rs.cell0; have p1 := HB9.out.rs.cell1; clear hb9) | (go_at_call 22; refine (rahead_any _ _ _ _ _ _ HB9.out.rs (by omega)).mono ?_; rintro e w10 ⟨rfl, rfl⟩))
        go_wp2
        go_roundw
        case rel => exact ⟨k + 1, _, _, _, _, by omega, by go_num, by omega, HB9.out⟩
        case measure => simp [intOf]; omega
    · have HBel := Lib.hid hB.bel
      clear hB
      go_wp2_with (go_at_call 9; refine (alive_any _).mono ?_; rintro e w' ⟨rfl, hb⟩)
      go_ret
      exact ⟨rfl, below_below HBel.out hb⟩

set_option maxHeartbeats 1000000 in
theorem plays (w : World) (a : Option Addr) (len cap : Nat) (f : Nat → Nat → Int) (hr : Row w a len 2 f) (g : Int) (_ : (Lit.int .i64 g).wf = true) :
    Calls Try.prog 4 #[.slice a len cap, .int .i64 g] w fun e w' => e = .returned (.bool true) ∧ Below w.heap.size w w' := by
  by_cases hbig : 100 < len
  · go_enter Try.func4, Try.ntmps4
    go_wp2_with (go_at_call 9; refine (alive_any _).mono ?_; rintro e w' ⟨rfl, hb⟩)
    go_ret
    exact ⟨rfl, hb⟩
  · exact plays_good w a len cap f hr (by omega) g
end Go.Proofs.Ytcjgdnlacfpioaa.Sema
