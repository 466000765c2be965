/- Chapter 23: an act on a ring of both. -/
import Derived.Test.YtgahkcbkpnehfaaProcsAct
namespace Go.Proofs.Ytgahkcbkpnehfaa.Procs
open Go.RowKit Go.Esc
open Go.Proofs.Ytgahkcbkpnehfaa.Ring (Rw Sg allL RefR Turned getR getV getB grabR grabN grabO putN putR putO put_any get_any grab_any rput_any rget_any rgrab_any)
open Go.Proofs.Ytgahkcbkpnehfaa.Glob (Gr Queue)
set_option linter.unusedVariables false
attribute [local go_sem ↓] Go.wp_at_zero Go.wp_at_succ


set_option maxRecDepth 100000 in
set_option maxHeartbeats 4000000 in
theorem act_get (w0 w : World) (p q d n : Nat) (R : Nat → Rn) (L : List Int) (x : Int) (i : Nat) (h : Bth w0 w p q d n R L) (hi : i < n) :
    Calls Try.prog 53 #[.pointer (some ⟨p, 0, none⟩), .pointer (some ⟨q, 0, none⟩), .pointer (some ⟨d, 0, none⟩), .agg #[.int .i64 2, .int .i64 i, .int .i64 x]] w (ActP w0 p q d n (updR R i 0 (getR (R i).nx (R i).row)) L) := by
  obtain ⟨rv, S, g, cap, cs, vs, gv, hb⟩ := h
  have HX := Lib.hid (Bx.new w 2 i x)
  have HB := Lib.hid (hb.below (below_alloc (Below.refl _ _) (.cells #[.int .i64 2, .int .i64 i, .int .i64 x] 60)))
  have HNb := Lib.hid hb.box
  have hbx : ¬ Sg (R i).b (R i).g w.heap.size := fun hj => HNb.out.1 (.inl (.inr (.inr ⟨i, hi, hj⟩)))
  have hgx : g ≠ w.heap.size := fun e => HNb.out.2 (.inr (.inl e.symm))
  have HBx := Lib.hid hbx
  have HGx := Lib.hid hgx
  clear hb hbx hgx
  have HZ : Hid True := trivial
  have HRi := Lib.hid (fun k => swap (ring_any p rv n R i (World.drewN _ k) (HB.out.pq.prc.drewN k)))
  unfold ringP at HRi
  rw [if_pos ⟨by omega, by omega⟩, Int.toNat_natCast] at HRi
  have e0 := HB.out.dp.blk.cell 0
  have hdl := HB.out.dp.blk.lt
  simp only [List.getElem?_toArray, List.getElem?_cons_zero] at e0
  have hd0 : decide ((i : Int) < 0) = false := by simp
  have hd1 : decide ((n : Int) ≤ (i : Int)) = false := by simp; omega
  have hd2 : decide (n ≤ i) = false := by simp; omega
  have hii : (i : Int) < (n : Int) := by omega
  obtain ⟨wp, hwp⟩ : ∃ wp, wp = w.alloc (.cells #[.int .i64 2, .int .i64 i, .int .i64 x] 60) := ⟨_, rfl⟩
  rw [← hwp] at HB HX HRi e0 hdl
  have b0 := HX.out.c0
  have b1 := HX.out.c1
  go_enter Try.func53, Try.ntmps53
  go_wp2_with fail
  rw [← hwp]
  clear hwp
  go_quiet (fail)
  go_wp2_with fail
  obtain ⟨wq, hwq⟩ : ∃ wq, wq = wp.drewN nq := ⟨_, rfl⟩
  rw [← hwq]
  have HB1 : Hid (Bt w0 wq p rv n R q S L d g cap cs vs gv) := by rw [hwq]; exact HB.out.below (below_drewN (Below.refl _ _) _)
  have HX1 : Hid (Bx w wq 2 i x) := by rw [hwq]; exact ⟨HX.out.blk⟩
  have HRi1 := Lib.hid (fun k => swap (ring_any p rv n R i (wq.drewN k) (HB1.out.pq.prc.drewN k)))
  unfold ringP at HRi1
  rw [if_pos ⟨by omega, by omega⟩, Int.toNat_natCast] at HRi1
  have q0 := HB1.out.dp.blk.cell 0
  have hql := HB1.out.dp.blk.lt
  simp only [List.getElem?_toArray, List.getElem?_cons_zero] at q0
  have p1 := HX1.out.c1
  have p0 := HX1.out.c0
  clear hwq e0 hdl b0 b1 HRi HB HX
  go_quiet ((go_at_call 44; exact Calls.quiet_of_same (HRi1.out _)))
  go_wp2_with fail
  obtain ⟨wz, hwz⟩ : ∃ wz, wz = wq.drewN nq := ⟨_, rfl⟩
  rw [← hwz]
  have HB2 : Hid (Bt w0 wz p rv n R q S L d g cap cs vs gv) := by rw [hwz]; exact HB1.out.below (below_drewN (Below.refl _ _) _)
  have HX2 : Hid (Bx w wz 2 i x) := by rw [hwz]; exact ⟨HX1.out.blk⟩
  clear hwz p0 p1 q0 hql HB1 HX1 HRi1
  refine (get_any _ _ 256 _ _ _ (HB2.out.pq.prc.ring i hi)).mono ?_
  rintro e w1 ⟨rfl, hR1, hO1⟩
  have HO1 := Lib.hid hO1
  have HR1 := Lib.hid hR1
  have HM := Lib.hid (HB2.out.mid hi hO1)
  clear hO1 hR1
  go_wp2_with fail
  refine (rget_any g (i * 3) cs 54 256 _ (vs i) _ _ HM.out.1 HM.out.2.1 (by have := HM.out.2.2; omega)).mono ?_
  rintro e w2 ⟨rfl, cs', v', hr2, ht2⟩
  have HF := Lib.hid (HB2.out.turn hi HR1.out HO1.out hr2 ht2 (get_pos (HB2.out.pos i hi)))
  clear hr2 ht2
  have e1 : (getV (R i).nx (R i).row == getV (R i).nx (R i).row) = true := by simp
  have e2 : (getB (R i).nx (R i).row == getB (R i).nx (R i).row) = true := by simp
  generalize getV (R i).nx (R i).row = y1 at *
  generalize getB (R i).nx (R i).row = y2 at *
  go_wp2_with fail
  go_ret
  exact ⟨rfl, _, _, _, _, _, _, _, HF.out⟩


set_option maxRecDepth 100000 in
set_option maxHeartbeats 4000000 in
theorem act_grab (w0 w : World) (p q d n : Nat) (R : Nat → Rn) (L : List Int) (kind x : Int) (i : Nat) (h : Bth w0 w p q d n R L) (hi : i < n) (hk : kind ≠ 4) (hk0 : kind ≠ 0) (hk1 : kind ≠ 1) (hk2 : kind ≠ 2) :
    Calls Try.prog 53 #[.pointer (some ⟨p, 0, none⟩), .pointer (some ⟨q, 0, none⟩), .pointer (some ⟨d, 0, none⟩), .agg #[.int .i64 kind, .int .i64 i, .int .i64 x]] w (ActP w0 p q d n (updR R i (grabN (R i).nx (R i).row) (grabR (R i).row)) L) := by
  obtain ⟨rv, S, g, cap, cs, vs, gv, hb⟩ := h
  have HX := Lib.hid (Bx.new w kind i x)
  have HB := Lib.hid (hb.below (below_alloc (Below.refl _ _) (.cells #[.int .i64 kind, .int .i64 i, .int .i64 x] 60)))
  have HNb := Lib.hid hb.box
  have hbx : ¬ Sg (R i).b (R i).g w.heap.size := fun hj => HNb.out.1 (.inl (.inr (.inr ⟨i, hi, hj⟩)))
  have hgx : g ≠ w.heap.size := fun e => HNb.out.2 (.inr (.inl e.symm))
  have HBx := Lib.hid hbx
  have HGx := Lib.hid hgx
  clear hb hbx hgx
  have f4 : (kind == 4) = false := by rw [beq_eq_false_iff_ne]; exact hk
  have f0 : (kind == 0) = false := by rw [beq_eq_false_iff_ne]; exact hk0
  have f1 : (kind == 1) = false := by rw [beq_eq_false_iff_ne]; exact hk1
  have f2 : (kind == 2) = false := by rw [beq_eq_false_iff_ne]; exact hk2
  have HRi := Lib.hid (fun k => swap (ring_any p rv n R i (World.drewN _ k) (HB.out.pq.prc.drewN k)))
  unfold ringP at HRi
  rw [if_pos ⟨by omega, by omega⟩, Int.toNat_natCast] at HRi
  have e0 := HB.out.dp.blk.cell 0
  have hdl := HB.out.dp.blk.lt
  simp only [List.getElem?_toArray, List.getElem?_cons_zero] at e0
  have hd0 : decide ((i : Int) < 0) = false := by simp
  have hd1 : decide ((n : Int) ≤ (i : Int)) = false := by simp; omega
  have hd2 : decide (n ≤ i) = false := by simp; omega
  have hii : (i : Int) < (n : Int) := by omega
  obtain ⟨wp, hwp⟩ : ∃ wp, wp = w.alloc (.cells #[.int .i64 kind, .int .i64 i, .int .i64 x] 60) := ⟨_, rfl⟩
  rw [← hwp] at HB HX HRi e0 hdl
  have b0 := HX.out.c0
  have b1 := HX.out.c1
  go_enter Try.func53, Try.ntmps53
  go_wp2_with fail
  rw [← hwp]
  clear hwp
  go_quiet (fail)
  go_wp2_with fail
  obtain ⟨wq, hwq⟩ : ∃ wq, wq = wp.drewN nq := ⟨_, rfl⟩
  rw [← hwq]
  have HB1 : Hid (Bt w0 wq p rv n R q S L d g cap cs vs gv) := by rw [hwq]; exact HB.out.below (below_drewN (Below.refl _ _) _)
  have HX1 : Hid (Bx w wq kind i x) := by rw [hwq]; exact ⟨HX.out.blk⟩
  have HRi1 := Lib.hid (fun k => swap (ring_any p rv n R i (wq.drewN k) (HB1.out.pq.prc.drewN k)))
  unfold ringP at HRi1
  rw [if_pos ⟨by omega, by omega⟩, Int.toNat_natCast] at HRi1
  have q0 := HB1.out.dp.blk.cell 0
  have hql := HB1.out.dp.blk.lt
  simp only [List.getElem?_toArray, List.getElem?_cons_zero] at q0
  have p1 := HX1.out.c1
  have p0 := HX1.out.c0
  clear hwq e0 hdl b0 b1 HRi HB HX
  go_quiet ((go_at_call 44; exact Calls.quiet_of_same (HRi1.out _)))
  go_wp2_with fail
  obtain ⟨wz, hwz⟩ : ∃ wz, wz = wq.drewN nq := ⟨_, rfl⟩
  rw [← hwz]
  have HB2 : Hid (Bt w0 wz p rv n R q S L d g cap cs vs gv) := by rw [hwz]; exact HB1.out.below (below_drewN (Below.refl _ _) _)
  have HX2 : Hid (Bx w wz kind i x) := by rw [hwz]; exact ⟨HX1.out.blk⟩
  clear hwz p0 p1 q0 hql HB1 HX1 HRi1
  refine (grab_any _ _ 256 _ _ _ (HB2.out.pq.prc.ring i hi)).mono ?_
  rintro e w1 ⟨v1, rfl, hown1, hR1, hO1⟩
  have HO1 := Lib.hid hO1
  have HR1 := Lib.hid hR1
  have HOwn1 := Lib.hid hown1
  have HM := Lib.hid (HB2.out.mid hi hO1)
  clear hO1 hR1 hown1
  go_wp2_with fail
  refine (rgrab_any g (i * 3) cs 54 256 _ (vs i) _ _ HM.out.1 HM.out.2.1 (by have := HM.out.2.2; omega)).mono ?_
  rintro e w2 ⟨u2, cs', v', rfl, hs2, hr2, ht2⟩
  have HF := Lib.hid (HB2.out.turn hi HR1.out HO1.out hr2 ht2 (grab_pos (HB2.out.pos i hi)))
  have HOwn2 := Lib.hid (HOwn1.out.only ht2.only (fun j hj e => by have := HB2.out.dp.gl; have e' : j = g := e; omega))
  have HS := Lib.hid (Ref.same_yes _ _ _ _ (Sl.ofOwn HOwn2.out) hs2.sl)
  clear hs2 hr2 ht2
  go_wp2_with fail
  refine HS.out.mono ?_
  rintro e w3 ⟨rfl, n3, rfl⟩
  go_wp2_with fail
  go_ret
  exact ⟨rfl, _, _, _, _, _, _, _, HF.out.below (below_drewN (Below.refl _ _) _)⟩


set_option maxRecDepth 100000 in
set_option maxHeartbeats 4000000 in
theorem act_put0 (w0 w : World) (p q d n : Nat) (R : Nat → Rn) (L : List Int) (kind x : Int) (i : Nat) (h : Bth w0 w p q d n R L) (hi : i < n) (hk : kind = 0) (nb : Bool) (hnb : (kind == 1) = nb) :
    Calls Try.prog 53 #[.pointer (some ⟨p, 0, none⟩), .pointer (some ⟨q, 0, none⟩), .pointer (some ⟨d, 0, none⟩), .agg #[.int .i64 kind, .int .i64 i, .int .i64 x]] w (ActP w0 p q d n (updR R i (putN (R i).nx x nb) (putR 256 (R i).nx (R i).row x nb)) L) := by
  obtain ⟨rv, S, g, cap, cs, vs, gv, hb⟩ := h
  have HX := Lib.hid (Bx.new w kind i x)
  have HB := Lib.hid (hb.below (below_alloc (Below.refl _ _) (.cells #[.int .i64 kind, .int .i64 i, .int .i64 x] 60)))
  have HNb := Lib.hid hb.box
  have hbx : ¬ Sg (R i).b (R i).g w.heap.size := fun hj => HNb.out.1 (.inl (.inr (.inr ⟨i, hi, hj⟩)))
  have hgx : g ≠ w.heap.size := fun e => HNb.out.2 (.inr (.inl e.symm))
  have HBx := Lib.hid hbx
  have HGx := Lib.hid hgx
  clear hb hbx hgx
  have f4 : (kind == 4) = false := by rw [beq_eq_false_iff_ne]; omega
  have f0 : (kind == 0) = true := by rw [beq_iff_eq]; exact hk
  clear hk
  have HRi := Lib.hid (fun k => swap (ring_any p rv n R i (World.drewN _ k) (HB.out.pq.prc.drewN k)))
  unfold ringP at HRi
  rw [if_pos ⟨by omega, by omega⟩, Int.toNat_natCast] at HRi
  have e0 := HB.out.dp.blk.cell 0
  have hdl := HB.out.dp.blk.lt
  simp only [List.getElem?_toArray, List.getElem?_cons_zero] at e0
  have hd0 : decide ((i : Int) < 0) = false := by simp
  have hd1 : decide ((n : Int) ≤ (i : Int)) = false := by simp; omega
  have hd2 : decide (n ≤ i) = false := by simp; omega
  have hii : (i : Int) < (n : Int) := by omega
  obtain ⟨wp, hwp⟩ : ∃ wp, wp = w.alloc (.cells #[.int .i64 kind, .int .i64 i, .int .i64 x] 60) := ⟨_, rfl⟩
  rw [← hwp] at HB HX HRi e0 hdl
  have b0 := HX.out.c0
  have b1 := HX.out.c1
  go_enter Try.func53, Try.ntmps53
  go_wp2_with fail
  rw [← hwp]
  clear hwp
  go_quiet (fail)
  go_wp2_with fail
  obtain ⟨wq, hwq⟩ : ∃ wq, wq = wp.drewN nq := ⟨_, rfl⟩
  rw [← hwq]
  have HB1 : Hid (Bt w0 wq p rv n R q S L d g cap cs vs gv) := by rw [hwq]; exact HB.out.below (below_drewN (Below.refl _ _) _)
  have HX1 : Hid (Bx w wq kind i x) := by rw [hwq]; exact ⟨HX.out.blk⟩
  have HRi1 := Lib.hid (fun k => swap (ring_any p rv n R i (wq.drewN k) (HB1.out.pq.prc.drewN k)))
  unfold ringP at HRi1
  rw [if_pos ⟨by omega, by omega⟩, Int.toNat_natCast] at HRi1
  have q0 := HB1.out.dp.blk.cell 0
  have hql := HB1.out.dp.blk.lt
  simp only [List.getElem?_toArray, List.getElem?_cons_zero] at q0
  have p1 := HX1.out.c1
  have p0 := HX1.out.c0
  clear hwq e0 hdl b0 b1 HRi HB HX
  go_quiet ((go_at_call 44; exact Calls.quiet_of_same (HRi1.out _)))
  go_wp2_with fail
  obtain ⟨wz, hwz⟩ : ∃ wz, wz = wq.drewN nq := ⟨_, rfl⟩
  rw [← hwz]
  have HB2 : Hid (Bt w0 wz p rv n R q S L d g cap cs vs gv) := by rw [hwz]; exact HB1.out.below (below_drewN (Below.refl _ _) _)
  have HX2 : Hid (Bx w wz kind i x) := by rw [hwz]; exact ⟨HX1.out.blk⟩
  clear hwz p0 p1 q0 hql HB1 HX1 HRi1
  have c0 := HX2.out.c0
  have c2 := HX2.out.c2
  go_region_held3 (fun w' => w'.cell? ⟨w.heap.size, 0, none⟩ = some (.int .i64 kind) ∧ w'.cell? ⟨w.heap.size, 2, none⟩ = some (.int .i64 x)) (go_keep) (first | (go_at_call 24; refine (put_any _ _ 256 _ _ x nb _ ((HB2.out.pq.prc.ring i hi).drewN 1)).mono ?_; rintro e w1 ⟨v1, rfl, hown1, hR1, hO1⟩; have HO1 : Hid (Only (Sg (R i).b (R i).g) wz w1) := ⟨hO1.os, hO1.tape, hO1.output, hO1.size, hO1.block⟩; have HOwn1 : Hid (OwnI w1 wz.heap.size v1 (putO 256 (R i).nx (R i).row x nb)) := hown1; have HR1 := Lib.hid hR1; have HM := Lib.hid (HB2.out.mid hi HO1.out); have hX1 := HX2.out.only HO1.out HBx.out; have k0 := hX1.c0; have k1 := hX1.c2; have HX3 := Lib.hid hX1; clear hO1 hown1 hR1 hX1) | (go_at_call 67; refine (rput_any g (i * 3) cs 54 256 _ (vs i) _ x nb _ HM.out.1 (by omega) (by omega) (by have := HM.out.2.2; omega)).mono ?_; rintro e w2 ⟨u2, cs', v', rfl, hs2, hr2, ht2⟩; have HF := Lib.hid (HB2.out.turn hi HR1.out HO1.out hr2 ht2 (put_pos (HB2.out.pos i hi) HM.out.2.1).1); have HS2 := Lib.hid hs2; have HOwn2 := Lib.hid (HOwn1.out.only ht2.only (fun j hj e => by have := HB2.out.dp.gl; have e' : j = g := e; omega)); have hX2 := HX3.out.only ht2.only (fun e => HGx.out (show w.heap.size = g from e).symm); have l0 := hX2.c0; have l1 := hX2.c2; clear hs2 hr2 ht2 hX2) | (go_at_call 20; refine (Ref.same_yes _ _ _ _ (Sl.ofOwn HOwn2.out) HS2.out.sl).mono ?_; rintro e w3 ⟨rfl, n3, rfl⟩))
  go_wp2
  go_ret
  exact ⟨rfl, _, _, _, _, _, _, _, HF.out.below (below_drewN (Below.refl _ _) _)⟩


set_option maxRecDepth 100000 in
set_option maxHeartbeats 4000000 in
theorem act_put1 (w0 w : World) (p q d n : Nat) (R : Nat → Rn) (L : List Int) (kind x : Int) (i : Nat) (h : Bth w0 w p q d n R L) (hi : i < n) (hk : kind = 1) :
    Calls Try.prog 53 #[.pointer (some ⟨p, 0, none⟩), .pointer (some ⟨q, 0, none⟩), .pointer (some ⟨d, 0, none⟩), .agg #[.int .i64 kind, .int .i64 i, .int .i64 x]] w (ActP w0 p q d n (updR R i (putN (R i).nx x true) (putR 256 (R i).nx (R i).row x true)) L) := by
  obtain ⟨rv, S, g, cap, cs, vs, gv, hb⟩ := h
  have HX := Lib.hid (Bx.new w kind i x)
  have HB := Lib.hid (hb.below (below_alloc (Below.refl _ _) (.cells #[.int .i64 kind, .int .i64 i, .int .i64 x] 60)))
  have HNb := Lib.hid hb.box
  have hbx : ¬ Sg (R i).b (R i).g w.heap.size := fun hj => HNb.out.1 (.inl (.inr (.inr ⟨i, hi, hj⟩)))
  have hgx : g ≠ w.heap.size := fun e => HNb.out.2 (.inr (.inl e.symm))
  have HBx := Lib.hid hbx
  have HGx := Lib.hid hgx
  clear hb hbx hgx
  have f4 : (kind == 4) = false := by rw [beq_eq_false_iff_ne]; omega
  have f0 : (kind == 0) = false := by rw [beq_eq_false_iff_ne]; omega
  have f1 : (kind == 1) = true := by rw [beq_iff_eq]; exact hk
  clear hk
  have HRi := Lib.hid (fun k => swap (ring_any p rv n R i (World.drewN _ k) (HB.out.pq.prc.drewN k)))
  unfold ringP at HRi
  rw [if_pos ⟨by omega, by omega⟩, Int.toNat_natCast] at HRi
  have e0 := HB.out.dp.blk.cell 0
  have hdl := HB.out.dp.blk.lt
  simp only [List.getElem?_toArray, List.getElem?_cons_zero] at e0
  have hd0 : decide ((i : Int) < 0) = false := by simp
  have hd1 : decide ((n : Int) ≤ (i : Int)) = false := by simp; omega
  have hd2 : decide (n ≤ i) = false := by simp; omega
  have hii : (i : Int) < (n : Int) := by omega
  obtain ⟨wp, hwp⟩ : ∃ wp, wp = w.alloc (.cells #[.int .i64 kind, .int .i64 i, .int .i64 x] 60) := ⟨_, rfl⟩
  rw [← hwp] at HB HX HRi e0 hdl
  have b0 := HX.out.c0
  have b1 := HX.out.c1
  go_enter Try.func53, Try.ntmps53
  go_wp2_with fail
  rw [← hwp]
  clear hwp
  go_quiet (fail)
  go_wp2_with fail
  obtain ⟨wq, hwq⟩ : ∃ wq, wq = wp.drewN nq := ⟨_, rfl⟩
  rw [← hwq]
  have HB1 : Hid (Bt w0 wq p rv n R q S L d g cap cs vs gv) := by rw [hwq]; exact HB.out.below (below_drewN (Below.refl _ _) _)
  have HX1 : Hid (Bx w wq kind i x) := by rw [hwq]; exact ⟨HX.out.blk⟩
  have HRi1 := Lib.hid (fun k => swap (ring_any p rv n R i (wq.drewN k) (HB1.out.pq.prc.drewN k)))
  unfold ringP at HRi1
  rw [if_pos ⟨by omega, by omega⟩, Int.toNat_natCast] at HRi1
  have q0 := HB1.out.dp.blk.cell 0
  have hql := HB1.out.dp.blk.lt
  simp only [List.getElem?_toArray, List.getElem?_cons_zero] at q0
  have p1 := HX1.out.c1
  have p0 := HX1.out.c0
  clear hwq e0 hdl b0 b1 HRi HB HX
  go_quiet ((go_at_call 44; exact Calls.quiet_of_same (HRi1.out _)))
  go_wp2_with fail
  obtain ⟨wz, hwz⟩ : ∃ wz, wz = wq.drewN nq := ⟨_, rfl⟩
  rw [← hwz]
  have HB2 : Hid (Bt w0 wz p rv n R q S L d g cap cs vs gv) := by rw [hwz]; exact HB1.out.below (below_drewN (Below.refl _ _) _)
  have HX2 : Hid (Bx w wz kind i x) := by rw [hwz]; exact ⟨HX1.out.blk⟩
  clear hwz p0 p1 q0 hql HB1 HX1 HRi1
  have c0 := HX2.out.c0
  have c2 := HX2.out.c2
  go_region_held3 (fun w' => w'.cell? ⟨w.heap.size, 0, none⟩ = some (.int .i64 kind) ∧ w'.cell? ⟨w.heap.size, 2, none⟩ = some (.int .i64 x)) (go_keep) (first | (go_at_call 24; refine (put_any _ _ 256 _ _ x true _ ((HB2.out.pq.prc.ring i hi).drewN 1)).mono ?_; rintro e w1 ⟨v1, rfl, hown1, hR1, hO1⟩; have HO1 : Hid (Only (Sg (R i).b (R i).g) wz w1) := ⟨hO1.os, hO1.tape, hO1.output, hO1.size, hO1.block⟩; have HOwn1 : Hid (OwnI w1 wz.heap.size v1 (putO 256 (R i).nx (R i).row x true)) := hown1; have HR1 := Lib.hid hR1; have HM := Lib.hid (HB2.out.mid hi HO1.out); have hX1 := HX2.out.only HO1.out HBx.out; have k0 := hX1.c0; have k1 := hX1.c2; have HX3 := Lib.hid hX1; clear hO1 hown1 hR1 hX1) | (go_at_call 67; refine (rput_any g (i * 3) cs 54 256 _ (vs i) _ x true _ HM.out.1 (by omega) (by omega) (by have := HM.out.2.2; omega)).mono ?_; rintro e w2 ⟨u2, cs', v', rfl, hs2, hr2, ht2⟩; have HF := Lib.hid (HB2.out.turn hi HR1.out HO1.out hr2 ht2 (put_pos (HB2.out.pos i hi) HM.out.2.1).1); have HS2 := Lib.hid hs2; have HOwn2 := Lib.hid (HOwn1.out.only ht2.only (fun j hj e => by have := HB2.out.dp.gl; have e' : j = g := e; omega)); have hX2 := HX3.out.only ht2.only (fun e => HGx.out (show w.heap.size = g from e).symm); have l0 := hX2.c0; have l1 := hX2.c2; clear hs2 hr2 ht2 hX2) | (go_at_call 20; refine (Ref.same_yes _ _ _ _ (Sl.ofOwn HOwn2.out) HS2.out.sl).mono ?_; rintro e w3 ⟨rfl, n3, rfl⟩))
  go_wp2
  go_ret
  exact ⟨rfl, _, _, _, _, _, _, _, HF.out.below (below_drewN (Below.refl _ _) _)⟩

end Go.Proofs.Ytgahkcbkpnehfaa.Procs
