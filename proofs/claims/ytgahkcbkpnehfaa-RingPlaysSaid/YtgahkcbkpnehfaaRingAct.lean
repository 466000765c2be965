/- Chapter 13: an act on both rings. -/
import Derived.Test.YtgahkcbkpnehfaaRefRingFill
import Derived.Deep.RegionHeld3
import Derived.Deep.DrawnRows
namespace Go.Proofs.Ytgahkcbkpnehfaa.Ring
open Go.RowKit Go.Esc
set_option linter.unusedVariables false

/-- The program's ring and the document's, side by side, all in memory that is new to w0. -/
structure Both (w0 w : World) (b g bb size : Nat) (nx : Int) (row : List Int) : Prop where
  ring : Rw w b g size nx row
  refr : ∃ cs v, RefR w bb 0 cs 54 size nx v row ∧ Off (Sg b g) v
  nb : bb ≠ b
  ng : bb ≠ g
  lb : w0.heap.size ≤ b
  lg : w0.heap.size ≤ g
  lbb : w0.heap.size ≤ bb
  bel : Below w0.heap.size w0 w

theorem Both.drewN {w0 w : World} {b g bb size : Nat} {nx : Int} {row : List Int} (h : Both w0 w b g bb size nx row) (n : Nat) : Both w0 (w.drewN n) b g bb size nx row := by
  obtain ⟨cs, v, hr, ho⟩ := h.refr
  exact ⟨h.ring.drewN n, ⟨cs, v, hr.drewN n, ho⟩, h.nb, h.ng, h.lb, h.lg, h.lbb, below_drewN h.bel n⟩
theorem Both.below {w0 w w' : World} {b g bb size : Nat} {nx : Int} {row : List Int} (h : Both w0 w b g bb size nx row) (hb : Below w.heap.size w w') : Both w0 w' b g bb size nx row := by
  obtain ⟨cs, v, hr, ho⟩ := h.refr
  exact ⟨h.ring.below hb, ⟨cs, v, hr.below hb, ho⟩, h.nb, h.ng, h.lb, h.lg, h.lbb, below_below h.bel hb⟩
theorem Both.mid {w0 w w1 : World} {b g bb size : Nat} {nx : Int} {row : List Int} (h : Both w0 w b g bb size nx row) (o : Only (Sg b g) w w1) : ∃ cs v, RefR w1 bb 0 cs 54 size nx v row ∧ Off (Sg b g) v := by
  obtain ⟨cs, v, hr, ho⟩ := h.refr
  exact ⟨cs, v, hr.only o (fun e => e.elim h.nb h.ng) (fun _ => ho), ho⟩
theorem Both.fin {w0 w w1 w2 : World} {b g bb size : Nat} {nx nx' : Int} {row row' : List Int} {cs cs' : Array Value} {v v' : Value} (h : Both w0 w b g bb size nx row) (o : Only (Sg b g) w w1) (hr : Rw w1 b g size nx' row') (ho : Off (Sg b g) v)
    (hr2 : RefR w2 bb 0 cs' 54 size nx' v' row') (ht : Turned bb 0 cs cs' v v' w1 w2) : Both w0 w2 b g bb size nx' row' := by
  refine ⟨hr.only ht.only (fun j hj e => ?_), ⟨cs', v', hr2, fun j hj e => ?_⟩, h.nb, h.ng, h.lb, h.lg, h.lbb, ?_⟩
  · have e' : j = bb := e
    rcases hj with h1 | h1
    · exact h.nb (by omega)
    · exact h.ng (by omega)
  · rcases ht.grow j hj with h1 | h1
    · exact ho j h1 e
    · have h2 := hr.lt
      rcases e with e | e <;> omega
  · have h1 : Below w0.heap.size w0 w1 := below_only h.bel o (fun k hk => by rcases hk with rfl | rfl; exact h.lb; exact h.lg)
    exact below_only h1 ht.only (fun k hk => by have : k = bb := hk; have := h.lbb; omega)

theorem Both.refr_lt {w0 w : World} {b g bb size : Nat} {nx : Int} {row : List Int} (h : Both w0 w b g bb size nx row) : bb < w.heap.size := by
  obtain ⟨cs, v, hr, _⟩ := h.refr
  exact hr.blk.lt

def ActPost (w0 : World) (b g bb size : Nat) (nx : Int) (row : List Int) (e : Ending) (w' : World) : Prop := e = .returned (.bool true) ∧ Both w0 w' b g bb size nx row

/-- The act, boxed: where it lies. -/
structure Boxd (w0 w wp : World) (b g bb : Nat) (kind x : Int) (u : Value) : Prop where
  blk : Blk wp w.heap.size #[.int .i64 kind, .int .i64 x, u] 37
  nb : ¬ Sg b g w.heap.size
  nbb : w.heap.size ≠ bb
theorem Both.boxd {w0 w : World} {b g bb size : Nat} {nx : Int} {row : List Int} (h : Both w0 w b g bb size nx row) (kind x : Int) (u : Value) :
    Both w0 (w.alloc (.cells #[.int .i64 kind, .int .i64 x, u] 37)) b g bb size nx row ∧ Boxd w0 w (w.alloc (.cells #[.int .i64 kind, .int .i64 x, u] 37)) b g bb kind x u := by
  refine ⟨h.below (below_alloc (Below.refl _ _) _), Blk.new _ _ _, fun e => ?_, ?_⟩
  · have := h.ring.lt
    rcases e with e | e <;> omega
  · obtain ⟨cs, v, hr, _⟩ := h.refr
    have := hr.blk.lt
    omega
theorem Boxd.only {w0 w wp wp' : World} {b g bb : Nat} {kind x : Int} {u : Value} (h : Boxd w0 w wp b g bb kind x u) (o : Only (Sg b g) wp wp') : Boxd w0 w wp' b g bb kind x u := ⟨h.blk.only o h.nb, h.nb, h.nbb⟩
theorem Boxd.turned {w0 w wp wp' : World} {b g bb : Nat} {kind x : Int} {u : Value} (h : Boxd w0 w wp b g bb kind x u) (o : Only (fun j => j = bb) wp wp') : Boxd w0 w wp' b g bb kind x u := ⟨h.blk.only o h.nbb, h.nb, h.nbb⟩
theorem Boxd.drewN {w0 w wp : World} {b g bb : Nat} {kind x : Int} {u : Value} (h : Boxd w0 w wp b g bb kind x u) (n : Nat) : Boxd w0 w (wp.drewN n) b g bb kind x u := ⟨h.blk, h.nb, h.nbb⟩
theorem Boxd.c0 {w0 w wp : World} {b g bb : Nat} {kind x : Int} {u : Value} (h : Boxd w0 w wp b g bb kind x u) : wp.cell? ⟨w.heap.size, 0, none⟩ = some (.int .i64 kind) := h.blk.cell 0
theorem Boxd.c1 {w0 w wp : World} {b g bb : Nat} {kind x : Int} {u : Value} (h : Boxd w0 w wp b g bb kind x u) : wp.cell? ⟨w.heap.size, 1, none⟩ = some (.int .i64 x) := h.blk.cell 1
theorem Boxd.c2 {w0 w wp : World} {b g bb : Nat} {kind x : Int} {u : Value} (h : Boxd w0 w wp b g bb kind x u) : wp.cell? ⟨w.heap.size, 2, none⟩ = some u := h.blk.cell 2

attribute [local go_sem ↓] Go.wp_at_zero Go.wp_at_succ

set_option maxRecDepth 100000 in
set_option maxHeartbeats 4000000 in
theorem act_put (w0 w : World) (b g bb size : Nat) (nx : Int) (row : List Int) (kind x : Int) (u : Value) (h : Both w0 w b g bb size nx row) (hk : kind = 0 ∨ kind = 1) :
    Calls Try.prog 36 #[.pointer (some ⟨b, 0, none⟩), .pointer (some ⟨bb, 0, none⟩), .agg #[.int .i64 kind, .int .i64 x, u]] w (ActPost w0 b g bb size (putN nx x (kind == 1)) (putR size nx row x (kind == 1))) := by
  obtain ⟨hB, hX⟩ := h.boxd kind x u
  obtain ⟨hrl, hlo, hhi, hnx, hne⟩ := h.ring.nums
  have HB := Lib.hid hB
  have HX := Lib.hid hX
  clear h hB hX
  have hkk : ∃ q : Bool, Hid ((kind == 1) = q) ∧ ((kind == 0) = true ∨ ((kind == 0) = false ∧ (kind == 1) = true)) := ⟨_, rfl, by rcases hk with rfl | rfl <;> simp⟩
  obtain ⟨q, HQ, hk⟩ := hkk
  rw [HQ.out]
  generalize hnn : putN nx x q = nn
  rcases hk with hk0 | ⟨hk0, hk1⟩
  · have hk1 : (kind == 1) = q := HQ.out
    go_enter Try.func36, Try.ntmps36
    go_wp2_with fail
    obtain ⟨wp, hwp⟩ : ∃ wp, wp = w.alloc (.cells #[.int .i64 kind, .int .i64 x, u] 37) := ⟨_, rfl⟩
    rw [← hwp] at HB HX ⊢
    have c0 := HX.out.c0
    have c1 := HX.out.c1
    clear hwp
    go_region_held3 (fun w' => w'.cell? ⟨w.heap.size, 0, none⟩ = some (.int .i64 kind) ∧ w'.cell? ⟨w.heap.size, 1, none⟩ = some (.int .i64 x)) (go_keep) (first | (go_at_call 24; refine (put_any b g size nx row x q _ (HB.out.ring.drewN 1)).mono ?_; rintro e w1 ⟨v1, rfl, hown1, hR1, hO1⟩; have HO1 : Hid (Only (Sg b g) wp w1) := ⟨hO1.os, hO1.tape, hO1.output, hO1.size, hO1.block⟩; have HOwn1 : Hid (OwnI w1 wp.heap.size v1 (putO size nx row x q)) := hown1; have HR1 := Lib.hid hR1; obtain ⟨cs, v, hrr, hoff⟩ := HB.out.mid HO1.out; have HRR := Lib.hid hrr; have HOff := Lib.hid hoff; have hX1 := HX.out.only HO1.out; have k0 := hX1.c0; have k1 := hX1.c1; have HX1 := Lib.hid hX1; clear hO1 hown1 hR1 hrr hoff hX1) | (go_at_call 67; refine (rput_any bb 0 cs 54 size nx v row x q _ HRR.out (by omega) (by omega) (by omega)).mono ?_; rintro e w2 ⟨u2, cs', v', rfl, hs2, hr2, ht2⟩; have HF := Lib.hid (HB.out.fin HO1.out HR1.out HOff.out hr2 ht2); have HS2 := Lib.hid hs2; have HOwn2 := Lib.hid (HOwn1.out.only ht2.only (fun j hj e => by have := HB.out.refr_lt; omega)); have hX2 := HX1.out.turned ht2.only; have l0 := hX2.c0; have l1 := hX2.c1; clear hs2 hr2 ht2 hX2) | (go_at_call 20; refine (Ref.same_yes _ _ _ _ (Sl.ofOwn HOwn2.out) HS2.out.sl).mono ?_; rintro e w3 ⟨rfl, n3, rfl⟩))
    go_wp2
    go_ret
    exact ⟨rfl, hnn ▸ HF.out.drewN n3⟩
  · obtain rfl : q = true := by rw [← HQ.out]; exact hk1
    go_enter Try.func36, Try.ntmps36
    go_wp2_with fail
    obtain ⟨wp, hwp⟩ : ∃ wp, wp = w.alloc (.cells #[.int .i64 kind, .int .i64 x, u] 37) := ⟨_, rfl⟩
    rw [← hwp] at HB HX ⊢
    have c0 := HX.out.c0
    have c1 := HX.out.c1
    clear hwp
    go_region_held3 (fun w' => w'.cell? ⟨w.heap.size, 0, none⟩ = some (.int .i64 kind) ∧ w'.cell? ⟨w.heap.size, 1, none⟩ = some (.int .i64 x)) (go_keep) (first | (go_at_call 24; refine (put_any b g size nx row x true _ (HB.out.ring.drewN 1)).mono ?_; rintro e w1 ⟨v1, rfl, hown1, hR1, hO1⟩; have HO1 : Hid (Only (Sg b g) wp w1) := ⟨hO1.os, hO1.tape, hO1.output, hO1.size, hO1.block⟩; have HOwn1 : Hid (OwnI w1 wp.heap.size v1 (putO size nx row x true)) := hown1; have HR1 := Lib.hid hR1; obtain ⟨cs, v, hrr, hoff⟩ := HB.out.mid HO1.out; have HRR := Lib.hid hrr; have HOff := Lib.hid hoff; have hX1 := HX.out.only HO1.out; have k0 := hX1.c0; have k1 := hX1.c1; have HX1 := Lib.hid hX1; clear hO1 hown1 hR1 hrr hoff hX1) | (go_at_call 67; refine (rput_any bb 0 cs 54 size nx v row x true _ HRR.out (by omega) (by omega) (by omega)).mono ?_; rintro e w2 ⟨u2, cs', v', rfl, hs2, hr2, ht2⟩; have HF := Lib.hid (HB.out.fin HO1.out HR1.out HOff.out hr2 ht2); have HS2 := Lib.hid hs2; have HOwn2 := Lib.hid (HOwn1.out.only ht2.only (fun j hj e => by have := HB.out.refr_lt; omega)); have hX2 := HX1.out.turned ht2.only; have l0 := hX2.c0; have l1 := hX2.c1; clear hs2 hr2 ht2 hX2) | (go_at_call 20; refine (Ref.same_yes _ _ _ _ (Sl.ofOwn HOwn2.out) HS2.out.sl).mono ?_; rintro e w3 ⟨rfl, n3, rfl⟩))
    go_wp2
    go_ret
    exact ⟨rfl, hnn ▸ HF.out.drewN n3⟩

/-- The frame of a single pair of calls: the program's, then the document's. -/
theorem Both.pair {w0 wp w1 w2 : World} {b g bb size : Nat} {nx nx' : Int} {row row' out out' : List Int} {cs cs' : Array Value} {v v' v1 u2 : Value} (h : Both w0 wp b g bb size nx row) (o : Only (Sg b g) wp w1) (hown : OwnI w1 wp.heap.size v1 out) (hr : Rw w1 b g size nx' row') (ho : Off (Sg b g) v)
    (hr2 : RefR w2 bb 0 cs' 54 size nx' v' row') (ht : Turned bb 0 cs cs' v v' w1 w2) : Both w0 w2 b g bb size nx' row' ∧ OwnI w2 wp.heap.size v1 out :=
  ⟨h.fin o hr ho hr2 ht, hown.only ht.only (fun j hj e => by have := h.refr_lt; omega)⟩

set_option maxRecDepth 100000 in
set_option maxHeartbeats 4000000 in
theorem act_get (w0 w : World) (b g bb size : Nat) (nx : Int) (row : List Int) (x : Int) (u : Value) (h : Both w0 w b g bb size nx row) :
    Calls Try.prog 36 #[.pointer (some ⟨b, 0, none⟩), .pointer (some ⟨bb, 0, none⟩), .agg #[.int .i64 2, .int .i64 x, u]] w (ActPost w0 b g bb size 0 (getR nx row)) := by
  obtain ⟨hB, hX⟩ := h.boxd 2 x u
  obtain ⟨hrl, hlo, hhi, hnx, hne⟩ := h.ring.nums
  have HB := Lib.hid hB
  have HX := Lib.hid hX
  clear h hB hX
  go_enter Try.func36, Try.ntmps36
  go_wp2_with fail
  obtain ⟨wp, hwp⟩ : ∃ wp, wp = w.alloc (.cells #[.int .i64 2, .int .i64 x, u] 37) := ⟨_, rfl⟩
  rw [← hwp] at HB HX ⊢
  clear hwp
  refine (get_any b g size nx row _ HB.out.ring).mono ?_
  rintro e w1 ⟨rfl, hR1, hO1⟩
  have HO1 := Lib.hid hO1
  have HR1 := Lib.hid hR1
  obtain ⟨cs, v, hrr, hoff⟩ := HB.out.mid hO1
  have HRR := Lib.hid hrr
  have HOff := Lib.hid hoff
  clear hO1 hR1 hrr hoff
  go_wp2_with fail
  refine (rget_any bb 0 cs 54 size nx v row _ HRR.out hnx (by omega)).mono ?_
  rintro e w2 ⟨rfl, cs', v', hr2, ht2⟩
  have HF := Lib.hid (HB.out.fin HO1.out HR1.out HOff.out hr2 ht2)
  clear hr2 ht2
  have e1 : (getV nx row == getV nx row) = true := by simp
  have e2 : (getB nx row == getB nx row) = true := by simp
  generalize getV nx row = y1 at *
  generalize getB nx row = y2 at *
  go_wp2_with fail
  go_ret
  exact ⟨rfl, HF.out⟩

set_option maxRecDepth 100000 in
set_option maxHeartbeats 4000000 in
theorem act_grab (w0 w : World) (b g bb size : Nat) (nx : Int) (row : List Int) (x : Int) (u : Value) (h : Both w0 w b g bb size nx row) :
    Calls Try.prog 36 #[.pointer (some ⟨b, 0, none⟩), .pointer (some ⟨bb, 0, none⟩), .agg #[.int .i64 3, .int .i64 x, u]] w (ActPost w0 b g bb size (grabN nx row) (grabR row)) := by
  obtain ⟨hB, hX⟩ := h.boxd 3 x u
  obtain ⟨hrl, hlo, hhi, hnx, hne⟩ := h.ring.nums
  have HB := Lib.hid hB
  have HX := Lib.hid hX
  clear h hB hX
  go_enter Try.func36, Try.ntmps36
  go_wp2_with fail
  obtain ⟨wp, hwp⟩ : ∃ wp, wp = w.alloc (.cells #[.int .i64 3, .int .i64 x, u] 37) := ⟨_, rfl⟩
  rw [← hwp] at HB HX ⊢
  clear hwp
  refine (grab_any b g size nx row _ HB.out.ring).mono ?_
  rintro e w1 ⟨v1, rfl, hown1, hR1, hO1⟩
  have HO1 := Lib.hid hO1
  have HR1 := Lib.hid hR1
  have HOwn1 := Lib.hid hown1
  obtain ⟨cs, v, hrr, hoff⟩ := HB.out.mid hO1
  have HRR := Lib.hid hrr
  have HOff := Lib.hid hoff
  clear hO1 hR1 hrr hoff hown1
  go_wp2_with fail
  refine (rgrab_any bb 0 cs 54 size nx v row _ HRR.out hnx (by omega)).mono ?_
  rintro e w2 ⟨u2, cs', v', rfl, hs2, hr2, ht2⟩
  have HF := Lib.hid (HB.out.fin HO1.out HR1.out HOff.out hr2 ht2)
  have HS2 := Lib.hid hs2
  have HOwn2 := Lib.hid (HOwn1.out.only ht2.only (fun j hj e => by have := HB.out.refr_lt; omega))
  clear hr2 ht2 hs2
  go_wp2_with fail
  refine (Ref.same_yes _ _ _ _ (Sl.ofOwn HOwn2.out) HS2.out.sl).mono ?_
  rintro e w3 ⟨rfl, n3, rfl⟩
  go_wp2_with fail
  go_ret
  exact ⟨rfl, HF.out.drewN n3⟩

set_option maxRecDepth 100000 in
set_option maxHeartbeats 4000000 in
theorem act_drain (w0 w : World) (b g bb size : Nat) (nx : Int) (row : List Int) (kind x : Int) (u : Value) (h : Both w0 w b g bb size nx row) (hk : kind < 0 ∨ 4 < kind) :
    Calls Try.prog 36 #[.pointer (some ⟨b, 0, none⟩), .pointer (some ⟨bb, 0, none⟩), .agg #[.int .i64 kind, .int .i64 x, u]] w (ActPost w0 b g bb size 0 []) := by
  obtain ⟨hB, hX⟩ := h.boxd kind x u
  obtain ⟨hrl, hlo, hhi, hnx, hne⟩ := h.ring.nums
  have HB := Lib.hid hB
  have HX := Lib.hid hX
  have k0 : (kind == 0) = false := by rw [beq_eq_false_iff_ne]; omega
  have k1 : (kind == 1) = false := by rw [beq_eq_false_iff_ne]; omega
  have k2 : (kind == 2) = false := by rw [beq_eq_false_iff_ne]; omega
  have k3 : (kind == 3) = false := by rw [beq_eq_false_iff_ne]; omega
  have k4 : (kind == 4) = false := by rw [beq_eq_false_iff_ne]; omega
  clear h hB hX hk
  go_enter Try.func36, Try.ntmps36
  go_wp2_with fail
  obtain ⟨wp, hwp⟩ : ∃ wp, wp = w.alloc (.cells #[.int .i64 kind, .int .i64 x, u] 37) := ⟨_, rfl⟩
  rw [← hwp] at HB HX ⊢
  clear hwp
  refine (drain_any b g size nx row _ HB.out.ring).mono ?_
  rintro e w1 ⟨v1, rfl, hown1, hR1, hO1⟩
  have HO1 := Lib.hid hO1
  have HR1 := Lib.hid hR1
  have HOwn1 := Lib.hid hown1
  obtain ⟨cs, v, hrr, hoff⟩ := HB.out.mid hO1
  have HRR := Lib.hid hrr
  have HOff := Lib.hid hoff
  clear hO1 hR1 hrr hoff hown1
  go_wp2_with fail
  refine (rlist_any bb 0 cs 54 size nx v row _ HRR.out hnx (by omega)).mono ?_
  rintro e w2 ⟨u2, rfl, hs2, hb2⟩
  have hr2 := HRR.out.below hb2
  have c1 := hr2.cell1
  have c2 := hr2.cell2
  have f1 := hr2.blk.free (0 + 1)
  have f2 := hr2.blk.free (0 + 2)
  have hbl := hr2.blk.lt
  have ht : Turned bb 0 cs (((cs.setIfInBounds (0 + 2) (.slice none 0 0)).setIfInBounds (0 + 1) (.int .i64 0))) v (.slice none 0 0) w1 ((w2.setCell ⟨bb, 0 + 2, none⟩ (.slice none 0 0)).setCell ⟨bb, 0 + 1, none⟩ (.int .i64 0)) :=
    (((Turned.refl bb 0 cs v w1).below hb2).row (v' := .slice none 0 0) (fun j hj => by simp [Value.ownBlock] at hj)).nx _
  have hr3 := (hr2.setRow (v' := .slice none 0 0) (row' := []) (Slw.nil _) (fun h => absurd rfl h)).setNx 0
  have HF := Lib.hid (HB.out.fin HO1.out HR1.out HOff.out hr3 ht)
  have hbb := HB.out.refr_lt
  have hos := HO1.out.size
  have HOwn2 := Lib.hid (HOwn1.out.only ht.only (fun j hj e => by omega))
  have HS2 : Hid (OwnI ((w2.setCell ⟨bb, 0 + 2, none⟩ (.slice none 0 0)).setCell ⟨bb, 0 + 1, none⟩ (.int .i64 0)) w1.heap.size u2 (allL nx row)) := hs2.only (((Only.refl (fun j => j = bb) w2).set (.inr rfl) _ _).set (.inr rfl) _ _) (fun j hj e => by omega)
  simp only [Nat.zero_add] at c1 c2 f1 f2 HF HOwn2 HS2
  clear hr2 ht hr3 hs2 hb2
  go_wp2_with fail
  refine (Ref.same_yes _ _ _ _ (Sl.ofOwn HOwn2.out) (Sl.ofOwn HS2.out)).mono ?_
  rintro e w3 ⟨rfl, n3, rfl⟩
  go_wp2_with fail
  go_ret
  exact ⟨rfl, HF.out.drewN n3⟩

set_option maxRecDepth 100000 in
set_option maxHeartbeats 4000000 in
theorem act_fill (w0 w : World) (b g bb size : Nat) (nx : Int) (row : List Int) (x : Int) (u : Value) (l : List Int) (h : Both w0 w b g bb size nx row) (hu : Slw w0 u l) (hl : l.length ≤ 30) :
    Calls Try.prog 36 #[.pointer (some ⟨b, 0, none⟩), .pointer (some ⟨bb, 0, none⟩), .agg #[.int .i64 4, .int .i64 x, u]] w (ActPost w0 b g bb size nx (fillR size row l)) := by
  obtain ⟨hB, hX⟩ := h.boxd 4 x u
  obtain ⟨hrl, hlo, hhi, hnx, hne⟩ := h.ring.nums
  have HB := Lib.hid hB
  have HX := Lib.hid hX
  have HU := Lib.hid (hu.below hB.bel)
  have HUo : Hid (l ≠ [] → Off (Sg b g) u) := fun hn j hj hs => by
    have h1 := hu.lt hn j hj
    have h2 := hB.lb
    have h3 := hB.lg
    rcases hs with rfl | rfl <;> omega
  have HUb : Hid (l ≠ [] → u.ownBlock ≠ some bb) := fun hn e => by
    have h1 := hu.lt hn bb e
    have h2 := hB.lbb
    omega
  obtain ⟨a, cap, rfl⟩ := hu.len
  clear h hB hX hu
  go_enter Try.func36, Try.ntmps36
  go_wp2_with fail
  obtain ⟨wp, hwp⟩ : ∃ wp, wp = w.alloc (.cells #[.int .i64 4, .int .i64 x, .slice a l.length cap] 37) := ⟨_, rfl⟩
  rw [← hwp] at HB HX HU ⊢
  have c2 := HX.out.c2
  clear hwp
  go_region_held3 (fun w' => w'.cell? ⟨w.heap.size, 2, none⟩ = some (.slice a l.length cap)) (go_keep) (first | (go_at_call 41; refine (fill_any b g size nx row (.slice a l.length cap) l _ (HB.out.ring.drewN 1) HU.out.drew HUo.out (by omega)).mono ?_; rintro e w1 ⟨v1, rfl, hown1, hR1, hO1⟩; have HO1 : Hid (Only (Sg b g) wp w1) := ⟨hO1.os, hO1.tape, hO1.output, hO1.size, hO1.block⟩; have HOwn1 : Hid (OwnI w1 wp.heap.size v1 (fillO size row l)) := hown1; have HR1 := Lib.hid hR1; have HU1 := Lib.hid (HU.out.only' HO1.out HUo.out); obtain ⟨cs, v, hrr, hoff⟩ := HB.out.mid HO1.out; have HRR := Lib.hid hrr; have HOff := Lib.hid hoff; have hX1 := HX.out.only HO1.out; have k2 := hX1.c2; have HX1 := Lib.hid hX1; clear hO1 hown1 hR1 hrr hoff hX1) | (go_at_call 70; refine (rfill_any bb 0 cs 54 size nx v row (.slice a l.length cap) l _ HRR.out HU1.out HUb.out (by omega) (by omega) (by omega)).mono ?_; rintro e w2 ⟨u2, cs', v', rfl, hs2, hr2, ht2⟩; have HF := Lib.hid (HB.out.fin HO1.out HR1.out HOff.out hr2 ht2); have HS2 := Lib.hid hs2; have HOwn2 := Lib.hid (HOwn1.out.only ht2.only (fun j hj e => by have := HB.out.refr_lt; omega)); have hX2 := HX1.out.turned ht2.only; have l2 := hX2.c2; clear hs2 hr2 ht2 hX2) | (go_at_call 20; refine (Ref.same_yes _ _ _ _ (Sl.ofOwn HOwn2.out) HS2.out.sl).mono ?_; rintro e w3 ⟨rfl, n3, rfl⟩))
  go_wp2
  go_ret
  exact ⟨rfl, HF.out.drewN n3⟩

end Go.Proofs.Ytgahkcbkpnehfaa.Ring
