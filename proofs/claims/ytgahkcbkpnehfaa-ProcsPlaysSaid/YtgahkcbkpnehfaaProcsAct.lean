/- Chapter 23: an act on both. -/
import Derived.Test.YtgahkcbkpnehfaaProcsBoth
import Derived.Deep.RegionHeld3
import Derived.Deep.DrawnRows
import Derived.BigQuiet
namespace Go.Proofs.Ytgahkcbkpnehfaa.Procs
open Go.RowKit Go.Esc
open Go.Proofs.Ytgahkcbkpnehfaa.Ring (Rw Sg allL RefR Turned getR getV getB grabR grabN grabO putN putR putO put_any get_any grab_any rput_any rget_any rgrab_any)
open Go.Proofs.Ytgahkcbkpnehfaa.Glob (Gr Queue)
set_option linter.unusedVariables false
attribute [local go_sem ↓] Go.wp_at_zero Go.wp_at_succ

/-- The act, boxed. -/
structure Bx (w w' : World) (kind pp x : Int) : Prop where
  blk : Blk w' w.heap.size #[.int .i64 kind, .int .i64 pp, .int .i64 x] 60
theorem Bx.new (w : World) (kind pp x : Int) : Bx w (w.alloc (.cells #[.int .i64 kind, .int .i64 pp, .int .i64 x] 60)) kind pp x := ⟨Blk.new w _ 60⟩
theorem Bx.only {T : Nat → Prop} {w w' w'' : World} {kind pp x : Int} (h : Bx w w' kind pp x) (o : Only T w' w'') (ht : ¬ T w.heap.size) : Bx w w'' kind pp x := ⟨h.blk.only o ht⟩
theorem Bx.c0 {w w' : World} {kind pp x : Int} (h : Bx w w' kind pp x) : w'.cell? ⟨w.heap.size, 0, none⟩ = some (.int .i64 kind) := h.blk.cell 0
theorem Bx.c1 {w w' : World} {kind pp x : Int} (h : Bx w w' kind pp x) : w'.cell? ⟨w.heap.size, 1, none⟩ = some (.int .i64 pp) := h.blk.cell 1
theorem Bx.c2 {w w' : World} {kind pp x : Int} (h : Bx w w' kind pp x) : w'.cell? ⟨w.heap.size, 2, none⟩ = some (.int .i64 x) := h.blk.cell 2

def ActP (w0 : World) (p q d : Nat) (n' : Nat) (R' : Nat → Rn) (L' : List Int) (e : Ending) (w' : World) : Prop := e = .returned (.bool true) ∧ Bth w0 w' p q d n' R' L'

theorem swap {f : FuncId} {args : Array Value} {w : World} {v : Value} (h : Calls Try.prog f args w fun e w' => e = .returned v ∧ w = w') : Calls Try.prog f args w fun e w' => e = .returned v ∧ w' = w := h.mono (by rintro e w' ⟨rfl, rfl⟩; exact ⟨rfl, rfl⟩)
theorem dresize_bad (n : Int) (d : Nat) (w : World) (h : ¬ (1 ≤ n ∧ n ≤ 256)) : Calls Try.prog 80 #[.pointer (some ⟨d, 0, none⟩), .int .i64 n] w fun e w' => e = .returned (.int .i64 2) ∧ w = w' := by
  by_cases h1 : n < 1
  · go_enter Try.func80, Try.ntmps80
    go_wp2
    go_ret
    exact ⟨rfl, rfl⟩
  · have d1 : decide (n < 1) = false := by simpa using h1
    have h2 : 256 < n := by omega
    clear h
    go_enter Try.func80, Try.ntmps80
    go_wp2
    go_ret
    exact ⟨rfl, rfl⟩

set_option maxRecDepth 100000 in
set_option maxHeartbeats 4000000 in
theorem act_res_bad (w0 w : World) (p q d n : Nat) (R : Nat → Rn) (L : List Int) (pp x : Int) (h : Bth w0 w p q d n R L) (hb : ¬ (1 ≤ pp ∧ pp ≤ 256)) :
    Calls Try.prog 53 #[.pointer (some ⟨p, 0, none⟩), .pointer (some ⟨q, 0, none⟩), .pointer (some ⟨d, 0, none⟩), .agg #[.int .i64 4, .int .i64 pp, .int .i64 x]] w (ActP w0 p q d n R L) := by
  have HR := Lib.hid (fun w => swap (resize_bad pp p q w hb))
  have HD := Lib.hid (fun w => swap (dresize_bad pp d w hb))
  have HE := Lib.hid (h.below (below_alloc (Below.refl _ _) (.cells #[.int .i64 4, .int .i64 pp, .int .i64 x] 60)))
  clear h hb
  go_enter Try.func53, Try.ntmps53
  go_wp2_with fail
  go_quiet (first | (go_at_call 46; exact Calls.quiet_of_same (HR.out _)) | (go_at_call 80; exact Calls.quiet_of_same (HD.out _)))
  go_wp2
  go_ret
  exact ⟨rfl, HE.out.below (below_drewN (Below.refl _ _) _)⟩

set_option maxRecDepth 100000 in
set_option maxHeartbeats 4000000 in
theorem act_res (w0 w : World) (p q d n m : Nat) (R : Nat → Rn) (L : List Int) (x : Int) (h : Bth w0 w p q d n R L) (hn1 : 1 ≤ n) (hn : n ≤ 20) (hm1 : 1 ≤ m) (hm : m ≤ 20) (hl : L.length < 900000) :
    Calls Try.prog 53 #[.pointer (some ⟨p, 0, none⟩), .pointer (some ⟨q, 0, none⟩), .pointer (some ⟨d, 0, none⟩), .agg #[.int .i64 4, .int .i64 m, .int .i64 x]] w fun e w' => ∃ R' L', L'.length ≤ L.length + 5140 ∧ ActP w0 p q d m R' L' e w' := by
  obtain ⟨rv, S, g, cap, cs, vs, gv, hb⟩ := h
  have HX := Lib.hid (Bx.new w 4 m x)
  have HB := Lib.hid (hb.below (below_alloc (Below.refl _ _) (.cells #[.int .i64 4, .int .i64 m, .int .i64 x] 60)))
  have HNb := Lib.hid hb.box
  have HLen : Hid ((dr R m L (n - m)).length ≤ L.length + 5140) := by
    show _ ≤ _
    by_cases e : m ≤ n
    · have := dr_len hb.pq.prc m L (n - m) (by omega); omega
    · rw [show n - m = 0 by omega]; simp [dr]
  clear hb
  go_enter Try.func53, Try.ntmps53
  go_wp2_with fail
  obtain ⟨wp, hwp⟩ : ∃ wp, wp = w.alloc (.cells #[.int .i64 4, .int .i64 m, .int .i64 x] 60) := ⟨_, rfl⟩
  rw [← hwp] at HB HX ⊢
  have c1 := HX.out.c1
  have HRs := Lib.hid (resize_any p rv n m R q S L wp.drew (HB.out.pq.drewN 1) hn1 (by omega) hm1 (by omega) (by omega))
  clear hwp
  go_region_held3 (fun w' => w'.cell? ⟨w.heap.size, 1, none⟩ = some (.int .i64 m)) (go_keep) (first | (go_at_call 46; refine HRs.out.mono ?_; rintro e w1 ⟨rfl, rv1, R1, S1, hPQ1, hO1, hG1, hold, hnew⟩; have HO1 : Hid (Only (Pb p rv n R S) wp w1) := ⟨hO1.os, hO1.tape, hO1.output, hO1.size, hO1.block⟩; have HG1 : Hid (Gr (Pb p rv n R S) (Pb p rv1 m R1 S1) wp) := hG1; have HPQ1 := Lib.hid hPQ1; have Hold := Lib.hid hold; have Hnew := Lib.hid hnew; have k1 := (HX.out.only HO1.out HNb.out.1).c1; have HDr := Lib.hid (dresize_any d g n cap m cs vs gv R L w1 (HB.out.dmid HO1.out) (by omega) hm1 (by omega) (by omega)); have HX1 := Lib.hid (HX.out.only HO1.out HNb.out.1); clear hPQ1 hO1 hG1 hold hnew) | (go_at_call 80; refine HDr.out.mono ?_; rintro e w2 ⟨rfl, g2, cap2, cs2, vs2, gv2, hD2, hO2, hG2⟩; have HF := Lib.hid (HB.out.resized HPQ1.out HO1.out HG1.out Hold.out Hnew.out hD2 hO2 hG2); have l1 := (HX1.out.only hO2 (fun e => HNb.out.2 (.inl e))).c1; clear hD2 hO2 hG2))
  go_wp2
  go_ret
  exact ⟨R1, _, HLen.out, rfl, _, _, _, _, _, _, _, HF.out⟩

set_option maxRecDepth 100000 in
set_option maxHeartbeats 4000000 in
theorem act_out (w0 w : World) (p q d n : Nat) (R : Nat → Rn) (L : List Int) (kind pp x : Int) (h : Bth w0 w p q d n R L) (hk : kind ≠ 4) (hp : ¬ (0 ≤ pp ∧ pp < n)) :
    Calls Try.prog 53 #[.pointer (some ⟨p, 0, none⟩), .pointer (some ⟨q, 0, none⟩), .pointer (some ⟨d, 0, none⟩), .agg #[.int .i64 kind, .int .i64 pp, .int .i64 x]] w (ActP w0 p q d n R L) := by
  obtain ⟨rv, S, g, cap, cs, vs, gv, hb⟩ := h
  have HX := Lib.hid (Bx.new w kind pp x)
  have HB := Lib.hid (hb.below (below_alloc (Below.refl _ _) (.cells #[.int .i64 kind, .int .i64 pp, .int .i64 x] 60)))
  have HNb := Lib.hid hb.box
  have hk4 : (kind == 4) = false := by rw [beq_eq_false_iff_ne]; exact hk
  clear hb
  have HRi := Lib.hid (fun k => ring_any p rv n R pp (World.drewN _ k) (HB.out.pq.prc.drewN k))
  unfold ringP at HRi
  rw [if_neg hp] at HRi
  have e0 := HB.out.dp.blk.cell 0
  have hdl := HB.out.dp.blk.lt
  simp only [List.getElem?_toArray, List.getElem?_cons_zero] at e0
  by_cases h0 : pp < 0
  · have hd0 : decide (pp < 0) = true := by simpa using h0
    go_enter Try.func53, Try.ntmps53
    go_wp2_with fail
    go_quiet (fail)
    go_wp2_with fail
    refine (HRi.out _).mono ?_
    rintro e w1 ⟨rfl, rfl⟩
    go_wp2_with fail
    go_ret
    exact ⟨rfl, _, _, _, _, _, _, _, HB.out.below (below_drewN (Below.refl _ _) _)⟩
  · have hd0 : decide (pp < 0) = false := by simpa using h0
    have hd1 : decide ((n : Int) ≤ pp) = true := by simp; omega
    go_enter Try.func53, Try.ntmps53
    go_wp2_with fail
    go_quiet (fail)
    go_wp2_with fail
    refine (HRi.out _).mono ?_
    rintro e w1 ⟨rfl, rfl⟩
    go_wp2_with fail
    go_ret
    exact ⟨rfl, _, _, _, _, _, _, _, HB.out.below (below_drewN (Below.refl _ _) _)⟩
end Go.Proofs.Ytgahkcbkpnehfaa.Procs
