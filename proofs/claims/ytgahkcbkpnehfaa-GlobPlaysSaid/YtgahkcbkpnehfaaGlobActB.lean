/- Chapter 16: an act on the queue and on the list beside it: Get, Batch. -/
import Derived.Test.YtgahkcbkpnehfaaGlobAct
namespace Go.Proofs.Ytgahkcbkpnehfaa.Glob
open Go.RowKit Go.Esc
set_option linter.unusedVariables false

theorem get_nil (b : Nat) (S : Nat → Prop) (w : World) (h : Queue w b S []) : Calls Try.prog 33 #[.pointer (some ⟨b, 0, none⟩)] w (fun e w' => e = .returned (.tuple #[.int .i64 0, .bool false]) ∧ ∃ S', Queue w' b S' [] ∧ Only S w w' ∧ Gr S S' w) := get_any b S [] w h (by simp)
theorem get_cons (b : Nat) (S : Nat → Prop) (x : Int) (r : List Int) (w : World) (h : Queue w b S (x :: r)) (hl : (x :: r).length < 10000000) : Calls Try.prog 33 #[.pointer (some ⟨b, 0, none⟩)] w (fun e w' => e = .returned (.tuple #[.int .i64 x, .bool true]) ∧ ∃ S', Queue w' b S' r ∧ Only S w w' ∧ Gr S S' w) := get_any b S (x :: r) w h hl

/-- The list is cut short in front. -/
theorem St.cut {w0 w w3 : World} {b : Nat} {lv v : Value} {L M : List Int} {S S3 : Nat → Prop} (h : St w0 w b lv L S) (hv : Slw w v M) (ho : M ≠ [] → Off S v) (hQ : Queue w3 b S3 M) (hO : Only S w w3) (hG : Gr S S3 w) : St w0 w3 b v M S3 := by
  refine ⟨hQ, ?_, fun hne => Off.gr (ho hne) hG (hv.lt hne), fun j hj => (hG j hj).elim (h.new j) (fun x => by have := h.bel.size; omega), below_only h.bel hO h.new⟩
  by_cases hne : M = []
  · subst hne; exact slw_empty hv
  · exact hv.only hO (ho hne)
theorem St.drewN {w0 w : World} {b : Nat} {lv : Value} {L : List Int} {S : Nat → Prop} (h : St w0 w b lv L S) (n : Nat) : St w0 (w.drewN n) b lv L S := ⟨h.queue.drewN n, h.lst.drewN n, h.off, h.new, below_drewN h.bel n⟩

set_option maxRecDepth 100000 in
set_option maxHeartbeats 4000000 in
theorem act_get (w0 w : World) (b : Nat) (lv : Value) (L : List Int) (S : Nat → Prop) (A B : Int) (u : Value) (h : St w0 w b lv L S) (hl : L.length < 10000) :
    Calls Try.prog 31 #[.pointer (some ⟨b, 0, none⟩), lv, .agg #[.int .i64 2, .int .i64 A, .int .i64 B, u]] w (ActP w0 b L.tail) := by
  have h' := h.below (below_alloc (Below.refl _ w) (.cells #[.int .i64 2, .int .i64 A, .int .i64 B, u] 48))
  clear h
  cases L with
  | nil =>
    obtain ⟨a, cap, rfl⟩ := h'.lst.len
    have HH := Lib.hid h'
    clear h'
    simp only [List.length_nil] at *
    go_enter Try.func31, Try.ntmps31
    go_wp2_with fail
    obtain ⟨wp, hwp⟩ : ∃ wp, wp = w.alloc (.cells #[.int .i64 2, .int .i64 A, .int .i64 B, u] 48) := ⟨_, rfl⟩
    rw [← hwp] at HH ⊢
    clear hwp
    refine (get_nil b S wp HH.out.queue).mono ?_
    rintro e w1 ⟨rfl, S1, hQ1, hO1, hG1⟩
    have HF := Lib.hid (HH.out.cut HH.out.lst HH.out.off hQ1 hO1 hG1)
    clear hQ1 hO1 hG1
    go_wp2_with fail
    go_ret2
    exact ⟨_, S1, rfl, HF.out⟩
  | cons x r =>
    rcases h'.lst.open with ⟨_, h0⟩ | ⟨_, _, _, h0⟩ | ⟨bu, o, cap, rfl, hne, hcap, hbu, hcells⟩
    · cases h0
    · cases h0
    have cx := hcells 0 (by simp)
    simp only [Nat.add_zero, List.getElem?_cons_zero, Option.getD_some] at cx
    have HO := Lib.hid (h'.off hne)
    have HSl := Lib.hid h'.lst
    have HH := Lib.hid h'
    clear h' hne hcells
    have hll : (x :: r).length = r.length + 1 := by simp
    have HL := Lib.hid hl
    rw [hll] at hcap hl HH HO
    have q1 : (1 : Int) ≤ (r.length : Int) + 1 := by omega
    have q2 : (r.length : Int) + 1 ≤ (cap : Int) := by omega
    have q3 : (1 : Int) ≤ (cap : Int) := by omega
    have q5 : (0 : Int) < (r.length : Int) + 1 := by omega
    have q6 : ((r.length : Int) + 1 == 0) = false := by rw [beq_eq_false_iff_ne]; omega
    have hxx : (x == x) = true := by simp
    clear hll
    by_cases hc1 : cap = 1
    · have hr0 : r = [] := by
        have : r.length = 0 := by omega
        exact List.length_eq_zero_iff.1 this
      subst hc1 hr0
      simp only [List.length_nil, Nat.zero_add] at *
      go_enter Try.func31, Try.ntmps31
      go_wp2_with fail
      obtain ⟨wp, hwp⟩ : ∃ wp, wp = w.alloc (.cells #[.int .i64 2, .int .i64 A, .int .i64 B, u] 48) := ⟨_, rfl⟩
      rw [← hwp] at HH HSl cx ⊢
      clear hwp
      refine (get_cons b S x [] wp HH.out.queue (by simp)).mono ?_
      rintro e w1 ⟨rfl, S1, hQ1, hO1, hG1⟩
      have cx1 : w1.cell? ⟨bu, o, none⟩ = some (.int .i64 x) := (World.cell?_of_block (hO1.block bu (lt_of_cell cx) (HO.out bu rfl))).trans cx
      have HF := Lib.hid (HH.out.cut (v := .slice (some ⟨bu, o, none⟩) 0 0) (M := []) (Slw.none0 _ _ _) (fun h => absurd rfl h) hQ1 hO1 hG1)
      clear hQ1 hO1 hG1
      go_wp2_with fail
      go_quiet (fail)
      go_wp2_with fail
      go_ret2
      exact ⟨_, S1, rfl, HF.out.drewN _⟩
    · have hsl2 : Hid (Slw (w.alloc (.cells #[.int .i64 2, .int .i64 A, .int .i64 B, u] 48)) (.slice (some ⟨bu, o + 1, none⟩) r.length (cap - 1)) r) := HSl.out.drop 1 (by simp) (by simp) (by omega)
      go_enter Try.func31, Try.ntmps31
      go_wp2_with fail
      obtain ⟨wp, hwp⟩ : ∃ wp, wp = w.alloc (.cells #[.int .i64 2, .int .i64 A, .int .i64 B, u] 48) := ⟨_, rfl⟩
      rw [← hwp] at HH HSl cx hsl2 ⊢
      clear hwp
      refine (get_cons b S x r wp HH.out.queue (by have := HL.out; omega)).mono ?_
      rintro e w1 ⟨rfl, S1, hQ1, hO1, hG1⟩
      have cx1 : w1.cell? ⟨bu, o, none⟩ = some (.int .i64 x) := (World.cell?_of_block (hO1.block bu (lt_of_cell cx) (HO.out bu rfl))).trans cx
      have HF := Lib.hid (HH.out.cut hsl2.out (fun _ => HO.out) hQ1 hO1 hG1)
      clear hQ1 hO1 hG1
      go_wp2_with fail
      go_quiet (fail)
      go_wp2_with fail
      go_ret2
      exact ⟨_, S1, rfl, HF.out.drewN _⟩
end Go.Proofs.Ytgahkcbkpnehfaa.Glob
