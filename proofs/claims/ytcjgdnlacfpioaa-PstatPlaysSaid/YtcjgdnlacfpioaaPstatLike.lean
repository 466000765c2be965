/- Chapter 19: is a table like the document's list? -/
import Derived.Test.YtcjgdnlacfpioaaRefPstat
import Derived.BigQuiet
namespace Go.Proofs.Ytcjgdnlacfpioaa.Pstat
open Go.RowKit Go.Esc
set_option linter.unusedVariables false

theorem swp {f : FuncId} {args : Array Value} {w : World} {v : Value} (h : Calls Try.prog f args w fun e w' => e = .returned v ∧ w = w') : Calls Try.prog f args w fun e w' => e = .returned v ∧ w' = w := h.mono (by rintro e w' ⟨rfl, rfl⟩; exact ⟨rfl, rfl⟩)
theorem get_at {l : List Pr} {k : Nat} (h : k < l.length) : getL l (k : Int) = (l[k]?.getD pz).1 ∧ whoL l (k : Int) = (l[k]?.getD pz).2 := by
  unfold getL whoL
  rw [if_pos ⟨by omega, by omega⟩, if_pos ⟨by omega, by omega⟩, Int.toNat_natCast]
  exact ⟨rfl, rfl⟩

set_option maxRecDepth 100000 in
set_option maxHeartbeats 4000000 in
theorem like_any (t : Nat) (tv : Value) (base : Nat) (v : Value) (l : List Pr) (w : World) (hT : Tb w t tv l) (hR : Rp w base v l) (hl : l.length ≤ 256) (hl0 : 0 < l.length) :
    Calls Try.prog 28 #[.pointer (some ⟨t, 0, none⟩), v] w fun e w' => e = .returned (.bool true) ∧ Below w.heap.size w w' := by
  obtain ⟨g, cap, rfl, _, hg2, hc⟩ := hR.wide hl0
  have HT := Lib.hid hT
  have HR := Lib.hid hR
  obtain ⟨n, HN⟩ : ∃ n, Hid (l.length = n) := ⟨_, rfl⟩
  rw [HN.out] at HR hl hc hl0 ⊢
  clear hT hR
  go_enter Try.func28, Try.ntmps28
  go_wp2
  go_loopw [5] (fun i wr => ∃ k m : Nat, k ≤ n ∧ i = .int .i64 k ∧ wr = w.drewN m) (fun i _ => n - (intOf i).toNat)
  case atStart => exact ⟨0, 0, Nat.zero_le _, rfl, rfl⟩
  case round =>
    obtain ⟨k, m, hk, rfl, hw⟩ := hrel
    have HTr : Hid (Tb wr t tv l) := by rw [hw]; exact HT.out.below (below_drewN (Below.refl _ _) _)
    have HRr : Hid (Rp wr base (.slice (some ⟨g, 0, none⟩) n cap) l) := by rw [hw]; exact HR.out.below (below_drewN (Below.refl _ _) _)
    have HBr : Hid (Below w.heap.size w wr) := by rw [hw]; exact below_drewN (Below.refl _ _) _
    have HW := Lib.hid hw
    clear hw
    by_cases hlt : k < n
    · have hd : decide (k < n) = true := by simpa using hlt
      have hkl : k < l.length := by rw [HN.out]; exact hlt
      obtain ⟨hg1, hw1⟩ := get_at hkl
      obtain ⟨y0, y1⟩ := HRr.out.at k hkl
      have HWho : Hid (∀ q, Calls Try.prog 29 #[.pointer (some ⟨t, 0, none⟩), .int .i64 k] (wr.drewN q) fun e w' => e = .returned (.int .i64 (l[k]?.getD pz).2) ∧ w' = wr.drewN q) := fun q => by
        have := swp (who_any t tv l k (wr.drewN q) (HTr.out.below (below_drewN (Below.refl _ _) q)))
        rw [hw1] at this
        exact this
      have HGet : Hid (∀ q, Calls Try.prog 30 #[.pointer (some ⟨t, 0, none⟩), .int .i64 k] (wr.drewN q) fun e w' => e = .returned (.int .i64 (l[k]?.getD pz).1) ∧ w' = wr.drewN q) := fun q => by
        have := swp (get_any t tv l k (wr.drewN q) (HTr.out.below (below_drewN (Below.refl _ _) q)))
        rw [hg1] at this
        exact this
      have hki : (k : Int) < (n : Int) := by omega
      clear hg1 hw1 hkl
      generalize (l[k]?.getD pz).1 = a1 at *
      generalize (l[k]?.getD pz).2 = a2 at *
      have e1 : (a1 != a1) = false := by simp
      have e2 : (a2 != a2) = false := by simp
      go_wp2_with fail
      go_quiet (first | (go_at_call 29; exact Calls.quiet_of_same (HWho.out _)) | (go_at_call 30; exact Calls.quiet_of_same (HGet.out _)))
      go_wp2_with fail
      go_roundw
      case rel => exact ⟨k + 1, _, by omega, by go_num, by rw [HW.out]; exact World.drewN_drewN _ _ _⟩
      case measure => simp [intOf]; omega
    · have hd : decide (k < n) = false := by simpa using hlt
      obtain rfl : k = n := by omega
      go_wp2_with fail
      obtain ⟨wq, rfl⟩ : ∃ wq, wq = wr := ⟨wr, rfl⟩
      go_loopw [6] (fun i wr => ∃ s : Nat, s ≤ 5 ∧ i = .int .i64 s ∧ Below wq.heap.size wq wr) (fun i _ => 5 - (intOf i).toNat)
      case atStart => exact ⟨0, Nat.zero_le _, rfl, Below.refl _ _⟩
      case round =>
        obtain ⟨s, hs, rfl, hB⟩ := hrel
        have HTs := Lib.hid (HTr.out.below hB)
        have HRs := Lib.hid (HRr.out.below hB)
        have HB := Lib.hid hB
        have hcle : ∀ z, cnt z l ≤ k := fun z => by rw [← HN.out]; exact cnt_le z l
        clear hB
        by_cases hs5 : s < 5
        · have hd5 : decide ((s : Int) < 5) = true := by simp; omega
          have hd5' : decide (s < 5) = true := by simpa using hs5
          have HC1 := Lib.hid (count_any t tv l s wr HTs.out (by rw [HN.out]; omega))
          go_wp2_with fail
          refine HC1.out.mono ?_
          rintro e w1 ⟨rfl, hB1⟩
          have HC2 := Lib.hid (rcount_any base _ l s w1 (HRs.out.below hB1) (by rw [HN.out]; omega) (by rw [HN.out]; omega))
          have HB1 := Lib.hid (below_below HB.out hB1)
          have ec : ((cnt (s : Int) l : Int) != (cnt (s : Int) l : Int)) = false := by simp
          generalize (cnt (s : Int) l : Int) = cc at *
          clear hB1
          go_wp2_with fail
          refine HC2.out.mono ?_
          rintro e w2 ⟨rfl, rfl⟩
          go_wp2_with fail
          go_roundw
          case rel => exact ⟨s + 1, by omega, by go_num, HB1.out⟩
          case measure => simp [intOf]; omega
        · have hd5 : decide ((s : Int) < 5) = false := by simp; omega
          have hd5' : decide (s < 5) = false := by simpa using hs5
          have HG : Hid (Calls Try.prog 30 #[.pointer (some ⟨t, 0, none⟩), .int .i64 k] wr fun e w' => e = .returned (.int .i64 4) ∧ wr = w') := by
            have := get_any t tv l k wr HTs.out
            rw [show getL l (k : Int) = 4 from by unfold getL; rw [if_neg (by rw [HN.out]; omega)]] at this
            exact this
          have HWh : Hid (Calls Try.prog 29 #[.pointer (some ⟨t, 0, none⟩), .int .i64 (-1)] wr fun e w' => e = .returned (.int .i64 (-1)) ∧ wr = w') := by
            have := who_any t tv l (-1) wr HTs.out
            rw [show whoL l (-1) = -1 from by unfold whoL; rw [if_neg (by omega)]] at this
            exact this
          have HLn := Lib.hid (len_any t tv l wr HTs.out (by rw [HN.out]; omega))
          go_wp2_with fail
          refine HG.out.mono ?_
          rintro e w1 ⟨rfl, rfl⟩
          go_wp2_with fail
          refine HWh.out.mono ?_
          rintro e w1 ⟨rfl, rfl⟩
          go_wp2_with fail
          refine HLn.out.mono ?_
          rintro e w1 ⟨rfl, hB1⟩
          have HC2 : Hid (Calls Try.prog 49 #[.slice (some ⟨g, 0, none⟩) k cap, .int .i64 4] w1 fun e w' => e = .returned (.int .i64 (cnt 4 l : Nat)) ∧ w1 = w') := rcount_any base _ l 4 w1 (HRs.out.below hB1) (by rw [HN.out]; omega) (by rw [HN.out]; omega)
          have HB1 := Lib.hid (below_below (below_below HBr.out HB.out) hB1)
          have hc4 := hcle 4
          have HE : Hid (lenT l = (k : Int) - (cnt 4 l : Nat)) := by show _ = _; unfold lenT; rw [HN.out]
          rw [HE.out]
          generalize cnt 4 l = c4 at *
          have e1 : IntKind.i64.wrap ((k : Int) - c4) = (k : Int) - c4 := IntWalk.i64_in _ (by omega)
          have e2 : (((k : Int) - c4) == ((k : Int) - c4)) = true := by simp
          clear hB1
          go_wp2_with fail
          refine HC2.out.mono ?_
          rintro e w2 ⟨rfl, rfl⟩
          go_wp2_with fail
          go_ret
          exact ⟨rfl, HB1.out⟩
end Go.Proofs.Ytcjgdnlacfpioaa.Pstat
