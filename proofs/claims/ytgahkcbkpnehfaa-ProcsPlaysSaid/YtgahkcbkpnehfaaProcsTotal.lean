/- Chapter 23: the contract of Total. -/
import Derived.Test.YtgahkcbkpnehfaaProcs
import Derived.WalkMore
namespace Go.Proofs.Ytgahkcbkpnehfaa.Procs
open Go.RowKit Go.Esc
open Go.Proofs.Ytgahkcbkpnehfaa.Ring (Rw Sg allL)
set_option linter.unusedVariables false

def lenR (r : Rn) : Nat := (allL r.nx r.row).length
def tot (R : Nat → Rn) : Nat → Nat
  | 0 => 0
  | n + 1 => tot R n + lenR (R n)
theorem lenR_le {w : World} {p : Nat} {rv : Value} {n : Nat} {R : Nat → Rn} (h : Prc w p rv n R) (i : Nat) (hi : i < n) : lenR (R i) ≤ 257 := by
  have := (h.ring i hi).nums.1
  unfold lenR allL
  rw [List.length_append]
  split <;> simp <;> omega
theorem tot_le {w : World} {p : Nat} {rv : Value} {n : Nat} {R : Nat → Rn} (h : Prc w p rv n R) (k : Nat) (hk : k ≤ n) : tot R k ≤ 257 * k := by
  induction k with
  | zero => simp [tot]
  | succ k ih =>
    have := lenR_le h k (by omega)
    have := ih (by omega)
    simp [tot]; omega

set_option maxHeartbeats 2000000 in
theorem total_any (p : Nat) (rv : Value) (n : Nat) (R : Nat → Rn) (w : World) (h : Prc w p rv n R) (hn : n ≤ 256) : Calls Try.prog 49 #[.pointer (some ⟨p, 0, none⟩)] w fun e w' => e = .returned (.int .i64 (tot R n)) ∧ ∃ m, w' = w.drewN m := by
  obtain ⟨a, cap, rfl⟩ := h.slice
  have c0 := h.blk.cell 0
  simp only [List.getElem?_toArray, List.getElem?_cons_zero] at c0
  have HH := Lib.hid h
  clear h
  go_enter Try.func49, Try.ntmps49
  go_wp2
  go_loopw [2, 12] (fun t i wr => ∃ k m : Nat, k ≤ n ∧ i = .int .i64 k ∧ t = .int .i64 (tot R k) ∧ wr = w.drewN m) (fun _ i _ => n - (intOf i).toNat)
  case atStart => exact ⟨0, 0, Nat.zero_le _, rfl, rfl, rfl⟩
  case round =>
    obtain ⟨k, m, hk, rfl, rfl, rfl⟩ := hrel
    by_cases hlt : k < n
    · rcases HH.out.own.open with ⟨_, h0⟩ | ⟨g, cap, he, _, hg, hc, hcells⟩
      · omega
      have cx : (w.drewN m).cell? ⟨g, k, none⟩ = some (.pointer (some ⟨(R k).b, 0, none⟩)) := by rw [← ptrs_at n R k hlt]; exact hcells k (by omega)
      cases he
      have t1 := tot_le HH.out k hk
      have t2 := lenR_le HH.out k hlt
      have HR := Lib.hid (Ring.len_w _ _ _ _ _ _ ((HH.out.ring k hlt).drewN m))
      have e1 : IntKind.i64.wrap ((tot R k : Int) + (allL (R k).nx (R k).row).length) = ((tot R (k + 1) : Nat) : Int) := by
        have : tot R (k + 1) = tot R k + (allL (R k).nx (R k).row).length := rfl
        rw [this]
        have t3 : (allL (R k).nx (R k).row).length ≤ 257 := t2
        rw [IntWalk.i64_in _ (by omega)]
        omega
      clear hcells t1 t2
      obtain ⟨t', HT⟩ : ∃ t', Hid (tot R (k + 1) = t') := ⟨_, rfl⟩
      rw [HT.out] at e1
      generalize tot R k = t0 at *
      generalize (allL (R k).nx (R k).row).length = t1 at *
      go_wp2_with fail
      refine HR.out.mono ?_
      rintro e w1 ⟨rfl, m1, rfl⟩
      go_wp2_with fail
      go_roundw
      case rel => exact ⟨k + 1, m + m1, by omega, by go_num, by rw [HT.out], rfl⟩
      case measure => simp [intOf]; omega
    · obtain rfl : k = n := by omega
      go_wp2
      go_ret
      exact ⟨rfl, _, rfl⟩
end Go.Proofs.Ytgahkcbkpnehfaa.Procs
