/- Chapter 23: the document's Lists, on equal lists. -/
import Derived.Test.YtgahkcbkpnehfaaProcsQueues
import Derived.BigQuiet
namespace Go.Proofs.Ytgahkcbkpnehfaa.Procs
open Go.RowKit Go.Esc
set_option linter.unusedVariables false

set_option maxHeartbeats 2000000 in
theorem lists_yes (b1 b2 : Nat) (v u : Value) (ls : List (List Int)) (w : World) (hv : LL w b1 v ls) (hu : LL w b2 u ls) (hl : ls.length ≤ 100000) :
    Calls Try.prog 47 #[v, u] w fun e w' => e = .returned (.bool true) ∧ ∃ n, w' = w.drewN n := by
  obtain ⟨a, cap, rfl⟩ := hv.len
  obtain ⟨a', cap', rfl⟩ := hu.len
  have HV := Lib.hid hv
  have HU := Lib.hid hu
  obtain ⟨nn, HN⟩ : ∃ nn, Hid (ls.length = nn) := ⟨_, rfl⟩
  rw [HN.out] at HV HU hl ⊢
  have hbne : ((nn : Int) != (nn : Int)) = false := by simp
  clear hv hu
  go_enter Try.func47, Try.ntmps47
  go_wp2
  go_loopw [5] (fun i wr => ∃ k m : Nat, k ≤ nn ∧ i = .int .i64 k ∧ wr = w.drewN m) (fun i _ => nn - (intOf i).toNat)
  case atStart => exact ⟨0, 0, Nat.zero_le _, rfl, rfl⟩
  case round =>
    obtain ⟨k, m, hk, rfl, hw⟩ := hrel
    have HV1 : Hid (LL wr b1 (.slice a nn cap) ls) := by show LL _ _ _ _; rw [hw]; exact HV.out
    have HU1 : Hid (LL wr b2 (.slice a' nn cap') ls) := by show LL _ _ _ _; rw [hw]; exact HU.out
    have HW := Lib.hid hw
    clear hw
    by_cases hlt : k < nn
    · obtain ⟨e1, g, x, rfl, cx, hx⟩ := HV1.out.at k (by rw [HN.out]; exact hlt)
      obtain ⟨e2, g', x', rfl, cx', hx'⟩ := HU1.out.at k (by rw [HN.out]; exact hlt)
      have HS := Lib.hid (fun m' => Ref.same_yes x x' _ (wr.drewN m') (Sl.ofOwn hx) (Sl.ofOwn hx'))
      obtain ⟨ax, nx, cpx, rfl⟩ : ∃ a n c, x = .slice a n c := by obtain ⟨a, c, hv⟩ := Glob.own_len hx; exact ⟨a, _, c, hv⟩
      obtain ⟨ax', nx', cpx', rfl⟩ : ∃ a n c, x' = .slice a n c := by obtain ⟨a, c, hv⟩ := Glob.own_len hx'; exact ⟨a, _, c, hv⟩
      clear hx hx' e1 e2
      go_wp2_with fail
      go_quiet ((go_at_call 20; exact Calls.quiet_of (HS.out _)))
      go_wp2_with fail
      go_roundw
      case rel => exact ⟨k + 1, _, by omega, by go_num, by rw [HW.out]; exact World.drewN_drewN _ _ _⟩
      case measure => simp [intOf]; omega
    · obtain rfl : k = nn := by omega
      go_wp2
      go_ret
      exact ⟨rfl, m, HW.out⟩
end Go.Proofs.Ytgahkcbkpnehfaa.Procs
