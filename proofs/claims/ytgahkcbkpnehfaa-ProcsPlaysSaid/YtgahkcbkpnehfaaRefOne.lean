/- The contract of the reference's Same. -/
import Derived.Test.YtgahkcbkpnehfaaRows
import Derived.Test.YtgahkcbkpnehfaaSlw
import Derived.Deep.QuietTactic
import Derived.BigQuiet
import Derived.WalkLawsBesides
import Derived.Outline
namespace Go.Proofs.Ytgahkcbkpnehfaa.Ref
open Go.RowKit Go.Esc

set_option maxHeartbeats 1000000 in
theorem same_yes (v u : Value) (l : List Int) (w : World) (hv : Sl w v l) (hu : Sl w u l) :
    Calls Try.prog 20 #[v, u] w fun e w' => e = .returned (.bool true) ∧ ∃ n, w' = w.drewN n := by
  obtain ⟨a, cap, rfl, hm, hv⟩ := hv
  obtain ⟨a', cap', rfl, _, hu⟩ := hu
  unfold maxLen at hm
  have hd : ((l.length : Int) != (l.length : Int)) = false := by simp
  generalize hlen : l.length = len at *
  have HL := Lib.hid hlen
  clear hlen
  go_enter Try.func20, Try.ntmps20
  go_wp2
  go_loopw [5] (fun i wr => ∃ (k n : Nat), k ≤ len ∧ i = .int .i64 k ∧ wr = w.drewN n) (fun i _ => len - (intOf i).toNat)
  case atStart => exact ⟨0, 0, Nat.zero_le _, rfl, rfl⟩
  case round =>
    obtain ⟨k, n, hk, rfl, rfl⟩ := hrel
    by_cases hlt : k < len
    · rcases hv with rfl | ⟨b, off, rfl, hb, hc⟩
      · have := HL.out; simp at this; omega
      rcases hu with rfl | ⟨b', off', rfl, hb', hc'⟩
      · have := HL.out; simp at this; omega
      have c0 := hc k hlt
      have c1 := hc' k hlt
      clear hc hc'
      generalize l[k]?.getD 0 = x at c0 c1
      go_wp2
      go_quiet (fail)
      go_wp2
      go_roundw
      case rel => exact ⟨k + 1, _, by omega, by go_num, rfl⟩
      case measure => simp [intOf]; omega
    · go_wp2
      go_ret
      exact ⟨rfl, n, rfl⟩
end Go.Proofs.Ytgahkcbkpnehfaa.Ref
