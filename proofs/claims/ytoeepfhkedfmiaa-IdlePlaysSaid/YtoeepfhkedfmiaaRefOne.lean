/- The contracts of the references of layer 1 (Same, Mod, Has). -/
import Derived.Test.YtoeepfhkedfmiaaRows
import Derived.Test.YtoeepfhkedfmiaaSlc
import Derived.Test.YtoeepfhkedfmiaaNumPlain
import Derived.Deep.QuietTactic
import Derived.BigQuiet
import Derived.WalkLawsBesides
import Derived.Outline
namespace Go.Proofs.Ytoeepfhkedfmiaa.Ref
open Go.RowKit Go.Esc

theorem refmod_any (i n : Int) (w : World) (hn : n ≤ 9223372036854775807) :
    Calls Try.prog 17 #[.int .i64 i, .int .i64 n] w fun e w' => e = .returned (.int .i64 (modZ i n)) ∧ w = w' := by
  by_cases h : n < 1
  · go_enter Try.func17, Try.ntmps17
    go_wp2
    go_ret
    exact ⟨by simp [modZ, h], rfl⟩
  · have h1 : 1 ≤ n := by omega
    clear h
    have hz : (n == 0) = false := by simp; omega
    have h2 := Int.lt_tmod_of_pos i (show (0 : Int) < n by omega)
    have h3 := Int.tmod_lt_of_pos i (show (0 : Int) < n by omega)
    by_cases h4 : i.tmod n < 0
    · go_enter Try.func17, Try.ntmps17
      go_wp2
      go_ret
      exact ⟨ret_int (by rw [modZ, if_neg (by omega), mod_of_tmod i n h1, if_pos h4]), rfl⟩
    · go_enter Try.func17, Try.ntmps17
      go_wp2
      go_ret
      exact ⟨ret_int (by rw [modZ, if_neg (by omega), mod_of_tmod i n h1, if_neg (by omega)]), rfl⟩

set_option maxHeartbeats 1000000 in
theorem same_yes (v u : Value) (l : List Int) (w : World) (hv : Sl w v l) (hu : Sl w u l) :
    Calls Try.prog 32 #[v, u] w fun e w' => e = .returned (.bool true) ∧ ∃ n, w' = w.drewN n := by
  obtain ⟨a, cap, rfl, hm, hv⟩ := hv
  obtain ⟨a', cap', rfl, _, hu⟩ := hu
  unfold maxLen at hm
  have hd : ((l.length : Int) != (l.length : Int)) = false := by simp
  generalize hlen : l.length = len at *
  have HL := Lib.hid hlen
  clear hlen
  go_enter Try.func32, Try.ntmps32
  go_wp2
  go_loopw [5] (fun i wr => ∃ (k n : Nat), k ≤ len ∧ i = .int .i64 k ∧ wr = w.drewN n) (fun i _ => len - (intOf i).toNat)
  case atStart => exact ⟨0, 0, Nat.zero_le _, rfl, rfl⟩
  case round =>
    obtain ⟨k, n, hk, rfl, rfl⟩ := hrel
    by_cases hlt : k < len
    · rcases hv with rfl | ⟨b, off, rfl, hb, hc⟩
      · have := HL.out; simp at this; omega
      rcases hu with rfl | ⟨b', off', rfl, hb', hc'⟩
      · have := HL.out; simp at this; omega
      have c0 := hc k hlt
      have c1 := hc' k hlt
      clear hc hc'
      generalize l[k]?.getD 0 = x at c0 c1
      go_wp2
      go_quiet (fail)
      go_wp2
      go_roundw
      case rel => exact ⟨k + 1, _, by omega, by go_num, rfl⟩
      case measure => simp [intOf]; omega
    · go_wp2
      go_ret
      exact ⟨rfl, n, rfl⟩

end Go.Proofs.Ytoeepfhkedfmiaa.Ref
