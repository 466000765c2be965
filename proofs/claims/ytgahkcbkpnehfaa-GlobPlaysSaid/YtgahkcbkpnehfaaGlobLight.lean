/- Chapter 16: the contract of light. -/
import Derived.Test.YtgahkcbkpnehfaaQueue
import Derived.Test.YtgahkcbkpnehfaaOpenA
namespace Go.Proofs.Ytgahkcbkpnehfaa.Glob
open Go.RowKit Go.Esc
set_option linter.unusedVariables false

def LightPost (len : Nat) (l : Nat → List Int) (w : World) (e : Ending) (w' : World) : Prop := ∃ q : Bool, e = .returned (.bool q) ∧ w = w' ∧ (q = true ↔ len ≤ 60 ∧ ∀ i, i < len → (l i).length ≤ 30)

set_option maxHeartbeats 1000000 in
theorem light_any (w : World) (a : Option Addr) (len cap : Nat) (f : Nat → Nat → Int) (v : Nat → Value) (l : Nat → List Int) (hr : ARow w a len 3 f v l) : Calls Try.prog 30 #[.slice a len cap] w (LightPost len l w) := by
  by_cases hbig : 60 < len
  · go_enter Try.func30, Try.ntmps30
    go_wp2
    go_ret
    exact ⟨false, rfl, rfl, by simp; omega⟩
  have hlen : len ≤ 60 := by omega
  have hd : decide ((60 : Int) < (len : Int)) = false := by simp; omega
  clear hbig
  go_enter Try.func30, Try.ntmps30
  go_wp2
  go_loop [3] (fun i => ∃ k : Nat, k ≤ len ∧ i = .int .i64 k ∧ Hid (∀ i, i < k → (l i).length ≤ 30)) (fun i => len - (intOf i).toNat)
  case atStart => exact ⟨0, Nat.zero_le _, rfl, fun i hi => by omega⟩
  case round =>
    obtain ⟨k, hk, rfl, HF⟩ := hrel
    by_cases hlt : k < len
    · rcases hr with h0 | ⟨b, off, rfl, hbl, hml, hcell, hwf, hs⟩
      · omega
      obtain ⟨c2, hsl⟩ := hs k hlt
      rw [← Nat.add_assoc] at c2
      simp only [Nat.reduceAdd] at c2
      obtain ⟨au, cu, hv⟩ := hsl.len
      obtain ⟨n, HN⟩ : ∃ n, Hid ((l k).length = n) := ⟨_, rfl⟩
      rw [hv, HN.out] at c2
      clear hs hcell hwf hsl hv
      by_cases hb : 30 < n
      · go_wp2
        go_ret
        exact ⟨false, rfl, rfl, by
          constructor
          · intro h; cases h
          · intro h; have := h.2 k hlt; rw [HN.out] at this; omega⟩
      · have hdb : decide ((30 : Int) < (n : Int)) = false := by simp; omega
        go_wp2
        go_round
        case rel => exact ⟨k + 1, by omega, by go_num, fun i hi => by
          by_cases e : i = k
          · subst e; rw [HN.out]; omega
          · exact HF.out i (by omega)⟩
        case measure => simp [intOf]; omega
    · obtain rfl : k = len := by omega
      go_wp2
      go_ret
      exact ⟨true, rfl, rfl, fun _ => ⟨hlen, HF.out⟩, fun _ => rfl⟩

theorem light_yes (w : World) (a : Option Addr) (len cap : Nat) (f : Nat → Nat → Int) (v : Nat → Value) (l : Nat → List Int) (hr : ARow w a len 3 f v l) (h : len ≤ 60 ∧ ∀ i, i < len → (l i).length ≤ 30) : Calls Try.prog 30 #[.slice a len cap] w (fun e w' => e = .returned (.bool true) ∧ w = w') :=
  (light_any w a len cap f v l hr).mono fun e w' ⟨q, he, hw, hq⟩ => ⟨by rw [he, hq.2 h], hw⟩
theorem light_no (w : World) (a : Option Addr) (len cap : Nat) (f : Nat → Nat → Int) (v : Nat → Value) (l : Nat → List Int) (hr : ARow w a len 3 f v l) (h : ¬ (len ≤ 60 ∧ ∀ i, i < len → (l i).length ≤ 30)) : Calls Try.prog 30 #[.slice a len cap] w (fun e w' => e = .returned (.bool false) ∧ w = w') :=
  (light_any w a len cap f v l hr).mono fun e w' ⟨q, he, hw, hq⟩ => ⟨by
    cases q with
    | true => exact absurd (hq.1 rfl) h
    | false => exact he, hw⟩
end Go.Proofs.Ytgahkcbkpnehfaa.Glob
