/- Chapter 13: the ring: the contracts of Fill, and of slices.Clone, slices.ContainsFunc as it uses them. -/
import Derived.Test.YtgahkcbkpnehfaaRingNilsWalk
namespace Go.Esc
open Go.RowKit
theorem Slw.only' {S : Nat → Prop} {w w' : World} {v : Value} {l : List Int} (h : Slw w v l) (k : Only S w w') (hs : l ≠ [] → Off S v) : Slw w' v l := by
  by_cases hl : l = []
  · obtain ⟨a, cap, hv, hn, hm, _⟩ := h
    exact ⟨a, cap, hv, hn, hm, .inl hl⟩
  · exact h.only k (hs hl)
end Go.Esc
namespace Go.Proofs.Ytgahkcbkpnehfaa.Ring
open Go.RowKit Go.Esc
set_option linter.unusedVariables false

set_option maxHeartbeats 1000000 in
theorem clone_any (u : Value) (l : List Int) (w : World) (h : Slw w u l) (hl : l.length < 10000000) : Calls Try.prog 74 #[u] w (ListPost l w) := by
  have hlen : ([] : List Int).length + l.length < 100000000 := by simp; omega
  have HLen := Lib.hid hlen
  have HS := Lib.hid h
  have hnil := fun (w : World) (a : Option Addr) (n c n' c' : Nat) => Lib.run_eql_slice_nil (P := Try.prog) w 25 3 a n c n' c' Try.underlying25
  clear hlen
  rcases h.open with ⟨rfl, rfl⟩ | ⟨ad, cap, rfl, rfl⟩ | ⟨bu, off, cap, rfl, hne, hcap, hbu, hcells⟩
  · clear h
    go_enter Try.func74, Try.ntmps74
    go_wp2
    go_ret
    exact ⟨_, rfl, OwnI.nil _ _, Below.refl _ _⟩
  · clear h
    go_enter Try.func74, Try.ntmps74
    go_wp2_with (at_builtin; refine appX Try.underlying25 Glob.info3 w.heap.size _ rfl _ _ rfl _ [] _ [] rfl rfl (OwnI.new (w := w) (l := []) (by simp)) (HS.out.alloc _) (by simp) (by simp) ?_; intro v' w2 hA; have HA := Lib.hid hA; clear hA)
    go_ret
    exact ⟨_, rfl, HA.out.1, below_grown (below_alloc (Below.refl _ _) _) HA.out.2.1 (fun j hj => by simp [Act.eval, Value.ownBlock] at hj; omega)⟩
  · clear h hcells
    go_enter Try.func74, Try.ntmps74
    go_wp2_with (at_builtin; refine appX Try.underlying25 Glob.info3 w.heap.size _ rfl _ _ rfl _ [] _ l rfl rfl (OwnI.new (w := w) (l := []) (by simp)) (HS.out.alloc _) (by simp) HLen.out ?_; intro v' w2 hA; have HA := Lib.hid hA; clear hA)
    go_ret
    exact ⟨_, rfl, HA.out.1, below_grown (below_alloc (Below.refl _ _) _) HA.out.2.1 (fun j hj => by simp [Act.eval, Value.ownBlock] at hj; omega)⟩

theorem low_any (x : Int) (w : World) : Calls Try.prog 72 #[.int .i64 x] w fun e w' => e = .returned (.bool (decide (x < 1))) ∧ w = w' := by
  go_enter Try.func72, Try.ntmps72
  go_wp2
  go_ret
  exact ⟨rfl, rfl⟩

def IdxPost (l : List Int) (w : World) (e : Ending) (w' : World) : Prop := ∃ k : Int, e = .returned (.int .i64 k) ∧ w = w' ∧ (decide (0 ≤ k) = l.any (fun x => decide (x < 1)))

theorem any_take (l : List Int) (k : Nat) (h : k < l.length) : (l.take (k + 1)).any (fun x => decide (x < 1)) = ((l.take k).any (fun x => decide (x < 1)) || decide (l[k]?.getD 0 < 1)) := by
  rw [List.take_succ_eq_append_getElem h, List.any_append]
  simp [h]
theorem any_of_take (l : List Int) (k : Nat) (h : (l.take k).any (fun x => decide (x < 1)) = true) : l.any (fun x => decide (x < 1)) = true := by
  rw [List.any_eq_true] at h ⊢
  obtain ⟨x, hx, h⟩ := h
  exact ⟨x, List.mem_of_mem_take hx, h⟩

set_option maxHeartbeats 1000000 in
theorem idx_any (u : Value) (l : List Int) (w : World) (h : Slw w u l) (hl : l.length < 10000000) : Calls Try.prog 84 #[u, .func (.func 72) #[] #[]] w (IdxPost l w) := by
  obtain ⟨a, cap, rfl⟩ := h.len
  have HS := Lib.hid h
  clear h
  go_enter Try.func84, Try.ntmps84
  go_wp2
  go_loop [8] (fun i => ∃ k : Nat, k ≤ l.length ∧ i = .int .i64 k ∧ Hid ((l.take k).any (fun x => decide (x < 1)) = false)) (fun i => l.length - (intOf i).toNat)
  case atStart => exact ⟨0, Nat.zero_le _, rfl, by show _ = _; simp⟩
  case round =>
    obtain ⟨k, hk, rfl, HF⟩ := hrel
    by_cases hlt : k < l.length
    · rcases HS.out.open with ⟨_, h0⟩ | ⟨_, _, _, h0⟩ | ⟨bu, off, cap', he, _, _, hbu, hcells⟩
      · simp [h0] at hlt
      · simp [h0] at hlt
      simp only [Value.slice.injEq] at he
      obtain ⟨rfl, _, rfl⟩ := he
      have cu := hcells k hlt
      have HT := Lib.hid (any_take l k hlt)
      have HU := Lib.hid (any_of_take l (k + 1))
      generalize l[k]?.getD 0 = x at *
      clear hcells
      by_cases hx : x < 1
      · have hdx : decide (x < 1) = true := by simpa using hx
        go_wp2_with (go_at_call 72; refine (low_any _ _).mono ?_; rintro e w' ⟨rfl, rfl⟩)
        go_ret
        exact ⟨k, rfl, rfl, by rw [HU.out (by rw [HT.out, hdx]; simp)]; simp⟩
      · have hdx : decide (x < 1) = false := by simpa using hx
        go_wp2_with (go_at_call 72; refine (low_any _ _).mono ?_; rintro e w' ⟨rfl, rfl⟩)
        go_round
        case rel => exact ⟨k + 1, by omega, by go_num, by show _ = _; rw [HT.out, HF.out, hdx]; rfl⟩
        case measure => simp [intOf]; omega
    · obtain rfl : k = l.length := by omega
      rw [List.take_length] at HF
      go_wp2
      go_ret
      exact ⟨-1, rfl, rfl, by rw [HF.out]; rfl⟩

theorem contains_any (u : Value) (l : List Int) (w : World) (h : Slw w u l) (hl : l.length < 10000000) : Calls Try.prog 71 #[u, .func (.func 72) #[] #[]] w fun e w' => e = .returned (.bool (l.any (fun x => decide (x < 1)))) ∧ w = w' := by
  have HI := Lib.hid (idx_any u l w h hl)
  clear h
  go_enter Try.func71, Try.ntmps71
  go_wp2_with fail
  refine HI.out.mono ?_
  rintro e w1 ⟨k, rfl, rfl, hk⟩
  have HK := Lib.hid hk
  clear hk
  go_wp2_with fail
  go_ret
  exact ⟨ret_bool HK.out, rfl⟩

def fillR (size : Nat) (row l : List Int) : List Int := if l.any (fun x => decide (x < 1)) then row else row ++ l.take (size - row.length)
def fillO (size : Nat) (row l : List Int) : List Int := if l.any (fun x => decide (x < 1)) then [] else l.drop (size - row.length)

theorem fill_take (l : List Int) (k : Nat) (h : k < l.length) : l.take (k + 1) = l.take k ++ [l[k]?.getD 0] := by
  rw [List.take_succ_eq_append_getElem h]; simp [h]

set_option maxHeartbeats 4000000 in
theorem fill_any (b g size : Nat) (nx : Int) (row : List Int) (u : Value) (l : List Int) (w : World) (h : Rw w b g size nx row) (hu : Slw w u l) (ho : l ≠ [] → Off (Sg b g) u) (hl : l.length < 10000000) :
    Calls Try.prog 41 #[.pointer (some ⟨b, 0, none⟩), u] w (OutPost b g size nx (fillR size row l) (fillO size row l) w) := by
  have HC := Lib.hid (contains_any u l w hu hl)
  obtain ⟨a, cap, rfl⟩ := hu.len
  have HU := Lib.hid hu
  have HO := Lib.hid ho
  obtain ⟨hrl, hlo, hhi, hnx, hne⟩ := h.nums
  have HH := Lib.hid h
  unfold fillR fillO
  clear hu ho h
  by_cases hc : l.any (fun x => decide (x < 1)) = true
  · rw [if_pos hc, if_pos hc]
    rw [hc] at HC
    clear hc
    go_enter Try.func41, Try.ntmps41
    go_wp2
    go_step3
    go_wp2_with fail
    refine HC.out.mono ?_
    rintro e w1 ⟨rfl, rfl⟩
    go_wp2_with fail
    rw [Exit.noGoto_ret]
    go_ret
    exact ⟨_, rfl, OwnI.nil _ _, HH.out, Only.refl _ _⟩
  · rw [if_neg hc, if_neg hc]
    rw [Bool.not_eq_true] at hc
    rw [hc] at HC
    clear hc
    go_enter Try.func41, Try.ntmps41
    go_wp2
    go_step3
    go_wp2_with fail
    refine HC.out.mono ?_
    rintro e w1 ⟨rfl, rfl⟩
    go_wp2_with fail
    go_step3
    go_wp2_with fail
    go_loopw [18] (fun i wr => ∃ k : Nat, k ≤ l.length ∧ row.length + k ≤ size ∧ i = .int .i64 k ∧ Rw wr b g size nx (row ++ l.take k) ∧ Only (Sg b g) w wr) (fun i _ => l.length - (intOf i).toNat)
    case atStart => exact ⟨0, Nat.zero_le _, by omega, rfl, by simpa using HH.out, Only.refl _ _⟩
    case round =>
      obtain ⟨k, hk, hks, rfl, hR, hO⟩ := hrel
      by_cases hlt : k < l.length
      · have hu2 := HU.out.only' hO HO.out
        have HU2 := Lib.hid hu2
        rcases hu2.open with ⟨_, h0⟩ | ⟨_, _, _, h0⟩ | ⟨bu, off, cap', he, _, hcap, hbu, hcells⟩
        · simp [h0] at hlt
        · simp [h0] at hlt
        simp only [Value.slice.injEq] at he
        obtain ⟨rfl, _, rfl⟩ := he
        have cu := hcells k hlt
        have HT := Lib.hid (fill_take l k hlt)
        have hrlen : (row ++ l.take k).length = row.length + k := by simp; omega
        have HRow := Lib.hid (fun m => row_same b g size nx _ _ (hR.drewN m))
        rw [hrlen] at HRow
        have c1 := hR.cell1
        generalize l[k]?.getD 0 = x at *
        obtain ⟨p, HP⟩ : ∃ p, Hid (p = row.length + k) := ⟨_, rfl⟩
        rw [← HP.out] at HRow
        have hps : p ≤ size := by rw [HP.out]; exact hks
        by_cases hfull : p = size
        · have hd : ((p : Int) == (size : Int)) = true := by simp [hfull]
          have HE : Hid (k = size - row.length) := by have := HP.out; show k = size - row.length; omega
          have HR := Lib.hid hR
          have HON := Lib.hid hO
          have HSl := Lib.hid (HU2.out.drop (cap' := cap - k) k (by omega) rfl (by omega))
          have hkl : (k : Int) ≤ (l.length : Int) := by omega
          have hkc : (k : Int) ≤ (cap : Int) := by omega
          clear hcells hu2 hrlen hR hO hfull
          go_wp2_with fail
          go_quiet ((go_at_call 58; exact Calls.quiet_of (HRow.out _)))
          go_wp2_with fail
          refine (clone_any _ (l.drop k) _ (HSl.out.drewN _) (by simp; omega)).mono ?_
          rintro e w2 ⟨v, rfl, hown, hB⟩
          have HOwn : Hid (OwnI w2 wr.heap.size v (l.drop k)) := hown
          have HB : Hid (Below wr.heap.size wr w2) := ⟨hB.os, hB.tape, hB.output, hB.size, hB.block⟩
          clear hown hB
          go_wp2_with fail
          rw [Exit.noGoto_ret]
          go_ret
          exact ⟨_, rfl, by rw [← HE.out]; exact HOwn.out.mono HON.out.size, by rw [← HE.out]; exact HR.out.below HB.out, HON.out.below HB.out⟩
        · have hd : ((p : Int) == (size : Int)) = false := by rw [beq_eq_false_iff_ne]; omega
          have HPush := Lib.hid (fun m => push_any b g size nx _ x _ (hR.drewN m) (by rw [hrlen, ← HP.out]; omega))
          have HON := Lib.hid hO
          clear hcells hu2 hrlen hR hO
          go_wp2_with fail
          go_quiet ((go_at_call 58; exact Calls.quiet_of (HRow.out _)))
          go_wp2_with fail
          refine (HPush.out _).mono ?_
          rintro e w2 ⟨⟨v, rfl⟩, hR2, hO2⟩
          have HO2 : Hid (Only (Sg b g) wr w2) := ⟨hO2.os, hO2.tape, hO2.output, hO2.size, hO2.block⟩
          have HR2 := Lib.hid hR2
          clear hR2 hO2
          go_wp2_with fail
          go_roundw
          case rel => exact ⟨k + 1, by omega, by have := HP.out; omega, by go_num, by rw [HT.out, ← List.append_assoc]; exact HR2.out, HON.out.trans HO2.out⟩
          case measure => simp [intOf]; omega
      · obtain rfl : k = l.length := by omega
        rw [List.take_length] at hR
        have HR := Lib.hid hR
        have HON := Lib.hid hO
        have HT : Hid (l.take (size - row.length) = l) := List.take_of_length_le (by omega)
        have HD : Hid (l.drop (size - row.length) = []) := List.drop_eq_nil_of_le (by omega)
        clear hR hO
        go_wp2_with fail
        rw [Exit.noGoto_ret]
        go_ret
        exact ⟨_, rfl, by rw [HD.out]; exact OwnI.nil _ _, by rw [HT.out]; exact HR.out, HON.out⟩

end Go.Proofs.Ytgahkcbkpnehfaa.Ring
