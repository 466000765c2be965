/- Chapter 22: the contracts of the program's semaphore. -/
import Derived.Test.YtcjgdnlacfpioaaSemaRow
import Derived.Deep.LoopGhost
import Derived.RegionTactic
import Derived.BigRegion
namespace Go.Proofs.Ytcjgdnlacfpioaa.Sema
open Go.RowKit Go.Esc Go.Proofs.Ytcjgdnlacfpioaa.Ref
set_option linter.unusedVariables false

/-- The semaphore in memory, at block b: who owns it, who waits. -/
structure Sm (w : World) (b : Nat) (ow : Int) (v : Value) (l : List Int) : Prop where
  blk : Blk w b #[.int .i64 ow, v] 61
  row : Rwl w v l
  ne : v.ownBlock ≠ some b
  live : ∀ j, v.ownBlock = some j → j < w.heap.size
def Sf (b : Nat) (v : Value) (j : Nat) : Prop := j = b ∨ v.ownBlock = some j

theorem off_b {v : Value} {b : Nat} (h : v.ownBlock ≠ some b) : Off (fun j => j = b) v := fun j hj e => h (by rw [hj, e])
theorem Sm.only {S : Nat → Prop} {w w' : World} {b : Nat} {ow : Int} {v : Value} {l : List Int} (h : Sm w b ow v l) (o : Only S w w') (hs : ∀ j, Sf b v j → ¬ S j) : Sm w' b ow v l :=
  ⟨h.blk.only o (hs b (.inl rfl)), h.row.off o (fun j hj => hs j (.inr hj)), h.ne, fun j hj => Nat.lt_of_lt_of_le (h.live j hj) o.size⟩
theorem Sm.below {w w' : World} {b : Nat} {ow : Int} {v : Value} {l : List Int} (h : Sm w b ow v l) (o : Below w.heap.size w w') : Sm w' b ow v l :=
  h.only (S := fun _ => False) ((Only.refl _ w).below o) (fun _ _ x => x)
theorem Sm.drewN {w : World} {b : Nat} {ow : Int} {v : Value} {l : List Int} (h : Sm w b ow v l) (n : Nat) : Sm (w.drewN n) b ow v l := ⟨h.blk, h.row, h.ne, h.live⟩
theorem Sm.cell0 {w : World} {b : Nat} {ow : Int} {v : Value} {l : List Int} (h : Sm w b ow v l) : w.cell? ⟨b, 0, none⟩ = some (.int .i64 ow) := h.blk.cell 0
theorem Sm.cell1 {w : World} {b : Nat} {ow : Int} {v : Value} {l : List Int} (h : Sm w b ow v l) : w.cell? ⟨b, 1, none⟩ = some v := h.blk.cell 1
theorem Sm.setOw {w : World} {b : Nat} {ow : Int} {v : Value} {l : List Int} (h : Sm w b ow v l) (x : Int) : Sm (w.setCell ⟨b, 0, none⟩ (.int .i64 x)) b x v l :=
  ⟨h.blk.set2_0, h.row.off ((Only.refl (fun j => j = b) w).set (.inr rfl) _ _) (off_b h.ne), h.ne, fun j hj => by have := h.live j hj; simpa [World.setCell] using this⟩
theorem Sm.setRow {w : World} {b : Nat} {ow : Int} {v v' : Value} {l l' : List Int} (h : Sm w b ow v l) (hr : Rwl w v' l') (hn : v'.ownBlock ≠ some b) (hl : ∀ j, v'.ownBlock = some j → j < w.heap.size) : Sm (w.setCell ⟨b, 1, none⟩ v') b ow v' l' :=
  ⟨h.blk.set2_1, hr.off ((Only.refl (fun j => j = b) w).set (.inr rfl) _ _) (off_b hn), hn, fun j hj => by have := hl j hj; simpa [World.setCell] using this⟩

/-- Blocks come but new ones. -/
def Grs (b : Nat) (v v' : Value) (w : World) : Prop := ∀ j, v'.ownBlock = some j → v.ownBlock = some j ∨ w.heap.size ≤ j
/-- How it is then. -/
def Sp (b : Nat) (ow : Int) (v : Value) (l : List Int) (w w' : World) : Prop := ∃ v', Sm w' b ow v' l ∧ Only (Sf b v) w w' ∧ Grs b v v' w

set_option maxHeartbeats 1000000 in
theorem new_any (w : World) : Calls Try.prog 10 #[] w fun e w' => e = .returned (.pointer (some ⟨w.heap.size, 0, none⟩)) ∧ w.alloc (.cells #[.int .i64 0, .slice none 0 0] 61) = w' := by
  go_enter Try.func10, Try.ntmps10
  go_wp2
  go_ret
  exact ⟨rfl, rfl⟩
theorem Sm.new (w : World) : Sm (w.alloc (.cells #[.int .i64 0, .slice none 0 0] 61)) w.heap.size 0 (.slice none 0 0) [] :=
  ⟨Blk.new w _ 61, Rwl.nil _, by simp [Value.ownBlock], by simp [Value.ownBlock]⟩

set_option maxHeartbeats 1000000 in
theorem owner_any (b : Nat) (ow : Int) (v : Value) (l : List Int) (w : World) (h : Sm w b ow v l) : Calls Try.prog 13 #[.pointer (some ⟨b, 0, none⟩)] w fun e w' => e = .returned (.int .i64 ow) ∧ w = w' := by
  have c0 := h.cell0
  clear h
  go_enter Try.func13, Try.ntmps13
  go_wp2
  go_ret
  exact ⟨rfl, rfl⟩

set_option maxHeartbeats 1000000 in
theorem clone_any (u : Value) (l : List Int) (w : World) (h : Slw w u l) (hl : l.length < 10000000) : Calls Try.prog 33 #[u] w (LPost l w) := by
  have hlen : ([] : List Int).length + l.length < 100000000 := by simp; omega
  have HLen := Lib.hid hlen
  have HS := Lib.hid h
  have hnil := fun (w : World) (a : Option Addr) (n c n' c' : Nat) => Lib.run_eql_slice_nil (P := Try.prog) w 22 3 a n c n' c' Try.underlying22
  clear hlen
  rcases h.open with ⟨rfl, rfl⟩ | ⟨ad, cap, rfl, rfl⟩ | ⟨bu, off, cap, rfl, hne, hcap, hbu, hcells⟩
  · clear h
    go_enter Try.func33, Try.ntmps33
    go_wp2
    go_ret
    exact ⟨_, rfl, OwnI.nil _ _, Below.refl _ _⟩
  · clear h
    go_enter Try.func33, Try.ntmps33
    go_wp2_with (at_builtin; refine appX Try.underlying22 info3 w.heap.size _ rfl _ _ rfl (.slice (some ⟨w.heap.size, 0, none⟩) 0 0) [] _ [] rfl rfl (OwnI.new (w := w) (l := []) (by simp)) (HS.out.alloc _) (by simp) (by simp) ?_; intro v' w2 hA; have HA := Lib.hid hA; clear hA)
    go_ret
    exact ⟨_, rfl, HA.out.1, below_grown (below_alloc (Below.refl _ _) _) HA.out.2.1 (fun j hj => by simp [Value.ownBlock] at hj; omega)⟩
  · clear h hcells
    go_enter Try.func33, Try.ntmps33
    go_wp2_with (at_builtin; refine appX Try.underlying22 info3 w.heap.size _ rfl _ _ rfl (.slice (some ⟨w.heap.size, 0, none⟩) 0 0) [] _ l rfl rfl (OwnI.new (w := w) (l := []) (by simp)) (HS.out.alloc _) (by simp) HLen.out ?_; intro v' w2 hA; have HA := Lib.hid hA; clear hA)
    go_ret
    exact ⟨_, rfl, HA.out.1, below_grown (below_alloc (Below.refl _ _) _) HA.out.2.1 (fun j hj => by simp [Value.ownBlock] at hj; omega)⟩

set_option maxHeartbeats 1000000 in
theorem waits_any (b : Nat) (ow : Int) (v : Value) (l : List Int) (w : World) (h : Sm w b ow v l) (hl : l.length < 10000000) : Calls Try.prog 16 #[.pointer (some ⟨b, 0, none⟩)] w (LPost l w) := by
  have c1 := h.cell1
  have HC := Lib.hid (clone_any v l w h.row.slw hl)
  clear h
  go_enter Try.func16, Try.ntmps16
  go_wp2_with fail
  refine HC.out.mono ?_
  rintro e w2 ⟨v2, rfl, ho2, hb2⟩
  go_wp2_with fail
  go_ret
  exact ⟨_, rfl, ho2, hb2⟩

theorem is_any (x g : Int) (gb : Nat) (w : World) (hg : w.cell? ⟨gb, 0, none⟩ = some (.int .i64 g)) : Calls Try.prog 38 #[.int .i64 x, .pointer (some ⟨gb, 0, none⟩)] w fun e w' => e = .returned (.bool (x == g)) ∧ w = w' := by
  go_enter Try.func38, Try.ntmps38
  go_wp2
  go_ret
  exact ⟨rfl, rfl⟩

set_option maxHeartbeats 1000000 in
theorem idx_any (u : Value) (l : List Int) (g : Int) (gb : Nat) (w : World) (h : Slw w u l) (hl : l.length < 10000000) (hg : w.cell? ⟨gb, 0, none⟩ = some (.int .i64 g)) : Calls Try.prog 37 #[u, .func (.func 38) #[] #[.pointer (some ⟨gb, 0, none⟩)]] w fun e w' => e = .returned (.int .i64 (idxZ l g)) ∧ w = w' := by
  obtain ⟨a, cap, rfl⟩ := h.len
  have HS := Lib.hid h
  clear h
  go_enter Try.func37, Try.ntmps37
  go_wp2
  go_loop [8] (fun i => ∃ k : Nat, k ≤ l.length ∧ i = .int .i64 k ∧ Hid (∀ i, i < k → l[i]?.getD 0 ≠ g)) (fun i => l.length - (intOf i).toNat)
  case atStart => exact ⟨0, Nat.zero_le _, rfl, fun i hi => by omega⟩
  case round =>
    obtain ⟨k, hk, rfl, HF⟩ := hrel
    by_cases hlt : k < l.length
    · rcases HS.out.open with ⟨_, h0⟩ | ⟨_, _, _, h0⟩ | ⟨bu, off, cap', he, _, _, hbu, hcells⟩
      · simp [h0] at hlt
      · simp [h0] at hlt
      simp only [Value.slice.injEq] at he
      obtain ⟨rfl, _, rfl⟩ := he
      have cu := hcells k hlt
      clear hcells
      by_cases hx : l[k]?.getD 0 = g
      · have HI := Lib.hid (idxZ_first l g k hlt hx HF.out)
        rw [hx] at cu
        have hgg : (g == g) = true := by simp
        clear hx
        go_wp2_with (go_at_call 38; refine (is_any _ _ _ _ hg).mono ?_; rintro e w' ⟨rfl, rfl⟩)
        go_ret
        exact ⟨ret_int HI.out.symm, rfl⟩
      · have hxb : (l[k]?.getD 0 == g) = false := by rw [beq_eq_false_iff_ne]; exact hx
        have HN : Hid (∀ i, i < k + 1 → l[i]?.getD 0 ≠ g) := fun i hi => by
          by_cases e : i = k
          · subst e; exact hx
          · exact HF.out i (by omega)
        generalize l[k]?.getD 0 = y at *
        clear hx
        go_wp2_with (go_at_call 38; refine (is_any _ _ _ _ hg).mono ?_; rintro e w' ⟨rfl, rfl⟩)
        go_round
        case rel => exact ⟨k + 1, by omega, by go_num, HN.out⟩
        case measure => simp [intOf]; omega
    · obtain rfl : k = l.length := by omega
      have HI := Lib.hid (idxZ_none l g HF.out)
      go_wp2
      go_ret
      exact ⟨ret_int HI.out.symm, rfl⟩

def AheadPost (l : List Int) (g : Int) (w : World) (e : Ending) (w' : World) : Prop := e = .returned (.int .i64 (idxZ l g)) ∧ Below w.heap.size w w'
set_option maxHeartbeats 1000000 in
theorem ahead_any (b : Nat) (ow : Int) (v : Value) (l : List Int) (g : Int) (w : World) (h : Sm w b ow v l) (hl : l.length < 10000000) : Calls Try.prog 21 #[.pointer (some ⟨b, 0, none⟩), .int .i64 g] w (AheadPost l g w) := by
  have hbl := h.blk.lt
  have c1 : (w.alloc (.cells #[.int .i64 g] 3)).cell? ⟨b, 1, none⟩ = some v := (h.below (below_alloc (Below.refl _ _) _)).cell1
  have HI := Lib.hid (idx_any v l g w.heap.size (w.alloc (.cells #[.int .i64 g] 3)) (h.row.slw.alloc _) hl ((Blk.new w #[.int .i64 g] 3).cell 0))
  clear h
  go_enter Try.func21, Try.ntmps21
  go_wp2_with fail
  refine HI.out.mono ?_
  rintro e w2 ⟨rfl, rfl⟩
  go_wp2_with fail
  go_ret
  exact ⟨rfl, below_alloc (Below.refl _ _) _⟩
end Go.Proofs.Ytcjgdnlacfpioaa.Sema
