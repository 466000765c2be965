/- slices.Backward and its iterator. -/
import Derived.RangeFuncBox
import Derived.RangeFuncLeaves
import Derived.Shelf.Abstract
import Derived.WalkKit
import Derived.OwnWalkIn
import Derived.TacticsInMore
import Derived.LoopNIn
import Derived.LoopIn
import Derived.Maps.AppendAt
import Derived.Test.YtgahkcbkpnehfaaQueueBatch
import Derived.Outline
namespace Go.Proofs.Ytgahkcbkpnehfaa.Glob
open Go.RowKit Go.Shelf Go.Esc
attribute [local go_sem] Oper.semAt_some

set_option maxRecDepth 100000 in
set_option maxHeartbeats 1000000 in
theorem backward_in (F : Fence) (n : Nat) (h56 : F.fn 56) (hro : F.round = none) (a : Option Addr) (k c : Nat) (w : World) :
    CallsIn F n Try.prog 56 #[.slice a k c] w fun e w' => e = .returned (.func (.func 81) #[] #[.pointer (some ⟨w.heap.size, 0, none⟩)]) ∧ w' = w.alloc (.cells #[.slice a k c] 25) := by
  refine callsIn_of_wp Try.func56 rfl h56 ?_ hro
  simp only [Try.ntmps56, List.size_toArray, List.length_cons, List.length_nil, Nat.reduceAdd, Nat.reduceSub, Array.replicate_succ, Array.replicate_zero, List.push_toArray, List.append_toArray, List.nil_append, List.cons_append]
  gi_wp2
  go_ret
  exact ⟨rfl, rfl⟩

theorem slw_cells {W W' : World} {u : Value} {l : List Int} (h : Slw W u l) (hs : W.heap.size ≤ W'.heap.size) (hc : ∀ ad v, W.cell? ad = some v → W'.cell? ad = some v) : Slw W' u l := by
  obtain ⟨a, cap, hv, hn, hm, h | ⟨b, off, ha, hb, hcs⟩⟩ := h
  · exact ⟨a, cap, hv, hn, hm, .inl h⟩
  · exact ⟨a, cap, hv, hn, hm, .inr ⟨b, off, ha, Nat.lt_of_lt_of_le hb hs, fun i hi => hc _ _ (hcs i hi)⟩⟩

/-- The box holds what it held, the slice reads as it read. -/
def KeepsU (B : Nat) (u : Value) (W W' : World) : Prop := (∀ v, W.cell? ⟨B, 0, none⟩ = some v → W'.cell? ⟨B, 0, none⟩ = some v) ∧ ∀ l, Slw W u l → Slw W' u l
theorem keepsU_t {B : Nat} {u : Value} {A C D : World} (h : KeepsU B u A C) (k : KeepsU B u C D) : KeepsU B u A D := ⟨fun v hv => k.1 v (h.1 v hv), fun l hl => k.2 l (h.2 l hl)⟩
theorem keepsU_b {B : Nat} {u : Value} {w : World} (W : World) (l : Nat) (o o' : Obj) (_ : w.heap.size ≤ l) (h : W.heap[l]? = some o) (hc : o.isCells = false) (_ : o.isWalk = false) : KeepsU B u W (W.putObj l o') :=
  ⟨fun _ hv => cell_kept hv (grownBy_putObj' W l o') (fun r e => by cases e; exact ⟨o, h, hc⟩), fun _ hl => slw_cells hl (grownBy_putObj' W l o').size (fun _ _ hv => cell_kept hv (grownBy_putObj' W l o') (fun r e => by cases e; exact ⟨o, h, hc⟩))⟩

/-- The pairs that it yields. -/
def backL (l : List Int) (k : Nat) : List (Int × Int) := (List.range k).map fun (i : Nat) => ((l.length : Int) - 1 - (i : Int), l[l.length - 1 - i]?.getD 0)
theorem backL_snoc (l : List Int) (k : Nat) : backL l (k + 1) = backL l k ++ [((l.length : Int) - 1 - k, l[l.length - 1 - k]?.getD 0)] := by
  unfold backL; rw [List.range_succ, List.map_append]; rfl
theorem backL_len (l : List Int) (k : Nat) : (backL l k).length = k := by simp [backL]
theorem backL_pre (l : List Int) {k m : Nat} (h : k ≤ m) : backL l k <+: backL l m := by
  unfold backL
  refine List.IsPrefix.map _ ⟨(List.range (m - k)).map (k + ·), ?_⟩
  rw [← List.range_add]; congr 1; omega
theorem backL_snd (l : List Int) : (backL l l.length).map Prod.snd = l.reverse := by
  apply List.ext_getElem
  · simp [backL]
  · intro i h1 h2
    simp [backL] at h1
    simp only [backL, List.map_map, List.getElem_map, List.getElem_range, Function.comp, List.getElem_reverse]
    rw [List.getElem?_eq_getElem (by omega)]
    rfl

set_option maxRecDepth 100000 in
set_option maxHeartbeats 1000000 in
theorem back_stops (F : Fence) (n : Nat) (h81 : F.fn 81) (hro : F.round = none) (hn : 2 ≤ n) (B : Nat) (u : Value) (l : List Int) (w : World) (hB : B < w.heap.size) (hc : w.cell? ⟨B, 0, none⟩ = some u) (hu : Slw w u l) (hl : l.length < 100000000) :
    SeqStopsK F n Try.prog 81 #[.pointer (some ⟨B, 0, none⟩)] (fun x : Int × Int => #[Value.int .i64 x.1, Value.int .i64 x.2]) (KeepsU B u) (fun ys => ys = backL l l.length) (fun pre => pre <+: backL l l.length) l.length w := by
  intro q J Jx W hW _ _ hY h0
  have d1 := (hW.cell (p := ⟨B, 0, none⟩) hB).trans hc
  have HU := Lib.hid (hu.below hW)
  obtain ⟨a, cap, rfl⟩ := hu.len
  clear hu hW hc
  refine callsIn_of_wp Try.func81 rfl h81 ?_ hro
  simp only [Try.ntmps81, List.size_toArray, List.length_cons, List.length_nil, Nat.reduceAdd, Nat.reduceSub, Array.replicate_succ, Array.replicate_zero, List.push_toArray, List.append_toArray, List.nil_append, List.cons_append]
  have h1n : 1 ≤ n := by omega
  have h2n : 1 ≤ n - 1 := by omega
  have HY := Lib.hid hY
  clear hY
  gi_wp2
  gi_loopw [3] (fun i wr => ∃ k : Nat, k ≤ l.length ∧ i = .int .i64 ((l.length : Int) - 1 - k) ∧ wr.cell? ⟨B, 0, none⟩ = some (.slice a l.length cap) ∧ Slw wr (.slice a l.length cap) l ∧ J (backL l k) wr)
    (fun i _ => (intOf i + 1).toNat)
  case atStart => exact ⟨0, Nat.zero_le _, by go_num, d1, HU.out, h0⟩
  case round =>
    obtain ⟨k, hk, rfl, hcB, hU, hJ⟩ := hrel
    by_cases hlt : k < l.length
    · rcases hU.open with ⟨_, h0⟩ | ⟨_, _, _, h0⟩ | ⟨bu, off, cap', he, _, _, hbu, hcells⟩
      · simp [h0] at hlt
      · simp [h0] at hlt
      simp only [Value.slice.injEq] at he
      obtain ⟨rfl, _, rfl⟩ := he
      have cu := hcells (l.length - 1 - k) (by omega)
      have HS := Lib.hid (backL_snoc l k)
      generalize l[l.length - 1 - k]?.getD 0 = x at *
      obtain ⟨fn, tmps, assign, body, hy, hR⟩ := HY.out _ ((l.length : Int) - 1 - k, x) wr hJ (by rw [backL_len]; exact hlt)
      have HU2 := Lib.hid hU
      obtain ⟨p, hp⟩ : ∃ p : Nat, l.length - 1 - k = p := ⟨_, rfl⟩
      have hpz : (l.length : Int) - 1 - k = p := by omega
      rw [hp] at cu
      rw [hpz] at hR hy HS ⊢
      have hpl : (p : Int) < (l.length : Int) := by omega
      clear hcells hU
      gi_wp2
      refine hR.mono ?_
      rintro e W3 (⟨rfl, hJ3, hk3⟩ | ⟨rfl, hJx3⟩)
      · have hcB3 := hk3.1 _ hcB
        have HU3 := Lib.hid (hk3.2 _ HU2.out)
        gi_wp2
        go_roundw
        case rel => exact ⟨k + 1, by omega, by go_num, hcB3, HU3.out, by rw [HS.out]; exact hJ3⟩
        case measure => simp [intOf]
      · gi_wp2
        refine bodyPost_ret (results_none rfl _ _ _) rfl ?_
        exact ⟨⟨_, rfl⟩, .inr ⟨_, by rw [← HS.out]; exact backL_pre l (by omega), hJx3⟩⟩
    · obtain rfl : k = l.length := by omega
      gi_wp2
      go_end0
      exact ⟨⟨_, rfl⟩, .inl ⟨_, rfl, hJ⟩⟩
end Go.Proofs.Ytgahkcbkpnehfaa.Glob
