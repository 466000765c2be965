/- Chapter 01: the contracts of num.Mod, num.Walk, its iterator, and of those who range over it. -/
import Derived.RangeFuncBox
import Derived.RangeFuncLeaves
import Derived.Shelf.Abstract
import Derived.WalkKit
import Derived.OwnWalkIn
import Derived.TacticsInMore
import Derived.LoopNIn
import Derived.LoopIn
import Derived.Maps.AppendAt
import Derived.Test.YtoeepfhkedfmiaaRows
import Derived.Test.YtoeepfhkedfmiaaNumPlain
import Derived.Outline
namespace Go.Proofs.Ytoeepfhkedfmiaa.Num
open Go.RowKit Go.Shelf Go.Esc
attribute [local go_sem] Oper.semAt_some

set_option maxHeartbeats 400000 in
theorem mod_any (i n : Int) (w : World) (hn : n ≤ 4611686018427387904) :
    Calls Try.prog 16 #[.int .i64 i, .int .i64 n] w fun e w' => e = .returned (.int .i64 (modZ i n)) ∧ w = w' := by
  by_cases h : n < 1
  · go_enter Try.func16, Try.ntmps16
    go_wp2
    go_ret
    exact ⟨by simp [modZ, h], rfl⟩
  · have h1 : 1 ≤ n := by omega
    clear h
    have hz : (n == 0) = false := by simp; omega
    go_enter Try.func16, Try.ntmps16
    go_wp2
    go_ret
    refine ⟨ret_int ?_, rfl⟩
    have h2 := Int.lt_tmod_of_pos i (show (0 : Int) < n by omega)
    have h3 := Int.tmod_lt_of_pos i (show (0 : Int) < n by omega)
    rw [IntWalk.wrap64_in _ ⟨by omega, by omega⟩, tmod_two i n h1, modZ, if_neg (by omega)]

set_option maxRecDepth 100000 in
set_option maxHeartbeats 1000000 in
theorem walk_inner (F : Fence) (n : Nat) (h54 : F.fn 54) (hro : F.round = none) (a b c : Int) (w : World) :
    CallsIn F n Try.prog 54 #[.int .i64 a, .int .i64 b, .int .i64 c] w fun e w' =>
      e = .returned (.func (.func 60) #[] #[.pointer (some ⟨w.heap.size, 0, none⟩), .pointer (some ⟨w.heap.size + 1 + 1, 0, none⟩), .pointer (some ⟨w.heap.size + 1, 0, none⟩)]) ∧
      w' = ((w.alloc (.cells #[.int .i64 a] 3)).alloc (.cells #[.int .i64 b] 3)).alloc (.cells #[.int .i64 c] 3) := by
  refine callsIn_of_wp Try.func54 rfl h54 ?_ hro
  simp only [Try.ntmps54, List.size_toArray, List.length_cons, List.length_nil, Nat.reduceAdd, Nat.reduceSub, Array.replicate_succ, Array.replicate_zero, List.push_toArray, List.append_toArray, List.nil_append, List.cons_append]
  gi_wp2
  go_ret
  exact ⟨rfl, rfl⟩

set_option maxHeartbeats 400000 in
theorem mod_in (F : Fence) (m : Nat) (h16 : F.fn 16) (hro : F.round = none) (i n : Int) (w : World) (h1 : 1 ≤ n) (hn : n ≤ 4611686018427387904) :
    CallsIn F m Try.prog 16 #[.int .i64 i, .int .i64 n] w fun e w' => e = .returned (.int .i64 (modZ i n)) ∧ w = w' := by
  have hz : (n == 0) = false := by simp; omega
  refine callsIn_of_wp Try.func16 rfl h16 ?_ hro
  simp only [Try.ntmps16, List.size_toArray, List.length_cons, List.length_nil, Nat.reduceAdd, Nat.reduceSub, Array.replicate_succ, Array.replicate_zero, List.push_toArray, List.append_toArray, List.nil_append, List.cons_append]
  gi_wp2
  go_ret
  refine ⟨ret_int ?_, rfl⟩
  have h2 := Int.lt_tmod_of_pos i (show (0 : Int) < n by omega)
  have h3 := Int.tmod_lt_of_pos i (show (0 : Int) < n by omega)
  rw [IntWalk.wrap64_in _ ⟨by omega, by omega⟩, tmod_two i n h1, modZ, if_neg (by omega)]

/-- Two boxes hold what they held. -/
def Keeps2 (b c : Nat) (W W' : World) : Prop := (∀ v, W.cell? ⟨b, 0, none⟩ = some v → W'.cell? ⟨b, 0, none⟩ = some v) ∧ (∀ v, W.cell? ⟨c, 0, none⟩ = some v → W'.cell? ⟨c, 0, none⟩ = some v)
theorem keeps2_t {b c : Nat} {A B C : World} (h : Keeps2 b c A B) (k : Keeps2 b c B C) : Keeps2 b c A C := ⟨fun v hv => k.1 v (h.1 v hv), fun v hv => k.2 v (h.2 v hv)⟩
theorem keeps2_b {b c : Nat} {w : World} (W : World) (l : Nat) (o o' : Obj) (_ : w.heap.size ≤ l) (h : W.heap[l]? = some o) (hc : o.isCells = false) (_ : o.isWalk = false) : Keeps2 b c W (W.putObj l o') :=
  ⟨fun _ hv => cell_kept hv (grownBy_putObj' W l o') (fun r e => by cases e; exact ⟨o, h, hc⟩), fun _ hv => cell_kept hv (grownBy_putObj' W l o') (fun r e => by cases e; exact ⟨o, h, hc⟩)⟩

theorem range_pre {k m : Nat} (h : k ≤ m) : List.range k <+: List.range m := ⟨(List.range (m - k)).map (k + ·), by rw [← List.range_add]; congr 1; omega⟩
theorem range_snoc (m : Nat) (start step : Int) (k : Nat) : (List.range (k + 1)).map (walkAt m start step) = (List.range k).map (walkAt m start step) ++ [walkAt m start step k] := by
  rw [List.range_succ, List.map_append]; rfl

set_option maxRecDepth 100000 in
set_option maxHeartbeats 1000000 in
/-- The iterator of a walk of m places, for whatever loop body keeps its two boxes. -/
theorem walk1_in (F : Fence) (n : Nat) (h60 : F.fn 60) (h16 : F.fn 16) (hro : F.round = none) (hn : 2 ≤ n) (l Bn Bs Bt : Nat) (m : Nat) (start step : Int) (hm1 : 1 ≤ m) (hm2 : m ≤ 1024) (hs1 : 1 ≤ step) (hs2 : step ≤ 1024) (J Jx : List Int → World → Prop)
    (hY : ∀ pre x W, J pre W → pre.length < m → YieldAt F (n - 1) Try.prog l #[.int .i64 x] W fun e W' =>
      (e = .returned (.bool true) ∧ J (pre ++ [x]) W' ∧ Keeps2 Bn Bs W W') ∨ (e = .returned (.bool false) ∧ Jx (pre ++ [x]) W'))
    (W : World) (hBn : W.cell? ⟨Bn, 0, none⟩ = some (.int .i64 m)) (hBs : W.cell? ⟨Bs, 0, none⟩ = some (.int .i64 step)) (hBt : W.cell? ⟨Bt, 0, none⟩ = some (.int .i64 start)) (h0 : J [] W) :
    CallsIn F n Try.prog 60 #[.func (.yield l) #[] #[], .pointer (some ⟨Bn, 0, none⟩), .pointer (some ⟨Bs, 0, none⟩), .pointer (some ⟨Bt, 0, none⟩)] W fun e W' => (∃ v, e = .returned v) ∧
      ((∃ ys, ys = (List.range m).map (walkAt m start step) ∧ J ys W') ∨ (∃ pre, pre <+: (List.range m).map (walkAt m start step) ∧ Jx pre W')) := by
  refine callsIn_of_wp Try.func60 rfl h60 ?_ hro
  simp only [Try.ntmps60, List.size_toArray, List.length_cons, List.length_nil, Nat.reduceAdd, Nat.reduceSub, Array.replicate_succ, Array.replicate_zero, List.push_toArray, List.append_toArray, List.nil_append, List.cons_append]
  have h1n : 1 ≤ n := by omega
  have h2n : 1 ≤ n - 1 := by omega
  have hd1 : decide ((m : Int) < 1) = false := by simp; omega
  have hd2 : decide ((1024 : Int) < m) = false := by simp; omega
  have hd3 : decide (step < 1) = false := by simp; omega
  have hd4 : decide ((1024 : Int) < step) = false := by simp; omega
  gi_wp2_with (gi_at_call 16; refine (mod_in F (n - 1) h16 hro _ _ _ (by omega) (by omega)).mono ?_; rintro e w' ⟨rfl, rfl⟩)
  gi_loopw [5, 24] (fun at_ i wr => ∃ k : Nat, k ≤ m ∧ at_ = .int .i64 (walkAt m start step k) ∧ i = .int .i64 k ∧ wr.cell? ⟨Bn, 0, none⟩ = some (.int .i64 m) ∧ wr.cell? ⟨Bs, 0, none⟩ = some (.int .i64 step) ∧ J ((List.range k).map (walkAt m start step)) wr)
    (fun _ i _ => m - (intOf i).toNat)
  case atStart =>
    exact ⟨0, Nat.zero_le _, by rw [walkAt_zero _ _ _ (by omega)], rfl, hBn, hBs, h0⟩
  case round =>
    obtain ⟨k, hk, rfl, rfl, hcn, hcs, hJs⟩ := hrel
    by_cases hlt : k < m
    · have w0 := walkAt_lo m start step k (by omega)
      have w1 := walkAt_hi m start step k (by omega)
      have HS := Lib.hid (walkAt_succ m start step k)
      have HR := Lib.hid (range_snoc m start step k)
      obtain ⟨fn, tmps, assign, body, hy, hR⟩ := hY _ (walkAt m start step k) wr hJs (by simp; exact hlt)
      gi_wp2
      refine hR.mono ?_
      rintro e W3 (⟨rfl, hJ3, hk3⟩ | ⟨rfl, hJx3⟩)
      · have hcn3 := hk3.1 _ hcn
        have hcs3 := hk3.2 _ hcs
        gi_wp2
        go_roundw
        case rel => exact ⟨k + 1, by omega, by rw [HS.out], by go_num, hcn3, hcs3, by rw [HR.out]; exact hJ3⟩
        case measure => simp [intOf]; omega
      · gi_wp2
        refine bodyPost_ret (results_none rfl _ _ _) rfl ?_
        exact ⟨⟨_, rfl⟩, .inr ⟨_, by rw [← HR.out]; exact List.IsPrefix.map _ (range_pre (by omega)), hJx3⟩⟩
    · obtain rfl : k = m := by omega
      gi_wp2
      go_end0
      exact ⟨⟨_, rfl⟩, .inl ⟨_, rfl, hJs⟩⟩

set_option maxRecDepth 100000 in
set_option maxHeartbeats 1000000 in
/-- The iterator of a walk that is none. -/
theorem walk1_bad (F : Fence) (n : Nat) (h60 : F.fn 60) (hro : F.round = none) (l Bn Bs Bt : Nat) (m step : Int) (hbad : walkBad m step)
    (W : World) (hBn : W.cell? ⟨Bn, 0, none⟩ = some (.int .i64 m)) (hBs : W.cell? ⟨Bs, 0, none⟩ = some (.int .i64 step)) :
    CallsIn F n Try.prog 60 #[.func (.yield l) #[] #[], .pointer (some ⟨Bn, 0, none⟩), .pointer (some ⟨Bs, 0, none⟩), .pointer (some ⟨Bt, 0, none⟩)] W fun e W' => (∃ v, e = .returned v) ∧ W = W' := by
  by_cases h1 : m < 1
  · have hd1 : decide (m < 1) = true := by simp; omega
    refine callsIn_of_wp Try.func60 rfl h60 ?_ hro
    simp only [Try.ntmps60, List.size_toArray, List.length_cons, List.length_nil, Nat.reduceAdd, Nat.reduceSub, Array.replicate_succ, Array.replicate_zero, List.push_toArray, List.append_toArray, List.nil_append, List.cons_append]
    gi_wp2
    refine bodyPost_ret (results_none rfl _ _ _) rfl ?_
    exact ⟨⟨_, rfl⟩, rfl⟩
  · have hd1 : decide (m < 1) = false := by simp; omega
    by_cases h2 : 1024 < m
    · have hd2 : decide (1024 < m) = true := by simp; omega
      refine callsIn_of_wp Try.func60 rfl h60 ?_ hro
      simp only [Try.ntmps60, List.size_toArray, List.length_cons, List.length_nil, Nat.reduceAdd, Nat.reduceSub, Array.replicate_succ, Array.replicate_zero, List.push_toArray, List.append_toArray, List.nil_append, List.cons_append]
      gi_wp2
      refine bodyPost_ret (results_none rfl _ _ _) rfl ?_
      exact ⟨⟨_, rfl⟩, rfl⟩
    · have hd2 : decide (1024 < m) = false := by simp; omega
      by_cases h3 : step < 1
      · have hd3 : decide (step < 1) = true := by simp; omega
        refine callsIn_of_wp Try.func60 rfl h60 ?_ hro
        simp only [Try.ntmps60, List.size_toArray, List.length_cons, List.length_nil, Nat.reduceAdd, Nat.reduceSub, Array.replicate_succ, Array.replicate_zero, List.push_toArray, List.append_toArray, List.nil_append, List.cons_append]
        gi_wp2
        refine bodyPost_ret (results_none rfl _ _ _) rfl ?_
        exact ⟨⟨_, rfl⟩, rfl⟩
      · have hd3 : decide (step < 1) = false := by simp; omega
        have h4 : 1024 < step := by unfold walkBad at hbad; omega
        have hd4 : decide (1024 < step) = true := by simp; omega
        refine callsIn_of_wp Try.func60 rfl h60 ?_ hro
        simp only [Try.ntmps60, List.size_toArray, List.length_cons, List.length_nil, Nat.reduceAdd, Nat.reduceSub, Array.replicate_succ, Array.replicate_zero, List.push_toArray, List.append_toArray, List.nil_append, List.cons_append]
        gi_wp2
        refine bodyPost_ret (results_none rfl _ _ _) rfl ?_
        exact ⟨⟨_, rfl⟩, rfl⟩

theorem walkL_nat {m : Nat} {start step : Int} (h : ¬ walkBad m step) : walkL m start step = (List.range m).map (walkAt m start step) := by
  unfold walkL; rw [if_neg h]; simp

/-- What a walk yields, for whatever loop. -/
theorem walk_stops (F : Fence) (n : Nat) (h60 : F.fn 60) (h16 : F.fn 16) (hro : F.round = none) (hn : 2 ≤ n) (Bn Bs Bt : Nat) (a start step : Int) (w : World) (h1 : Bn < w.heap.size) (h2 : Bs < w.heap.size) (h3 : Bt < w.heap.size)
    (c1 : w.cell? ⟨Bn, 0, none⟩ = some (.int .i64 a)) (c2 : w.cell? ⟨Bs, 0, none⟩ = some (.int .i64 step)) (c3 : w.cell? ⟨Bt, 0, none⟩ = some (.int .i64 start)) :
    SeqStopsK F n Try.prog 60 #[.pointer (some ⟨Bn, 0, none⟩), .pointer (some ⟨Bs, 0, none⟩), .pointer (some ⟨Bt, 0, none⟩)] (fun x : Int => #[Value.int .i64 x]) (Keeps2 Bn Bs) (fun ys => ys = walkL a start step) (fun pre => pre <+: walkL a start step) (walkL a start step).length w := by
  intro l J Jx W hW _ _ hY h0
  have d1 := (hW.cell (p := ⟨Bn, 0, none⟩) h1).trans c1
  have d2 := (hW.cell (p := ⟨Bs, 0, none⟩) h2).trans c2
  have d3 := (hW.cell (p := ⟨Bt, 0, none⟩) h3).trans c3
  by_cases hb : walkBad a step
  · refine (walk1_bad F n h60 hro l Bn Bs Bt a step hb W d1 d2).mono ?_
    rintro e W' ⟨hv, rfl⟩
    exact ⟨hv, .inl ⟨[], by simp [walkL, hb], h0⟩⟩
  · have hb' := hb
    unfold walkBad at hb'
    obtain ⟨m, rfl⟩ := Int.eq_ofNat_of_zero_le (show 0 ≤ a by omega)
    rw [walkL_nat hb] at hY ⊢
    exact walk1_in F n h60 h16 hro hn l Bn Bs Bt m start step (by omega) (by omega) (by omega) (by omega) J Jx (fun pre x W1 hJ hl => hY pre x W1 hJ (by simpa using hl)) W d1 d2 d3 h0

end Go.Proofs.Ytoeepfhkedfmiaa.Num
