/- The contracts of the reference's Join and Remove, and of slices.Delete of one place. -/
import Derived.Test.YtgahkcbkpnehfaaAppX
import Derived.Test.YtgahkcbkpnehfaaRefOne
import Derived.Lib.SliceRun
import Derived.Deep.RegionHeld3
import Derived.WalkMore
namespace Go.Esc
open Go.RowKit
theorem take1 (l : List Int) (k : Nat) (h : k < l.length) : l.take (k + 1) = l.take k ++ [l[k]?.getD 0] := by
  rw [List.take_succ_eq_append_getElem h]; simp [h]
/-- A cell behind the row's end turns. -/
theorem OwnI.beyond {w : World} {base g n cap : Nat} {l : List Int} (h : OwnI w base (.slice (some ⟨g, 0, none⟩) n cap) l) (i : Nat) (hi : n ≤ i) (u : Value) : OwnI (w.setCell ⟨g, i, none⟩ u) base (.slice (some ⟨g, 0, none⟩) n cap) l := by
  obtain ⟨h1, ⟨hv, _⟩ | ⟨g', cap', cur, hv, hb, hg, hn, hm, hs, ht⟩⟩ := h
  · simp at hv
  · simp only [Value.slice.injEq, Option.some.injEq, Addr.mk.injEq] at hv
    obtain ⟨⟨rfl, _⟩, rfl, rfl⟩ := hv
    refine ⟨h1, .inr ⟨g, cap, cur.setIfInBounds i u, rfl, hb, Blk.set (t := 3) hg i u, hn, hm, by simpa using hs, ?_⟩⟩
    rw [← ht, Nat.mul_one]
    apply List.ext_getElem?
    intro j
    by_cases hj : j < l.length
    · rw [List.getElem?_take_of_lt hj, List.getElem?_take_of_lt hj]
      simp only [Array.getElem?_toList]
      rw [Array.getElem?_setIfInBounds]
      simp [show ¬ i = j by omega]
    · rw [List.getElem?_eq_none (by simp; omega), List.getElem?_eq_none (by simp; omega)]
theorem OwnI.room {w : World} {base g n cap : Nat} {l : List Int} (h : OwnI w base (.slice (some ⟨g, 0, none⟩) n cap) l) (i : Nat) (hi : i < cap) : (w.cell? ⟨g, i, none⟩).isSome = true ∧ w.frozen? ⟨g, i, none⟩ = false ∧ n = l.length ∧ n ≤ cap := by
  obtain ⟨h1, ⟨hv, _⟩ | ⟨g', cap', cur, hv, hb, hg, hn, hm, hs, ht⟩⟩ := h
  · simp at hv
  · simp only [Value.slice.injEq, Option.some.injEq, Addr.mk.injEq] at hv
    obtain ⟨⟨rfl, _⟩, rfl, rfl⟩ := hv
    have hb : Blk w g cur 3 := hg
    refine ⟨?_, hb.free i, rfl, hn⟩
    rw [hb.cell]
    simp [show i < cur.size by omega]
section
variable {P : Program} {t : TypeId} (ht : P.underlying t = some (.slice 3)) (hinfo : (P.info? 3).map (fun i => (i.zero, i.size, i.bytes)) = some (some (.int .i64 0), 1, 8))
include ht hinfo
/-- An append for which there is room, as a step of a region that draws its order. -/
theorem stepFits (base : Nat) (W : World) {ops : Array Oper} {o : Oper} {a : Act} {K : Act → World → Prop} {Q : Exit → Act → World → Prop} {E : Prop} (hgd : o.guard = none) (s y : Operand)
    (ho : o.op = .call { callee := .builtin .append, args := #[s, y], argTypes := #[t, t] }) (g cap : Nat) (l : List Int) (ad : Addr) (c : Nat) (m : List Int) (n1 n2 n3 : Nat) (hn1 : l.length = n1) (hn2 : m.length = n2) (hn3 : n1 + n2 = n3) (hs : a.eval s = .slice (some ⟨g, 0, none⟩) n1 cap) (hy : a.eval y = .slice (some ad) n2 c)
    (hown : OwnI W base (.slice (some ⟨g, 0, none⟩) n1 cap) l) (hu : Slw W (.slice (some ad) n2 c) m) (hroom : n3 ≤ cap)
    (h : ∀ w', OwnI w' base (.slice (some ⟨g, 0, none⟩) n3 cap) (l ++ m) → W.grownBy w' (some g) → K (a.put o.dst (.slice (some ⟨g, 0, none⟩) n3 cap)) w') :
    if Region.wanted o (yielded ops a.tmps) = true then Oper.wp P o a W K Q else E := by
  subst hn1 hn2 hn3
  have hw : Region.wanted o (yielded ops a.tmps) = true := by simp [Region.wanted, hgd]
  rw [if_pos hw]
  obtain ⟨i0, hi, hz0, hz1, hz2⟩ := info_parts hinfo
  have hown0 : W.ownsRow base 3 1 (.slice (some ⟨g, 0, none⟩) l.length cap) l.length (l.map (Value.int .i64)) := hown
  have hnews : ∀ (j : Nat) (x : Value), (m.map (Value.int .i64))[j]? = some x → W.cell? (ad.add j) = some x := by
    intro j x hj
    rw [List.getElem?_map] at hj
    obtain ⟨z, hz, rfl⟩ := Option.map_eq_some_iff.1 hj
    have hjl : j < m.length := (List.getElem?_eq_some_iff.1 hz).1
    rcases hu.open with ⟨h0, _⟩ | ⟨_, _, _, h0⟩ | ⟨b, off, cap', he, _, _, _, hc⟩
    · simp at h0
    · simp [h0] at hjl
    · simp only [Value.slice.injEq, Option.some.injEq] at he
      obtain ⟨rfl, _, _⟩ := he
      rw [Go.WideShapes.add_plain, hc j hjl, hz]
      rfl
  have hone : ∀ x ∈ m.map (Value.int .i64), x.oneCell' = true := by simp [Value.oneCell']
  obtain ⟨w', hr, h1, h2⟩ := run_append_fits (P := P) W base t o.type 3 i0 1 ht hi hz1 g l.length cap _ hown0 ad m.length c _ (by simp) hnews hone hroom
  unfold Oper.wp
  simp [execOp, ho, resolve, invoke, builtin, hs, hy, hr, Result.andThen]
  exact h w' (by unfold OwnI; simpa using h1) h2
omit hinfo in
/-- clear(s) of one place, as a law of the walk. -/
theorem wpClear (W : World) {ops : Array Oper} {rest : List Oper} {o : Oper} {a : Act} {Q : Exit → Act → World → Prop} (hgd : o.guard = none) (s : Operand)
    (ho : o.op = .call { callee := .builtin .clear, args := #[s], argTypes := #[t] }) (g i c n : Nat) (hn : n = 1) (hs : a.eval s = .slice (some ⟨g, i, none⟩) n c) (hz : ∀ w, (zeroValue 3).run P w = .ok (.int .i64 0) w)
    (h1 : (W.cell? ⟨g, i, none⟩).isSome = true) (h2 : W.frozen? ⟨g, i, none⟩ = false) (h : wpList P ops Q rest (a.put o.dst (.tuple #[])) (W.setCell ⟨g, i, none⟩ (.int .i64 0))) : wpList P ops Q (o :: rest) a W := by
  subst hn
  refine wpList_plain hgd fun K hK => ?_
  have hr := fun ty => Lib.run_clear_slice (P := P) W t 3 ty (.int .i64 0) ht hz rfl rfl g i 1 c (by omega) (by intro j hj; obtain rfl : j = 0 := (by omega); simpa using h1) (by intro j hj; obtain rfl : j = 0 := (by omega); simpa using h2)
  unfold Oper.wp
  simp [execOp, ho, resolve, invoke, builtin, hs, hr, Result.andThen]
  exact hK _ _ h
end
end Go.Esc
namespace Go.Proofs.Ytgahkcbkpnehfaa.Ref
open Go.RowKit Go.Esc
set_option linter.unusedVariables false

theorem info3 : (Try.prog.info? 3).map (fun i => (i.zero, i.size, i.bytes)) = some (some (.int .i64 0), 1, 8) := by kernel_rfl
def LPost (L : List Int) (w : World) (e : Ending) (w' : World) : Prop := ∃ v, e = .returned v ∧ OwnI w' w.heap.size v L ∧ Below w.heap.size w w'

set_option maxRecDepth 100000 in
set_option maxHeartbeats 2000000 in
theorem join_any (v : Value) (l : List Int) (u : Value) (m : List Int) (w : World) (hv : Slw w v l) (hu : Slw w u m) (hl : l.length + m.length < 10000000) : Calls Try.prog 48 #[v, u] w (LPost (l ++ m) w) := by
  obtain ⟨a, cap, rfl⟩ := hv.len
  obtain ⟨a2, cap2, rfl⟩ := hu.len
  have HV := Lib.hid hv
  have HU := Lib.hid hu
  clear hv hu
  go_enter Try.func48, Try.ntmps48
  go_wp2
  go_loopw [5, 6] (fun t i wr => ∃ k : Nat, k ≤ l.length ∧ i = .int .i64 k ∧ OwnI wr w.heap.size t (l.take k) ∧ Below w.heap.size w wr) (fun _ i _ => l.length - (intOf i).toNat)
  case atStart => exact ⟨0, Nat.zero_le _, rfl, by simpa using OwnI.nil _ _, Below.refl _ _⟩
  case round =>
    obtain ⟨k, hk, rfl, hown, hB⟩ := hrel
    have hBs := hB.size
    by_cases hlt : k < l.length
    · have hs := HV.out.below hB
      rcases hs.open with ⟨_, h0⟩ | ⟨_, _, _, h0⟩ | ⟨bu, off, cap', he, _, _, hbu, hcells⟩
      · simp [h0] at hlt
      · simp [h0] at hlt
      simp only [Value.slice.injEq] at he
      obtain ⟨rfl, _, rfl⟩ := he
      have cu := hcells k hlt
      have HT := Lib.hid (take1 l k hlt)
      have hlen : (l.take k).length + [l[k]?.getD 0].length < 100000000 := by simp; omega
      have HLen := Lib.hid hlen
      generalize l[k]?.getD 0 = x at *
      generalize l.take k = l1 at *
      have HO := Lib.hid hown
      have HB := Lib.hid hB
      clear hcells hs hown hB hlen
      go_wp2_with (at_builtin; refine appX Try.underlying25 info3 w.heap.size _ rfl _ _ rfl _ _ _ [x] rfl rfl (HO.out.alloc _) (Slw.new1 wr x) (by simp; omega) HLen.out ?_; intro v' w2 hA)
      go_roundw
      case rel => exact ⟨k + 1, by omega, by go_num, by rw [HT.out]; exact hA.1, below_grown (below_alloc HB.out _) hA.2.1 (fun j hj => (HO.out.lt j hj).1)⟩
      case measure => simp [intOf]; omega
    · obtain rfl : k = l.length := by omega
      rw [List.take_length] at hown
      have HO : Hid (OwnI wr w.heap.size u5 (l ++ m.take 0)) := by show OwnI wr w.heap.size u5 (l ++ m.take 0); simpa using hown
      have HB := Lib.hid hB
      clear hown hB
      go_wp2
      go_loopw [5, 7] (fun t i wq => ∃ k : Nat, k ≤ m.length ∧ i = .int .i64 k ∧ OwnI wq w.heap.size t (l ++ m.take k) ∧ Below w.heap.size w wq) (fun _ i _ => m.length - (intOf i).toNat)
      case atStart => exact ⟨0, Nat.zero_le _, rfl, HO.out, HB.out⟩
      case round =>
        clear HO HB hBs
        obtain ⟨k, hk, rfl, hown, hB⟩ := hrel
        have hBs := hB.size
        by_cases hlt : k < m.length
        · have hs := HU.out.below hB
          rcases hs.open with ⟨_, h0⟩ | ⟨_, _, _, h0⟩ | ⟨bu, off, cap', he, _, _, hbu, hcells⟩
          · simp [h0] at hlt
          · simp [h0] at hlt
          simp only [Value.slice.injEq] at he
          obtain ⟨rfl, _, rfl⟩ := he
          have cu := hcells k hlt
          have HT := Lib.hid (take1 m k hlt)
          have hlen : (l ++ m.take k).length + [m[k]?.getD 0].length < 100000000 := by simp; omega
          have HLen := Lib.hid hlen
          generalize m[k]?.getD 0 = x at *
          obtain ⟨l1, HL1⟩ : ∃ l1, Hid (l ++ m.take k = l1) := ⟨_, rfl⟩
          rw [HL1.out] at hown HLen
          have HO := Lib.hid hown
          have HB := Lib.hid hB
          clear hcells hs hown hB hlen
          go_wp2_with (at_builtin; refine appX Try.underlying25 info3 w.heap.size _ rfl _ _ rfl _ _ _ [x] rfl rfl (HO.out.alloc _) (Slw.new1 _ x) (by simp; omega) HLen.out ?_; intro v' w2 hA)
          go_roundw
          case rel => exact ⟨k + 1, by omega, by go_num, by rw [HT.out, ← List.append_assoc, HL1.out]; exact hA.1, below_grown (below_alloc HB.out _) hA.2.1 (fun j hj => (HO.out.lt j hj).1)⟩
          case measure => simp [intOf]; omega
        · obtain rfl : k = m.length := by omega
          rw [List.take_length] at hown
          have HO := Lib.hid hown
          have HB := Lib.hid hB
          clear hown hB
          go_wp2
          go_ret
          exact ⟨_, rfl, HO.out, HB.out⟩

/-- Where the first one lies that is g. -/
theorem idx_first (l : List Int) (g : Int) (k : Nat) (hk : k < l.length) (he : l[k]?.getD 0 = g) (hb : ∀ i, i < k → l[i]?.getD 0 ≠ g) : l.erase g = l.take k ++ l.drop (k + 1) ∧ g ∈ l := by
  induction l generalizing k with
  | nil => simp at hk
  | cons x l ih =>
    cases k with
    | zero => simp at he; subst he; simp
    | succ k =>
      have h0 := hb 0 (by omega)
      simp at h0
      have h1 := ih k (by simpa using hk) (by simpa using he) (fun i hi => by have := hb (i + 1) (by omega); simpa using this)
      rw [List.erase_cons_tail (by simpa using h0), h1.1]
      exact ⟨by simp, List.mem_cons_of_mem _ h1.2⟩
theorem idx_none (l : List Int) (g : Int) (hb : ∀ i, i < l.length → l[i]?.getD 0 ≠ g) : l.erase g = l ∧ g ∉ l := by
  have : g ∉ l := fun h => by
    obtain ⟨i, hi, e⟩ := List.mem_iff_getElem.1 h
    exact hb i hi (by simp [hi, e])
  exact ⟨List.erase_of_not_mem this, this⟩

theorem zero3 (w : World) : (zeroValue 3).run Try.prog w = .ok (.int .i64 0) w := by kernel_rfl

def DelPost (base g : Nat) (L : List Int) (w : World) (e : Ending) (w' : World) : Prop := ∃ v, e = .returned v ∧ OwnI w' base v L ∧ v.ownBlock = some g ∧ w.grownBy w' (some g)

set_option maxRecDepth 100000 in
set_option maxHeartbeats 2000000 in
theorem delete_at (g cap base i p : Nat) (l : List Int) (w : World) (h : OwnI w base (.slice (some ⟨g, 0, none⟩) (p + 1) cap) l) (hi : i ≤ p) (hl : p < 10000000) :
    Calls Try.prog 66 #[.slice (some ⟨g, 0, none⟩) (p + 1) cap, .int .i64 i, .int .i64 ((i : Int) + 1)] w (DelPost base g (l.take i ++ l.drop (i + 1)) w) := by
  obtain ⟨hll, hcap⟩ : p + 1 = l.length ∧ p + 1 ≤ cap := by
    obtain ⟨a, c, he, hn, _⟩ := Slw.ofOwn h
    simp only [Value.slice.injEq] at he
    obtain ⟨_, h1, rfl⟩ := he
    omega
  have h1 := h.shrink i (by omega)
  have hl1 : (l.take i).length = i := by simp; omega
  have hl2 : (l.drop (i + 1)).length = p - i := by simp; omega
  obtain ⟨o', HE, hsl⟩ : ∃ o', Hid (o' = (if i + 1 = cap then 0 else i + 1)) ∧ Slw w (.slice (some ⟨g, o', none⟩) (p - i) (cap - (i + 1))) (l.drop (i + 1)) := by
    by_cases hc : i + 1 = cap
    · refine ⟨0, by show _ = _; rw [if_pos hc], ?_⟩
      have e1 : p - i = 0 := by omega
      have e2 : l.drop (i + 1) = [] := List.drop_eq_nil_of_le (by omega)
      rw [e1, e2]
      exact Slw.none0 _ _ _
    · have h0 := Slw.ofOwn h
      rw [hll] at h0
      have := h0.drop (n := p - i) (cap' := cap - (i + 1)) (i + 1) (by omega) (by omega) (by omega)
      rw [Nat.zero_add] at this
      exact ⟨i + 1, by show _ = _; rw [if_neg hc], this⟩
  have HS := Lib.hid hsl
  have HO := Lib.hid h1
  have HL1 := Lib.hid hl1
  have HL2 := Lib.hid hl2
  have HL3 : Hid (i + (p - i) = p) := by show _ = _; omega
  clear h h1 hsl hl1 hl2 hll
  generalize l.take i = l1 at *
  generalize l.drop (i + 1) = l2 at *
  have hii : ((i : Int) == (i : Int) + 1) = false := by rw [beq_eq_false_iff_ne]; omega
  have hil : (i : Int) ≤ (p : Int) := by omega
  have hic : (i : Int) + 1 ≤ (cap : Int) := by omega
  have hlc : (p : Int) + 1 ≤ (cap : Int) := by omega
  have hpc : (p : Int) ≤ (cap : Int) := by omega
  have hpcap : p ≤ cap := by omega
  have hq1 : (i : Int) ≤ (i : Int) + 1 := by omega
  have hq2 : i ≤ cap := by omega
  have hq3 : (i : Int) + 1 ≤ (p : Int) + 1 := by omega
  have hq4 : (0 : Int) ≤ (i : Int) + 1 := by omega
  have hq5 : ((i : Int) + 1).toNat = i + 1 := by omega
  by_cases hc : i + 1 = cap
  · obtain rfl : 0 = o' := by have := HE.out; rw [if_pos hc] at this; exact this.symm
    obtain rfl : i = p := by omega
    subst hc
    clear HE
    rw [Nat.sub_self] at HS HL2 HL3
    rw [Nat.sub_self] at HS
    go_enter Try.func66, Try.ntmps66
    go_wp2_with fail
    go_region_law (refine stepFits Try.underlying25 info3 base _ rfl (.tmp 22) (.tmp 25) rfl g (i + 1) l1 ⟨g, 0, none⟩ 0 l2 i 0 i HL1.out HL2.out HL3.out (by kernel_rfl) (by kernel_rfl) HO.out HS.out hpcap ?_; intro w2 hO2 hG2; have HO2 := Lib.hid hO2; have HG2 := Lib.hid hG2; clear hO2 hG2)
    all_goals
      obtain ⟨r1, r2, r3⟩ := HO2.out.room i (by omega)
      clear r3
      have hclr := Lib.run_clear_slice (P := Try.prog) w2 25 3 0 (.int .i64 0) Try.underlying25 zero3 rfl rfl g i 1 1 (by omega) (by intro j hj; obtain rfl : j = 0 := (by omega); simpa using r1) (by intro j hj; obtain rfl : j = 0 := (by omega); simpa using r2)
      rw [show w2.setCells g i (List.replicate 1 (.int .i64 0)) = w2.setCell ⟨g, i, none⟩ (.int .i64 0) from rfl] at hclr
      clear r1 r2 hq5
      go_wp2
      go_ret
      exact ⟨_, rfl, HO2.out.beyond i (Nat.le_refl _) _, rfl, (show w.grownBy w2 (some g) from ⟨HG2.out.os, HG2.out.tape, HG2.out.output, HG2.out.size, HG2.out.block⟩).trans (grown_set w2 g i _)⟩
  · obtain rfl : i + 1 = o' := by have := HE.out; rw [if_neg hc] at this; exact this.symm
    clear HE
    have hci : ¬ cap = i + 1 := by omega
    go_enter Try.func66, Try.ntmps66
    go_wp2_with fail
    go_region_law (refine stepFits Try.underlying25 info3 base _ rfl (.tmp 22) (.tmp 25) rfl g cap l1 ⟨g, i + 1, none⟩ (cap - (i + 1)) l2 i (p - i) p HL1.out HL2.out HL3.out (by kernel_rfl) (by kernel_rfl) HO.out HS.out hpcap ?_; intro w2 hO2 hG2; have HO2 := Lib.hid hO2; have HG2 := Lib.hid hG2; clear hO2 hG2)
    all_goals
      obtain ⟨r1, r2, r3⟩ := HO2.out.room p (by omega)
      clear r3
      have hclr := Lib.run_clear_slice (P := Try.prog) w2 25 3 0 (.int .i64 0) Try.underlying25 zero3 rfl rfl g p 1 (cap - p) (by omega) (by intro j hj; obtain rfl : j = 0 := (by omega); simpa using r1) (by intro j hj; obtain rfl : j = 0 := (by omega); simpa using r2)
      rw [show w2.setCells g p (List.replicate 1 (.int .i64 0)) = w2.setCell ⟨g, p, none⟩ (.int .i64 0) from rfl] at hclr
      clear r1 r2 hq5
      go_wp2
      go_ret
      exact ⟨_, rfl, HO2.out.beyond p (Nat.le_refl _) _, rfl, (show w.grownBy w2 (some g) from ⟨HG2.out.os, HG2.out.tape, HG2.out.output, HG2.out.size, HG2.out.block⟩).trans (grown_set w2 g p _)⟩

/-- What Remove leaves: the list without the first such one, and whether there was one. -/
def RemPost (u : Value) (l : List Int) (g : Int) (w : World) (e : Ending) (w' : World) : Prop :=
  ∃ v, e = .returned (.tuple #[v, .bool (decide (g ∈ l))]) ∧ Slw w' v (l.erase g) ∧ Below w.heap.size w w' ∧ (∀ j, v.ownBlock = some j → u.ownBlock = some j ∨ w.heap.size ≤ j) ∧ ∀ j, v.ownBlock = some j → u.ownBlock = some j ∨ j < w'.heap.size

set_option maxRecDepth 100000 in
set_option maxHeartbeats 2000000 in
theorem remove_any (u : Value) (l : List Int) (g : Int) (w : World) (hu : Slw w u l) (hl : l.length < 1000000) : Calls Try.prog 63 #[u, .int .i64 g] w (RemPost u l g w) := by
  obtain ⟨a, cap, rfl⟩ := hu.len
  have HU := Lib.hid hu
  clear hu
  go_enter Try.func63, Try.ntmps63
  go_wp2
  go_loop [6] (fun i => ∃ k : Nat, k ≤ l.length ∧ i = .int .i64 k ∧ Hid (∀ i, i < k → l[i]?.getD 0 ≠ g)) (fun i => l.length - (intOf i).toNat)
  case atStart => exact ⟨0, Nat.zero_le _, rfl, fun i hi => by omega⟩
  case round =>
    obtain ⟨k, hk, rfl, HF⟩ := hrel
    by_cases hlt : k < l.length
    · rcases HU.out.open with ⟨_, h0⟩ | ⟨_, _, _, h0⟩ | ⟨bu, o, cap', he, _, hcap, hbu, hcells⟩
      · simp [h0] at hlt
      · simp [h0] at hlt
      simp only [Value.slice.injEq] at he
      obtain ⟨rfl, _, rfl⟩ := he
      have cu := hcells k hlt
      clear hcells
      by_cases hx : l[k]?.getD 0 = g
      · obtain ⟨he1, he2⟩ := idx_first l g k hlt hx HF.out
        have HE1 := Lib.hid he1
        have HE2 : Hid (decide (g ∈ l) = true) := by show _ = _; simpa using he2
        rw [hx] at cu
        have hgg : (g == g) = true := by simp
        have HS1 := Lib.hid (HU.out.take k hk)
        obtain ⟨n, hn⟩ : ∃ n, l.length = n := ⟨_, rfl⟩
        obtain ⟨o', HO', hsl⟩ : ∃ o', Hid (o' = (if k + 1 = cap then o else o + (k + 1))) ∧ Slw w (.slice (some ⟨bu, o', none⟩) (n - (k + 1)) (cap - (k + 1))) (l.drop (k + 1)) := by
          by_cases hc : k + 1 = cap
          · refine ⟨o, by show _ = _; rw [if_pos hc], ?_⟩
            have e1 : n - (k + 1) = 0 := by omega
            have e2 : l.drop (k + 1) = [] := List.drop_eq_nil_of_le (by omega)
            rw [e1, e2]
            exact Slw.none0 _ _ _
          · refine ⟨o + (k + 1), by show _ = _; rw [if_neg hc], ?_⟩
            exact HU.out.drop (k + 1) (by omega) (by rw [hn]) (by omega)
        have HS2 := Lib.hid hsl
        have hlen : (l.take k).length + (l.drop (k + 1)).length < 10000000 := by simp; omega
        have HLen := Lib.hid hlen
        have HJ := Lib.hid (join_any (.slice (some ⟨bu, o, none⟩) k cap) (l.take k) (.slice (some ⟨bu, o', none⟩) (n - (k + 1)) (cap - (k + 1))) (l.drop (k + 1)) w.drew HS1.out.drew hsl.drew hlen)
        have hb1 : n < 1000000 := by omega
        have hb2 : k < n := by omega
        have hb3 : n ≤ cap := by omega
        rw [hn] at *
        clear he1 he2 hx hsl hlen hn HF HU hk hlt
        have q1 : (k : Int) ≤ (n : Int) := by omega
        have q2 : (k : Int) ≤ (cap : Int) := by omega
        have q3 : (k : Int) + 1 ≤ (n : Int) := by omega
        have q4 : (k : Int) + 1 ≤ (cap : Int) := by omega
        have q5 : (0 : Int) ≤ (k : Int) + 1 := by omega
        have q6 : ((k : Int) + 1).toNat = k + 1 := by omega
        have q7 : k ≤ cap := by omega
        have q8 : IntKind.i64.wrap ((k : Int) + 1) = (k : Int) + 1 := IntWalk.i64_in _ (by omega)
        have q9 : k + 1 ≤ n := by omega
        by_cases hc : k + 1 = cap
        · obtain rfl : o = o' := by have := HO'.out; rw [if_pos hc] at this; exact this.symm
          have hc' : cap = k + 1 := hc.symm
          clear HO' hc
          subst hc'
          rw [Nat.sub_self] at HJ HS2
          have e1 : n = k + 1 := by omega
          subst e1
          rw [Nat.sub_self] at HJ HS2
          go_wp2_with fail
          go_region_with (go_at_call 48; refine HJ.out.mono ?_; rintro e w2 ⟨v2, rfl, ho2, hb2⟩; have HO2 := Lib.hid ho2; have HB2 : Hid (Below w.heap.size w w2) := ⟨hb2.os, hb2.tape, hb2.output, hb2.size, hb2.block⟩; clear ho2 hb2)
          all_goals
            clear q6 q8
            go_wp2
            go_ret2
            exact ⟨v2, by rw [HE2.out]; rfl, by rw [HE1.out]; exact Slw.ofOwn HO2.out, HB2.out, fun j hj => .inr (HO2.out.lt j hj).1, fun j hj => .inr (HO2.out.lt j hj).2⟩
        · obtain rfl : o + (k + 1) = o' := by have := HO'.out; rw [if_neg hc] at this; exact this.symm
          have hc' : ¬ cap = k + 1 := fun e => hc e.symm
          clear HO' hc
          go_wp2_with fail
          go_region_with (go_at_call 48; refine HJ.out.mono ?_; rintro e w2 ⟨v2, rfl, ho2, hb2⟩; have HO2 := Lib.hid ho2; have HB2 : Hid (Below w.heap.size w w2) := ⟨hb2.os, hb2.tape, hb2.output, hb2.size, hb2.block⟩; clear ho2 hb2)
          all_goals
            clear q6 q8
            go_wp2
            go_ret2
            exact ⟨v2, by rw [HE2.out]; rfl, by rw [HE1.out]; exact Slw.ofOwn HO2.out, HB2.out, fun j hj => .inr (HO2.out.lt j hj).1, fun j hj => .inr (HO2.out.lt j hj).2⟩
      · have hxb : (l[k]?.getD 0 == g) = false := by rw [beq_eq_false_iff_ne]; exact hx
        have HN : Hid (∀ i, i < k + 1 → l[i]?.getD 0 ≠ g) := fun i hi => by
          by_cases e : i = k
          · subst e; exact hx
          · exact HF.out i (by omega)
        generalize l[k]?.getD 0 = y at *
        go_wp2
        go_round
        case rel => exact ⟨k + 1, by omega, by go_num, HN.out⟩
        case measure => simp [intOf]; omega
    · obtain rfl : k = l.length := by omega
      obtain ⟨he1, he2⟩ := idx_none l g HF.out
      have HE1 := Lib.hid he1
      have HE2 : Hid (decide (g ∈ l) = false) := by show _ = _; simpa using he2
      clear he1 he2
      go_wp2
      go_ret2
      exact ⟨.slice a l.length cap, by rw [HE2.out]; rfl, by rw [HE1.out]; exact HU.out, Below.refl _ _, fun j hj => .inl hj, fun j hj => .inl hj⟩
end Go.Proofs.Ytgahkcbkpnehfaa.Ref
