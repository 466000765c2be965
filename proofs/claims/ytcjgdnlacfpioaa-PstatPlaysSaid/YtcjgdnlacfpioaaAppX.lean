/- 'append' on a row of ints of one's own, with the block of the outcome: the old one, or a new one. Nothing of a program in sight. -/
import Derived.Test.YtcjgdnlacfpioaaSlw
import Derived.ArgAppend
import Derived.Laws.OwnMore
import Derived.Deep.RegionLaw
namespace Go.Esc
open Go.RowKit

section
variable {P : Program} {t : TypeId} (ht : P.underlying t = some (.slice 3)) (hinfo : (P.info? 3).map (fun i => (i.zero, i.size, i.bytes)) = some (some (.int .i64 0), 1, 8))
include ht hinfo

/-- The outcome of an append of m to l: v' in w'. -/
def Appd (W : World) (base : Nat) (v : Value) (l m : List Int) (v' : Value) (w' : World) : Prop :=
  OwnI w' base v' (l ++ m) ∧ W.grownBy w' v.ownBlock ∧ ∀ j, v'.ownBlock = some j → v.ownBlock = some j ∨ W.heap.size ≤ j

theorem run_appX (base : Nat) (W : World) (ty : TypeId) (v : Value) (l : List Int) (u : Value) (m : List Int) (hown : OwnI W base v l) (hu : Slw W u m) (hbase : base ≤ W.heap.size) (hlen : l.length + m.length < 100000000) :
    ∃ v' w', (Builtin.append_ #[t, t] ty #[v, u]).run P W = .ok v' w' ∧ Appd W base v l m v' w' := by
  obtain ⟨i0, hi, hz0, hz1, hz2⟩ := info_parts hinfo
  have hown0 : W.ownsRow base 3 1 v l.length (l.map (Value.int .i64)) := hown
  by_cases hm : u = .slice none 0 0
  · subst hm
    have : m = [] := by
      obtain ⟨a, cap, h, _⟩ := hu
      simp only [Value.slice.injEq] at h
      exact List.length_eq_zero_iff.1 h.2.1.symm
    subst this
    refine ⟨v, W, run_append_owned_none (P := P) (w := W) base t ty 3 i0 1 ht hi v l.length _ hown0, by simpa using hown, grown_refl _ _, fun j h => .inl h⟩
  · obtain ⟨ad, c, rfl, hnews⟩ : ∃ ad c, u = .slice (some ad) m.length c ∧ ∀ (j : Nat) (x : Value), (m.map (Value.int .i64))[j]? = some x → W.cell? (ad.add j) = some x := by
      rcases hu.open with ⟨h, _⟩ | ⟨ad, cap, rfl, rfl⟩ | ⟨b, off, cap, rfl, _, _, _, hc⟩
      · exact absurd h hm
      · exact ⟨ad, cap, rfl, by simp⟩
      · refine ⟨_, cap, rfl, fun j x hj => ?_⟩
        rw [List.getElem?_map] at hj
        obtain ⟨z, hz, rfl⟩ := Option.map_eq_some_iff.1 hj
        have hjl : j < m.length := (List.getElem?_eq_some_iff.1 hz).1
        rw [Go.WideShapes.add_plain, hc j hjl, hz]
        rfl
    have hone : ∀ x ∈ m.map (Value.int .i64), x.oneCell' = true := by simp [Value.oneCell']
    rcases hown.open with ⟨rfl, rfl⟩ | ⟨g, cap, rfl, hbg, hg, hcap, hcells⟩
    · obtain ⟨v', w', hr, h1, h2, _⟩ := run_append_own (P := P) W W.heap.size t ty 3 i0 (.int .i64 0) 1 8 ht hi hz0 hz1 hz2 rfl (by decide) (.slice none 0 0) 0 [] (World.ownsRow_nil W _ 3 1) ad m.length c _ (by simp) hnews hone (by unfold maxLen; omega) (by omega) (Nat.le_refl _)
      have h1' : OwnI w' W.heap.size v' ([] ++ m) := by unfold OwnI; simpa using h1
      exact ⟨v', w', hr, h1'.mono hbase, h2, fun j hj => .inr (h1'.lt j hj).1⟩
    · by_cases hroom : l.length + m.length ≤ cap
      · obtain ⟨w', hr, h1, h2⟩ := run_append_fits (P := P) W base t ty 3 i0 1 ht hi hz1 g l.length cap _ hown0 ad m.length c _ (by simp) hnews hone hroom
        exact ⟨_, w', hr, by unfold OwnI; simpa using h1, h2, fun j hj => .inl hj⟩
      · obtain ⟨v', w', hr, h1, h2⟩ := run_append_arg_grows (P := P) W t ty 3 i0 (.int .i64 0) 1 8 ht hi hz0 hz1 hz2 rfl (by decide) ⟨g, 0, none⟩ l.length cap (l.map (Value.int .i64)) (by simp) (fun j x hj => by
            rw [List.getElem?_map] at hj
            obtain ⟨z, hz, rfl⟩ := Option.map_eq_some_iff.1 hj
            have hjl : j < l.length := (List.getElem?_eq_some_iff.1 hz).1
            rw [Go.WideShapes.add_plain, Nat.zero_add, hcells j hjl, hz]
            rfl) ad m.length c _ (by simp) hnews (by omega) (by unfold maxLen; omega) (by omega)
        have h1' : OwnI w' W.heap.size v' (l ++ m) := by unfold OwnI; simpa using h1
        exact ⟨v', w', hr, h1'.mono hbase, ⟨h2.os, h2.tape, h2.output, h2.size, fun k hk _ => h2.block k hk (by simp)⟩, fun j hj => .inr (h1'.lt j hj).1⟩

theorem appX (base : Nat) (W : World) {ops : Array Oper} {rest : List Oper} {o : Oper} {a : Act} {Q : Exit → Act → World → Prop} (hgd : o.guard = none) (s y : Operand)
    (ho : o.op = .call { callee := .builtin .append, args := #[s, y], argTypes := #[t, t] }) (v : Value) (l : List Int) (u : Value) (m : List Int) (hs : a.eval s = v) (hy : a.eval y = u)
    (hown : OwnI W base v l) (hu : Slw W u m) (hbase : base ≤ W.heap.size) (hlen : l.length + m.length < 100000000)
    (h : ∀ v' w', Appd W base v l m v' w' → wpList P ops Q rest (a.put o.dst v') w') :
    wpList P ops Q (o :: rest) a W := by
  refine wpList_plain hgd fun K hK => ?_
  obtain ⟨v', w', hr, hA⟩ := run_appX ht hinfo base W o.type v l u m hown hu hbase hlen
  unfold Oper.wp
  simp [execOp, ho, resolve, invoke, builtin, hs, hy, hr, Result.andThen]
  exact hK _ _ (h v' w' hA)

/-- The same as one step of a region that draws its order. -/
theorem stepX (base : Nat) (W : World) {ops : Array Oper} {o : Oper} {a : Act} {K : Act → World → Prop} {Q : Exit → Act → World → Prop} {E : Prop} (hgd : o.guard = none) (s y : Operand)
    (ho : o.op = .call { callee := .builtin .append, args := #[s, y], argTypes := #[t, t] }) (v : Value) (l : List Int) (u : Value) (m : List Int) (hs : a.eval s = v) (hy : a.eval y = u)
    (hown : OwnI W base v l) (hu : Slw W u m) (hbase : base ≤ W.heap.size) (hlen : l.length + m.length < 100000000)
    (h : ∀ v' w', Appd W base v l m v' w' → K (a.put o.dst v') w') :
    if Region.wanted o (yielded ops a.tmps) = true then Oper.wp P o a W K Q else E := by
  have hw : Region.wanted o (yielded ops a.tmps) = true := by simp [Region.wanted, hgd]
  rw [if_pos hw]
  obtain ⟨v', w', hr, hA⟩ := run_appX ht hinfo base W o.type v l u m hown hu hbase hlen
  unfold Oper.wp
  simp [execOp, ho, resolve, invoke, builtin, hs, hy, hr, Result.andThen]
  exact h v' w' hA
end

theorem Slw.new1 (w : World) (x : Int) : Slw (w.alloc (.cells #[.int .i64 x] 3)) (.slice (some ⟨w.heap.size, 0, none⟩) 1 1) [x] := Slw.new w [x] (by simp [maxLen])
theorem OwnI.alloc {w : World} {base : Nat} {v : Value} {l : List Int} (h : OwnI w base v l) (o : Obj) : OwnI (w.alloc o) base v l := h.below (below_alloc (Below.refl _ _) o)
theorem OwnI.new {w : World} {l : List Int} (h : l.length ≤ maxLen) : OwnI (w.alloc (.cells (l.map (Value.int .i64)).toArray 3)) w.heap.size (.slice (some ⟨w.heap.size, 0, none⟩) l.length l.length) l :=
  ⟨by simp, .inr ⟨w.heap.size, l.length, _, rfl, Nat.le_refl _, Blk.new w _ 3, Nat.le_refl _, h, by simp, by rw [Nat.mul_one]; exact List.take_of_length_le (by simp)⟩⟩
/-- An outcome that has one element at least is written out. -/
theorem Appd.some {W w' : World} {base : Nat} {v v' : Value} {l : List Int} {x : Int} (h : Appd W base v l [x] v' w') : ∃ g cap, v' = .slice (some ⟨g, 0, none⟩) (l.length + 1) cap := by
  rcases h.1.open with ⟨_, h0⟩ | ⟨g, cap, h0, _⟩
  · simp at h0
  · exact ⟨g, cap, by rw [h0]; simp⟩
end Go.Esc
