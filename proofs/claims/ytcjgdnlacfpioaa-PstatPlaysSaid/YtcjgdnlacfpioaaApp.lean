/- 'out = append(out, x)' and 'out = append(out, l...)' on a row of ints of one's own, as laws of the walk. Nothing of a program in sight. -/
import Derived.Test.YtcjgdnlacfpioaaSlc
import Derived.OwnWalk
import Derived.RangeFuncBox
namespace Go.Esc
open Go.RowKit

section
variable {P : Program} {t : TypeId} (ht : P.underlying t = some (.slice 3)) (hinfo : (P.info? 3).map (fun i => (i.zero, i.size, i.bytes)) = some (some (.int .i64 0), 1, 8))
include ht hinfo

theorem app1 (base : Nat) (W : World) (x : Int) {ops : Array Oper} {rest : List Oper} {o : Oper} {a : Act} {Q : Exit → Act → World → Prop} (hgd : o.guard = none) (s y : Operand)
    (ho : o.op = .call { callee := .builtin .append, args := #[s, y], argTypes := #[t, t] }) (v : Value) (l : List Int) (hs : a.eval s = v) (hy : a.eval y = .slice (some ⟨W.heap.size, 0, none⟩) 1 1)
    (hown : OwnI W base v l) (hbase : base ≤ W.heap.size) (hlen : l.length < 100000000)
    (h : ∀ v' w', OwnI w' base v' (l ++ [x]) → W.grownBy w' v.ownBlock → (∃ g cap, v' = .slice (some ⟨g, 0, none⟩) (l.length + 1) cap) → wpList P ops Q rest (a.put o.dst v') w') :
    wpList P ops Q (o :: rest) a (W.alloc (.cells #[.int .i64 x] 3)) := by
  obtain ⟨i0, hi, hz0, hz1, hz2⟩ := info_parts hinfo
  have hown0 : W.ownsRow base 3 1 v l.length (l.map (Value.int .i64)) := hown
  refine wpList_append_own _ hgd s y t ho base 3 i0 (.int .i64 0) 1 8 ht hi hz0 hz1 hz2 rfl (by decide) v l.length _ hs (hown0.alloc _) ⟨W.heap.size, 0, none⟩ 1 1 [.int .i64 x] hy rfl (cell_one_new _ _ _) (by simp [Value.oneCell']) (by unfold maxLen; omega) (by omega) (by simp; omega) ?_
  intro v' w' h1 h2 _
  refine h v' w' (by unfold OwnI; simpa using h1) ?_ ?_
  · exact (World.grownBy_alloc W _ _).trans h2
  · obtain ⟨g, cap, rfl⟩ := ownsRow_succ h1
    exact ⟨g, cap, rfl⟩

/-- A whole list that can be read is appended. -/
theorem appL (base : Nat) (W : World) {ops : Array Oper} {rest : List Oper} {o : Oper} {a : Act} {Q : Exit → Act → World → Prop} (hgd : o.guard = none) (s y : Operand)
    (ho : o.op = .call { callee := .builtin .append, args := #[s, y], argTypes := #[t, t] }) (v : Value) (l : List Int) (u : Value) (m : List Int) (hs : a.eval s = v) (hy : a.eval y = u)
    (hown : OwnI W base v l) (hu : Sl W u m) (hm : m ≠ []) (hbase : base ≤ W.heap.size) (hlen : l.length + m.length < 100000000)
    (h : ∀ v' w', OwnI w' base v' (l ++ m) → W.grownBy w' v.ownBlock → wpList P ops Q rest (a.put o.dst v') w') :
    wpList P ops Q (o :: rest) a W := by
  obtain ⟨i0, hi, hz0, hz1, hz2⟩ := info_parts hinfo
  have hown0 : W.ownsRow base 3 1 v l.length (l.map (Value.int .i64)) := hown
  obtain ⟨ad, c, rfl, _, h0 | ⟨b, off, rfl, hb, hc⟩⟩ := hu
  · exact absurd h0 hm
  refine wpList_append_own _ hgd s y t ho base 3 i0 (.int .i64 0) 1 8 ht hi hz0 hz1 hz2 rfl (by decide) v l.length _ hs hown0 ⟨b, off, none⟩ m.length c (m.map (Value.int .i64)) hy (by simp) ?_ (by simp [Value.oneCell']) (by unfold maxLen; omega) (by omega) hbase ?_
  · intro j w hj
    rw [List.getElem?_map] at hj
    obtain ⟨z, hz, rfl⟩ := Option.map_eq_some_iff.1 hj
    have hjl : j < m.length := (List.getElem?_eq_some_iff.1 hz).1
    rw [Go.WideShapes.add_plain, hc j hjl, hz]
    rfl
  · intro v' w' h1 h2 _
    exact h v' w' (by unfold OwnI; simpa using h1) h2
end
end Go.Esc
