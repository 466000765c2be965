/- 'Only S': from w to w' nothing that lay has turned but blocks in S. Nothing of a program in sight. -/
import Derived.Test.YtcjgdnlacfpioaaApp
import Derived.Test.YtcjgdnlacfpioaaCells
import Derived.Laws.AppendOwnNone
namespace Go.Esc
open Go.RowKit

structure Only (S : Nat → Prop) (w w' : World) : Prop where
  os : w'.os = w.os
  tape : w'.tape = w.tape
  output : w'.output = w.output
  size : w.heap.size ≤ w'.heap.size
  block : ∀ k, k < w.heap.size → ¬ S k → w'.heap[k]? = w.heap[k]?

theorem Only.refl (S : Nat → Prop) (w : World) : Only S w w := ⟨rfl, rfl, rfl, Nat.le_refl _, fun _ _ _ => rfl⟩
theorem Only.trans {S : Nat → Prop} {a b c : World} (h : Only S a b) (k : Only S b c) : Only S a c :=
  ⟨k.os.trans h.os, k.tape.trans h.tape, k.output.trans h.output, Nat.le_trans h.size k.size, fun i hi hs => (k.block i (Nat.lt_of_lt_of_le hi h.size) hs).trans (h.block i hi hs)⟩
theorem Only.mono {S T : Nat → Prop} {a b : World} (h : Only S a b) (hs : ∀ k, k < a.heap.size → S k → T k) : Only T a b :=
  ⟨h.os, h.tape, h.output, h.size, fun i hi ht => h.block i hi (fun x => ht (hs i hi x))⟩
/-- What comes later may turn new blocks as it likes. -/
theorem Only.andThen {S T : Nat → Prop} {a b c : World} (h : Only S a b) (k : Only T b c) (ht : ∀ k, k < a.heap.size → T k → S k) : Only S a c :=
  ⟨k.os.trans h.os, k.tape.trans h.tape, k.output.trans h.output, Nat.le_trans h.size k.size, fun i hi hs => (k.block i (Nat.lt_of_lt_of_le hi h.size) (fun x => hs (ht i hi x))).trans (h.block i hi hs)⟩
theorem Only.alloc {S : Nat → Prop} {a w : World} (h : Only S a w) (o : Obj) : Only S a (w.alloc o) :=
  ⟨h.os, h.tape, h.output, Nat.le_trans h.size (by simp), fun i hi hs => (Below.heap_alloc w o i (Nat.lt_of_lt_of_le hi h.size)).trans (h.block i hi hs)⟩
theorem Only.drew {S : Nat → Prop} {a w : World} (h : Only S a w) : Only S a w.drew := ⟨h.os, h.tape, h.output, h.size, h.block⟩
theorem Only.drewN {S : Nat → Prop} {a w : World} (h : Only S a w) (n : Nat) : Only S a (w.drewN n) := ⟨h.os, h.tape, h.output, h.size, h.block⟩
theorem Only.set {S : Nat → Prop} {a w : World} {c : Nat} (h : Only S a w) (hc : a.heap.size ≤ c ∨ S c) (i : Nat) (u : Value) : Only S a (w.setCell ⟨c, i, none⟩ u) :=
  ⟨h.os, h.tape, h.output, Nat.le_trans h.size (by simp [World.setCell]), fun k hk hs => by
    rw [Below.heap_setCell w ⟨c, i, none⟩ u k (fun e => hc.elim (fun h1 => absurd (show k = c from e) (by omega)) (fun h1 => hs (by rw [show k = c from e]; exact h1)))]
    exact h.block k hk hs⟩
theorem Only.grown {S : Nat → Prop} {a w w' : World} {row : Option Nat} (h : Only S a w) (hg : w.grownBy w' row) (hr : ∀ k, row = some k → a.heap.size ≤ k ∨ S k) : Only S a w' :=
  ⟨hg.os.trans h.os, hg.tape.trans h.tape, hg.output.trans h.output, Nat.le_trans h.size hg.size, fun k hk hs => by
    rw [hg.block k (Nat.lt_of_lt_of_le hk h.size) (fun e => (hr k e.symm).elim (fun h1 => absurd hk (by omega)) hs)]
    exact h.block k hk hs⟩
theorem Only.below {S : Nat → Prop} {a w w' : World} (h : Only S a w) (hb : Below w.heap.size w w') : Only S a w' :=
  h.grown (grown_of_below hb none) (fun k e => by cases e)
theorem Only.toBelow {S : Nat → Prop} {w w' : World} (h : Only S w w') {B : Nat} (hB : B ≤ w.heap.size) (hs : ∀ k, S k → B ≤ k) : Below B w w' :=
  ⟨h.os, h.tape, h.output, h.size, fun k hk => h.block k (Nat.lt_of_lt_of_le hk hB) (fun x => by have := hs k x; omega)⟩
/-- A law's own world: blocks that are new to it may turn. -/
theorem below_only {S : Nat → Prop} {a w w' : World} (h : Below a.heap.size a w) (k : Only S w w') (hs : ∀ k, S k → a.heap.size ≤ k) : Below a.heap.size a w' :=
  h.trans (k.toBelow h.size hs)

theorem Blk.only {S : Nat → Prop} {w w' : World} {b : Nat} {cs : Array Value} {t : TypeId} (h : Blk w b cs t) (k : Only S w w') (hs : ¬ S b) : Blk w' b cs t := (k.block b h.lt hs).trans h
theorem Cells.only {S : Nat → Prop} {w w' : World} {g m : Nat} {t : TypeId} {F : Nat → Value} (h : Cells w g m t F) (k : Only S w w') (hs : ¬ S g) : Cells w' g m t F := by
  obtain ⟨cs, hb, r⟩ := h; exact ⟨cs, hb.only k hs, r⟩

/-- The slice v reads as l, and its cells lie in a block from B on. -/
def Slf (w : World) (B : Nat) (v : Value) (l : List Int) : Prop :=
  ∃ a cap, v = .slice a l.length cap ∧ ((a = none → cap = 0) ∧ l.length ≤ cap) ∧ l.length ≤ maxLen ∧
    (l = [] ∨ ∃ b off, a = some ⟨b, off, none⟩ ∧ B ≤ b ∧ b < w.heap.size ∧ ∀ i, i < l.length → w.cell? ⟨b, off + i, none⟩ = some (.int .i64 (l[i]?.getD 0)))

theorem Slf.sl {w : World} {B : Nat} {v : Value} {l : List Int} (h : Slf w B v l) : Sl w v l := by
  obtain ⟨a, cap, hv, _, hm, h | ⟨b, off, ha, _, hb, hc⟩⟩ := h
  · exact ⟨a, cap, hv, hm, .inl h⟩
  · exact ⟨a, cap, hv, hm, .inr ⟨b, off, ha, hb, hc⟩⟩
theorem Slf.nil (w : World) (B : Nat) : Slf w B (.slice none 0 0) [] := ⟨none, 0, rfl, ⟨fun _ => rfl, Nat.le_refl _⟩, Nat.zero_le _, .inl rfl⟩
theorem Slf.mono {w : World} {B B' : Nat} {v : Value} {l : List Int} (h : Slf w B v l) (hB : B' ≤ B) : Slf w B' v l := by
  obtain ⟨a, cap, hv, hn, hm, h | ⟨b, off, ha, h1, hb, hc⟩⟩ := h
  · exact ⟨a, cap, hv, hn, hm, .inl h⟩
  · exact ⟨a, cap, hv, hn, hm, .inr ⟨b, off, ha, by omega, hb, hc⟩⟩
theorem Slf.only {S : Nat → Prop} {w w' : World} {B : Nat} {v : Value} {l : List Int} (h : Slf w B v l) (k : Only S w w') (hs : ∀ b, B ≤ b → ¬ S b) : Slf w' B v l := by
  obtain ⟨a, cap, hv, hn, hm, h | ⟨b, off, ha, h1, hb, hc⟩⟩ := h
  · exact ⟨a, cap, hv, hn, hm, .inl h⟩
  · exact ⟨a, cap, hv, hn, hm, .inr ⟨b, off, ha, h1, Nat.lt_of_lt_of_le hb k.size, fun i hi => (World.cell?_of_block (k.block b hb (hs b h1))).trans (hc i hi)⟩⟩
theorem Slf.below {w w' : World} {B : Nat} {v : Value} {l : List Int} (h : Slf w B v l) (hb : Below w.heap.size w w') : Slf w' B v l :=
  h.only (S := fun _ => False) ((Only.refl _ w).below hb) (fun _ _ x => x)
theorem Slf.ofOwn {w : World} {base : Nat} {v : Value} {l : List Int} (h : OwnI w base v l) : Slf w base v l := by
  have hs := Sl.ofOwn h
  have h0 := h
  obtain ⟨_, ⟨rfl, hz⟩ | ⟨g, cap, cur, rfl, hb, hg, hnc, _⟩⟩ := h
  · have : l = [] := List.length_eq_zero_iff.1 hz
    subst this
    exact Slf.nil w base
  · obtain ⟨a, cap', he, hm, h1 | ⟨b, off, rfl, hb', hc⟩⟩ := hs
    · exact ⟨_, _, rfl, ⟨(fun h => by cases h), hnc⟩, hm, .inl h1⟩
    · simp only [Value.slice.injEq] at he
      obtain ⟨he, _, rfl⟩ := he
      cases he
      exact ⟨_, _, rfl, ⟨(fun h => by cases h), hnc⟩, hm, .inr ⟨_, _, rfl, hb, hb', hc⟩⟩
theorem Slf.none0 (w : World) (B : Nat) (ad : Addr) (c : Nat) : Slf w B (.slice (some ad) 0 c) [] := ⟨some ad, c, rfl, ⟨(fun h => by cases h), Nat.zero_le _⟩, Nat.zero_le _, .inl rfl⟩
/-- x[k:] -/
theorem Slf.drop {w : World} {B : Nat} {b off cap cap' : Nat} {l : List Int} {n : Nat} (h : Slf w B (.slice (some ⟨b, off, none⟩) l.length cap) l) (k : Nat) (hk : k ≤ l.length) (hn : n = l.length - k) (hc' : n ≤ cap') : Slf w B (.slice (some ⟨b, off + k, none⟩) n cap') (l.drop k) := by
  subst hn
  obtain ⟨a, c, hv, _, hm, h⟩ := h
  simp only [Value.slice.injEq] at hv
  obtain ⟨rfl, _, _⟩ := hv
  refine ⟨some ⟨b, off + k, none⟩, cap', by simp, ⟨(fun h => by cases h), by simpa using hc'⟩, by simp; omega, ?_⟩
  rcases h with rfl | ⟨b', off', he, h1, hb, hc⟩
  · left; simp
  · cases he
    refine .inr ⟨b, off + k, rfl, h1, hb, fun i hi => ?_⟩
    have hi' : k + i < l.length := by simp at hi; omega
    rw [Nat.add_assoc, hc (k + i) hi', List.getElem?_drop]
/-- Opened: nil or an address, and the cells. -/
theorem Slf.open {w : World} {B : Nat} {v : Value} {l : List Int} (h : Slf w B v l) : (v = .slice none 0 0 ∧ l = []) ∨ (∃ ad cap, v = .slice (some ad) 0 cap ∧ l = []) ∨
    ∃ b off cap, v = .slice (some ⟨b, off, none⟩) l.length cap ∧ l ≠ [] ∧ l.length ≤ cap ∧ B ≤ b ∧ b < w.heap.size ∧ ∀ i, i < l.length → w.cell? ⟨b, off + i, none⟩ = some (.int .i64 (l[i]?.getD 0)) := by
  obtain ⟨a, cap, rfl, hn, hm, h⟩ := h
  by_cases hl : l = []
  · subst hl
    cases a with
    | none => rw [hn.1 rfl]; exact .inl ⟨rfl, rfl⟩
    | some ad => exact .inr (.inl ⟨ad, cap, rfl, rfl⟩)
  · rcases h with h | ⟨b, off, rfl, h1, hb, hc⟩
    · exact absurd h hl
    · exact .inr (.inr ⟨b, off, cap, rfl, hl, hn.2, h1, hb, hc⟩)

section
variable {P : Program} {t : TypeId} (ht : P.underlying t = some (.slice 3)) (hinfo : (P.info? 3).map (fun i => (i.zero, i.size, i.bytes)) = some (some (.int .i64 0), 1, 8))
include ht hinfo
/-- A whole list is appended, empty or not. -/
theorem appF (base : Nat) (W : World) {ops : Array Oper} {rest : List Oper} {o : Oper} {a : Act} {Q : Exit → Act → World → Prop} (hgd : o.guard = none) (s y : Operand)
    (ho : o.op = .call { callee := .builtin .append, args := #[s, y], argTypes := #[t, t] }) (v : Value) (l : List Int) (u : Value) (m : List Int) {B : Nat} (hs : a.eval s = v) (hy : a.eval y = u)
    (hown : OwnI W base v l) (hu : Slf W B u m) (hbase : base ≤ W.heap.size) (hlen : l.length + m.length < 100000000)
    (h : ∀ v' w', OwnI w' base v' (l ++ m) → W.grownBy w' v.ownBlock → wpList P ops Q rest (a.put o.dst v') w') :
    wpList P ops Q (o :: rest) a W := by
  by_cases hm : m = []
  · obtain ⟨i0, hi, hz0, hz1, hz2⟩ := info_parts hinfo
    have hown0 : W.ownsRow base 3 1 v l.length (l.map (Value.int .i64)) := hown
    subst hm
    rcases hu.open with ⟨rfl, _⟩ | ⟨ad, cap, rfl, _⟩ | ⟨_, _, _, _, hne, _⟩
    · refine wpList_append_own_none hgd s y t ho base 3 i0 1 ht hi v l.length _ hs hown0 hy (h v W (by simpa using hown) (grown_refl _ _))
    · refine wpList_append_own _ hgd s y t ho base 3 i0 (.int .i64 0) 1 8 ht hi hz0 hz1 hz2 rfl (by decide) v l.length _ hs hown0 ad 0 cap [] hy rfl (by simp) (by simp) (by unfold maxLen; omega) (by omega) hbase ?_
      intro v' w' h1 h2 _
      exact h v' w' (by unfold OwnI; simpa using h1) h2
    · exact absurd rfl hne
  · exact appL ht hinfo base W hgd s y ho v l u m hs hy hown hu.sl hm hbase hlen h
end
theorem OwnI.only {S : Nat → Prop} {w w' : World} {base : Nat} {v : Value} {l : List Int} (h : OwnI w base v l) (k : Only S w w') (hs : ∀ b, base ≤ b → ¬ S b) : OwnI w' base v l := by
  obtain ⟨h1, h2 | ⟨g, cap, cur, hv, hg, hh, r⟩⟩ := h
  · exact ⟨h1, .inl h2⟩
  · exact ⟨h1, .inr ⟨g, cap, cur, hv, hg, (k.block g (Array.getElem?_eq_some_iff.1 hh).1 (hs g hg)).trans hh, r⟩⟩
end Go.Esc
