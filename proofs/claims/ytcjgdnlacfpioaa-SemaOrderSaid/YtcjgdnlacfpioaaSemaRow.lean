/- A slice of ints that is a row of one's own, or full: to append to. Nothing of a program in sight; and where the first such one lies. -/
import Derived.Test.YtcjgdnlacfpioaaLists
namespace Go.Esc
open Go.RowKit

/-- v reads as l, and what is appended to it touches nobody else: it is a row of one's own, or there is no room behind it. -/
def Rwl (w : World) (v : Value) (l : List Int) : Prop := OwnI w 0 v l ∨ (Slw w v l ∧ ∃ a, v = .slice (some a) l.length l.length)
theorem Rwl.slw {w : World} {v : Value} {l : List Int} (h : Rwl w v l) : Slw w v l := h.elim Slw.ofOwn (fun x => x.1)
theorem Rwl.off {S : Nat → Prop} {w w' : World} {v : Value} {l : List Int} (h : Rwl w v l) (k : Only S w w') (hs : Off S v) : Rwl w' v l := by
  rcases h with h | ⟨h, hv⟩
  · exact .inl (h.off k hs)
  · exact .inr ⟨h.only k hs, hv⟩
theorem Rwl.nil (w : World) : Rwl w (.slice none 0 0) [] := .inl (OwnI.nil _ _)

section
variable {P : Program} {t : TypeId} (ht : P.underlying t = some (.slice 3)) (hinfo : (P.info? 3).map (fun i => (i.zero, i.size, i.bytes)) = some (some (.int .i64 0), 1, 8))
include ht hinfo
/-- The outcome of an append of one to such a one. -/
theorem appR (W : World) {ops : Array Oper} {rest : List Oper} {o : Oper} {a : Act} {Q : Exit → Act → World → Prop} (hgd : o.guard = none) (s y : Operand)
    (ho : o.op = .call { callee := .builtin .append, args := #[s, y], argTypes := #[t, t] }) (v : Value) (l : List Int) (x : Int) (tb : Nat) (hs : a.eval s = v) (hy : a.eval y = .slice (some ⟨tb, 0, none⟩) 1 1)
    (hown : Rwl W v l) (hx : W.cell? ⟨tb, 0, none⟩ = some (.int .i64 x)) (hlen : l.length < 10000000)
    (h : ∀ v' w', OwnI w' 0 v' (l ++ [x]) → W.grownBy w' v.ownBlock → (∀ j, v'.ownBlock = some j → v.ownBlock = some j ∨ W.heap.size ≤ j) → (∃ g cap, v' = .slice (some ⟨g, 0, none⟩) (l.length + 1) cap) → wpList P ops Q rest (a.put o.dst v') w') :
    wpList P ops Q (o :: rest) a W := by
  have hu : Slw W (.slice (some ⟨tb, 0, none⟩) 1 1) [x] := ⟨_, 1, rfl, ⟨(fun h => by cases h), Nat.le_refl _⟩, by simp [maxLen], .inr ⟨tb, 0, rfl, lt_of_cell hx, fun i hi => by
    have : i = 0 := by simpa using hi
    subst this; simpa using hx⟩⟩
  rcases hown with hown | ⟨hv, ad, rfl⟩
  · refine appX ht hinfo 0 W hgd s y ho v l _ [x] hs hy hown hu (Nat.zero_le _) (by simp; omega) ?_
    intro v' w' hA
    exact h v' w' hA.1 hA.2.1 hA.2.2 hA.some
  · obtain ⟨i0, hi, hz0, hz1, hz2⟩ := info_parts hinfo
    refine wpList_plain hgd fun K hK => ?_
    have holds : ∀ (j : Nat) (u : Value), (l.map (Value.int .i64))[j]? = some u → W.cell? (ad.add j) = some u := by
      intro j u hj
      rw [List.getElem?_map] at hj
      obtain ⟨z, hz, rfl⟩ := Option.map_eq_some_iff.1 hj
      have hjl : j < l.length := (List.getElem?_eq_some_iff.1 hz).1
      rcases hv.open with ⟨h0, _⟩ | ⟨_, _, _, h0⟩ | ⟨b, off, cap', he, _, _, _, hc⟩
      · simp at h0
      · simp [h0] at hjl
      · simp only [Value.slice.injEq, Option.some.injEq] at he
        obtain ⟨rfl, _, _⟩ := he
        rw [Go.WideShapes.add_plain, hc j hjl, hz]
        rfl
    obtain ⟨v', w', hr, h1, h2⟩ := run_append_arg_grows (P := P) W t o.type 3 i0 (.int .i64 0) 1 8 ht hi hz0 hz1 hz2 rfl (by decide) ad l.length l.length (l.map (Value.int .i64)) (by simp) holds ⟨tb, 0, none⟩ 1 1 [.int .i64 x] rfl (fun j u hj => by
        cases j with
        | zero => simp at hj; subst hj; rw [Go.WideShapes.add_plain]; exact hx
        | succ j => simp at hj) (by omega) (by unfold maxLen; omega) (by omega)
    have h1' : OwnI w' W.heap.size v' (l ++ [x]) := by unfold OwnI; simpa using h1
    unfold Oper.wp
    simp [execOp, ho, resolve, invoke, builtin, hs, hy, hr, Result.andThen]
    refine hK _ _ (h v' w' (h1'.mono (Nat.zero_le _)) ⟨h2.os, h2.tape, h2.output, h2.size, fun k hk _ => h2.block k hk (by simp)⟩ (fun j hj => .inr (h1'.lt j hj).1) ?_)
    rcases h1'.open with ⟨_, h0⟩ | ⟨g, cap, h0, _⟩
    · simp at h0
    · exact ⟨g, cap, by rw [h0]; simp⟩
end

/-- Where the first one lies that is g: -1 if there is none. -/
def idxZ : List Int → Int → Int
  | [], _ => -1
  | x :: l, g => if x = g then 0 else if idxZ l g < 0 then -1 else idxZ l g + 1
theorem idxZ_lo (l : List Int) (g : Int) : -1 ≤ idxZ l g ∧ idxZ l g < l.length ∨ l = [] ∧ idxZ l g = -1 := by
  induction l with
  | nil => right; exact ⟨rfl, rfl⟩
  | cons x l ih =>
    left
    unfold idxZ
    rcases ih with ⟨h1, h2⟩ | ⟨rfl, h⟩
    · simp only [List.length_cons]
      split
      · omega
      · split <;> omega
    · rw [h]; simp only [List.length_cons, List.length_nil]; split <;> simp
theorem idxZ_first (l : List Int) (g : Int) (k : Nat) (hk : k < l.length) (he : l[k]?.getD 0 = g) (hb : ∀ i, i < k → l[i]?.getD 0 ≠ g) : idxZ l g = k := by
  induction l generalizing k with
  | nil => simp at hk
  | cons x l ih =>
    cases k with
    | zero => simp at he; simp [idxZ, he]
    | succ k =>
      have h0 := hb 0 (by omega)
      simp at h0
      have h1 := ih k (by simpa using hk) (by simpa using he) (fun i hi => by have := hb (i + 1) (by omega); simpa using this)
      unfold idxZ
      rw [if_neg h0, h1, if_neg (by omega)]
      omega
theorem idxZ_none (l : List Int) (g : Int) (hb : ∀ i, i < l.length → l[i]?.getD 0 ≠ g) : idxZ l g = -1 := by
  induction l with
  | nil => rfl
  | cons x l ih =>
    have h0 := hb 0 (by simp)
    simp at h0
    unfold idxZ
    rw [if_neg h0, ih (fun i hi => by have := hb (i + 1) (by simpa using hi); simpa using this)]
    rfl
theorem idxZ_mem (l : List Int) (g : Int) : (idxZ l g < 0 ↔ g ∉ l) := by
  induction l with
  | nil => simp [idxZ]
  | cons x l ih =>
    unfold idxZ
    by_cases hx : x = g
    · simp [hx]
    · rw [if_neg hx]
      have : ¬ g = x := fun e => hx e.symm
      simp only [List.mem_cons, this, false_or]
      rw [← ih]
      split <;> omega
/-- The one at that place is taken away. -/
theorem idxZ_erase (l : List Int) (g : Int) (k : Nat) (h : idxZ l g = k) : l.take k ++ l.drop (k + 1) = l.erase g ∧ k < l.length ∧ g ∈ l := by
  induction l generalizing k with
  | nil => simp [idxZ] at h
  | cons x l ih =>
    unfold idxZ at h
    by_cases hx : x = g
    · rw [if_pos hx] at h
      obtain rfl : k = 0 := by omega
      subst hx
      simp
    · rw [if_neg hx] at h
      by_cases hn : idxZ l g < 0
      · rw [if_pos hn] at h; omega
      · rw [if_neg hn] at h
        obtain ⟨k', rfl⟩ : ∃ k', k = k' + 1 := ⟨k - 1, by omega⟩
        obtain ⟨h1, h2, h3⟩ := ih k' (by omega)
        rw [List.erase_cons_tail (by simpa using hx), ← h1]
        exact ⟨by simp, by simpa using h2, List.mem_cons_of_mem _ h3⟩
end Go.Esc
