/- Chapter 23: lists of lists, and the contract of Queues. -/
import Derived.Test.YtgahkcbkpnehfaaProcsResize
namespace Go.Esc
open Go.RowKit

/-- The slice v owns a row of slices of ints; all its blocks lie from base on. -/
def LLv (w : World) (base : Nat) (v : Value) (vs : List Value) (ls : List (List Int)) : Prop :=
  w.ownsRow base 25 1 v ls.length vs ∧ ∀ i, i < ls.length → OwnI w base (vs[i]?.getD undef) (ls[i]?.getD [])
def LL (w : World) (base : Nat) (v : Value) (ls : List (List Int)) : Prop := ∃ vs, LLv w base v vs ls

theorem LLv.nil (w : World) (base : Nat) : LLv w base (.slice none 0 0) [] [] := ⟨World.ownsRow_nil w base 25 1, fun i hi => by simp at hi⟩
theorem LLv.below {w w' : World} {base : Nat} {v : Value} {vs : List Value} {ls : List (List Int)} (h : LLv w base v vs ls) (hb : Below w.heap.size w w') : LLv w' base v vs ls :=
  ⟨rowv_below h.1 hb, fun i hi => (h.2 i hi).below hb⟩
theorem LL.below {w w' : World} {base : Nat} {v : Value} {ls : List (List Int)} (h : LL w base v ls) (hb : Below w.heap.size w w') : LL w' base v ls := by
  obtain ⟨vs, h⟩ := h; exact ⟨vs, h.below hb⟩
theorem LL.only {S : Nat → Prop} {w w' : World} {base : Nat} {v : Value} {ls : List (List Int)} (h : LL w base v ls) (ho : Only S w w') (hs : ∀ k, S k → k < base) : LL w' base v ls := by
  obtain ⟨vs, h1, h2⟩ := h
  refine ⟨vs, rowv_off h1 ho (fun j hj hj' => ?_), fun i hi => (h2 i hi).off ho (fun j hj hj' => ?_)⟩
  · have := (World.ownsRow.lt h1 j hj).1; have := hs j hj'; omega
  · have := ((h2 i hi).lt j hj).1; have := hs j hj'; omega
theorem LL.drewN {w : World} {base : Nat} {v : Value} {ls : List (List Int)} (h : LL w base v ls) (n : Nat) : LL (w.drewN n) base v ls := h
theorem owns_ne {w : World} {base base' : Nat} {v u : Value} {n : Nat} {xs : List Value} {l : List Int} (h : w.ownsRow base 25 1 v n xs) (k : OwnI w base' u l) : u.ownBlock = none ∨ u.ownBlock ≠ v.ownBlock := by
  obtain ⟨_, ⟨hu, _⟩ | ⟨g', cap', cur', hu, _, hh', _⟩⟩ := k
  · left; rw [hu]; rfl
  · right
    obtain ⟨_, ⟨hv, _⟩ | ⟨g, cap, cur, hv, _, hh, _⟩⟩ := h
    · rw [hu, hv]; simp [Value.ownBlock]
    · rw [hu, hv]
      simp only [Value.ownBlock, ne_eq, Option.some.injEq]
      intro e
      subst e
      rw [hh] at hh'
      cases hh'
theorem LLv.push {w w' : World} {base : Nat} {v v' u : Value} {vs : List Value} {ls : List (List Int)} {l : List Int} (h : LLv w base v vs ls) (hu : OwnI w base u l) (hA : AppdV w base 25 1 v ls.length vs [u] v' w') : LLv w' base v' (vs ++ [u]) (ls ++ [l]) := by
  obtain ⟨ho, hg, hx⟩ := hA
  have hl : vs.length = ls.length := by have := h.1.1; simpa using this
  refine ⟨by rw [List.length_append]; exact ho, fun i hi => ?_⟩
  rw [List.length_append] at hi
  simp only [List.length_cons, List.length_nil] at hi
  by_cases e : i < ls.length
  · rw [List.getElem?_append_left (by omega), List.getElem?_append_left e]
    exact (h.2 i e).kept hg (owns_ne h.1 (h.2 i e))
  · obtain rfl : i = ls.length := by omega
    rw [List.getElem?_append_right (by omega), List.getElem?_append_right (by omega)]
    simp only [hl, Nat.sub_self, List.getElem?_cons_zero, Option.getD_some]
    exact hu.kept hg (owns_ne h.1 hu)
theorem LLv.len {w : World} {base : Nat} {v : Value} {vs : List Value} {ls : List (List Int)} (h : LLv w base v vs ls) : ∃ a cap, v = .slice a ls.length cap := by
  rcases rowv_open h.1 with ⟨rfl, h0⟩ | ⟨g, cap, rfl, _⟩
  · exact ⟨none, 0, by rw [h0]⟩
  · exact ⟨_, cap, rfl⟩
theorem LL.len {w : World} {base : Nat} {v : Value} {ls : List (List Int)} (h : LL w base v ls) : ∃ a cap, v = .slice a ls.length cap := by
  obtain ⟨vs, h⟩ := h; exact h.len
theorem LL.mono {w : World} {base base' : Nat} {v : Value} {ls : List (List Int)} (h : LL w base v ls) (hb : base' ≤ base) : LL w base' v ls := by
  obtain ⟨vs, h1, h2⟩ := h; exact ⟨vs, rowv_mono h1 hb, fun i hi => (h2 i hi).mono hb⟩
/-- One of the lists. -/
theorem LL.at {w : World} {base : Nat} {a : Option Addr} {n cap : Nat} {ls : List (List Int)} (h : LL w base (.slice a n cap) ls) (i : Nat) (hi : i < ls.length) : n = ls.length ∧ ∃ g u, a = some ⟨g, 0, none⟩ ∧ w.cell? ⟨g, i, none⟩ = some u ∧ OwnI w base u (ls[i]?.getD []) := by
  obtain ⟨vs, h1, h2⟩ := h
  rcases rowv_open h1 with ⟨_, h0⟩ | ⟨g, cap', he, _, hg, hc, hcells⟩
  · omega
  · simp only [Value.slice.injEq] at he
    obtain ⟨rfl, rfl, rfl⟩ := he
    exact ⟨rfl, g, _, rfl, hcells i (by omega), h2 i hi⟩
end Go.Esc
namespace Go.Proofs.Ytgahkcbkpnehfaa.Procs
open Go.RowKit Go.Esc
open Go.Proofs.Ytgahkcbkpnehfaa.Ring (Rw Sg allL)
set_option linter.unusedVariables false

theorem info25 : (Try.prog.info? 25).map (fun i => (i.zero, i.size, i.bytes)) = some (some (.slice none 0 0), 1, 24) := by kernel_rfl
theorem new25 (w : World) (x : Value) : ∀ (j : Nat) (y : Value), [x][j]? = some y → (w.alloc (.cells #[x] 25)).cell? ((⟨w.heap.size, 0, none⟩ : Addr).add j) = some y := new1 w x 25

/-- What all queues are. -/
def qs (R : Nat → Rn) (n : Nat) : List (List Int) := (List.range n).map fun i => allL (R i).nx (R i).row
theorem qs_succ (R : Nat → Rn) (k : Nat) : qs R (k + 1) = qs R k ++ [allL (R k).nx (R k).row] := by simp [qs, List.range_succ]
theorem qs_len (R : Nat → Rn) (k : Nat) : (qs R k).length = k := by simp [qs]
def QsPost (ls : List (List Int)) (w : World) (e : Ending) (w' : World) : Prop := ∃ v, e = .returned v ∧ LL w' w.heap.size v ls ∧ Below w.heap.size w w'

theorem own_one {w : World} {base : Nat} {v : Value} {l : List Int} (h : OwnI w base v l) : ∀ x ∈ [v], x.oneCell' = true := by
  intro x hx
  obtain ⟨a, c, rfl⟩ := Glob.own_len h
  simp at hx
  subst hx
  rfl

set_option maxHeartbeats 2000000 in
theorem queues_any (p : Nat) (rv : Value) (n : Nat) (R : Nat → Rn) (w : World) (h : Prc w p rv n R) (hn : n ≤ 256) : Calls Try.prog 45 #[.pointer (some ⟨p, 0, none⟩)] w (QsPost (qs R n) w) := by
  obtain ⟨a, cap, rfl⟩ := h.slice
  have c0 := h.blk.cell 0
  simp only [List.getElem?_toArray, List.getElem?_cons_zero] at c0
  have HH := Lib.hid h
  clear h
  go_enter Try.func45, Try.ntmps45
  go_wp2
  go_loopw [2, 13] (fun t i wr => ∃ (k : Nat) (vs : List Value), k ≤ n ∧ i = .int .i64 k ∧ LLv wr w.heap.size t vs (qs R k) ∧ Below w.heap.size w wr) (fun _ i _ => n - (intOf i).toNat)
  case atStart => exact ⟨0, [], Nat.zero_le _, rfl, LLv.nil _ _, Below.refl _ _⟩
  case round =>
    obtain ⟨k, vs, hk, rfl, hLL, hB⟩ := hrel
    have hP := HH.out.below hB
    by_cases hlt : k < n
    · rcases hP.own.open with ⟨_, h0⟩ | ⟨g, cap', he, _, hg, hc, hcells⟩
      · omega
      cases he
      have cx := hcells k (by omega)
      rw [ptrs_at n R k hlt] at cx
      have HR := Lib.hid (Ring.list_any _ _ _ _ _ _ (hP.ring k hlt))
      have HLL := Lib.hid hLL
      have HB := Lib.hid hB
      obtain ⟨at_, ct, rfl⟩ := hLL.len
      rw [qs_len] at *
      clear hcells hLL hP hB
      go_wp2_with fail
      refine HR.out.mono ?_
      rintro e w1 ⟨u, rfl, hu, hB1⟩
      obtain ⟨au, nu, cu, rfl⟩ : ∃ a n c, u = .slice a n c := by obtain ⟨a, c, hv⟩ := Glob.own_len hu; exact ⟨a, _, c, hv⟩
      have HU := Lib.hid hu
      have HB1 := Lib.hid hB1
      have hsz := HB.out.size
      have hsz1 := hB1.size
      have HL1 := Lib.hid ((HLL.out.below hB1).below (below_alloc (Below.refl _ _) (.cells #[.slice au nu cu] 25)))
      have HU1 := Lib.hid ((hu.below (below_alloc (Below.refl _ _) (.cells #[.slice au nu cu] 25))).mono HB.out.size)
      have HOne := Lib.hid (own_one hu)
      clear hu hB1
      go_wp2_with (at_builtin; refine appV Try.underlying61 info25 rfl (by decide) (by decide) w.heap.size _ rfl _ _ rfl _ (qs R k).length vs ⟨w1.heap.size, 0, none⟩ 1 [.slice au nu cu] rfl rfl (.inl HL1.out.1) rfl (new25 w1 (.slice au nu cu)) HOne.out (by simp; omega) (by rw [qs_len]; omega) ?_; intro v' w2 hA; have HA := Lib.hid hA; clear hA)
      go_roundw
      case rel =>
        refine ⟨k + 1, vs ++ [.slice au nu cu], by omega, by go_num, ?_, ?_⟩
        · rw [qs_succ]; exact HL1.out.push HU1.out HA.out
        · exact below_grown (below_alloc (below_below HB.out HB1.out) _) HA.out.2.1 (fun j hj => (World.ownsRow.lt HL1.out.1 j hj).1)
      case measure => simp [intOf]; omega
    · obtain rfl : k = n := by omega
      have HLL := Lib.hid hLL
      have HB := Lib.hid hB
      clear hLL hB hP
      go_wp2
      go_ret
      exact ⟨_, rfl, ⟨vs, HLL.out⟩, HB.out⟩
end Go.Proofs.Ytgahkcbkpnehfaa.Procs
