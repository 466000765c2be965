/- Rows of one's own whose elements are anything: append of one more, with the block of the outcome. Nothing of a program in sight. -/
import Derived.Test.YtcjgdnlacfpioaaAppX
namespace Go.Esc
open Go.RowKit

/-- The outcome of an append of one element (its cells: ys). -/
def AppdV (W : World) (base : Nat) (e : TypeId) (size : Nat) (v : Value) (n : Nat) (xs ys : List Value) (v' : Value) (w' : World) : Prop :=
  w'.ownsRow base e size v' (n + 1) (xs ++ ys) ∧ W.grownBy w' v.ownBlock ∧ ∀ j, v'.ownBlock = some j → v.ownBlock = some j ∨ W.heap.size ≤ j

theorem rowv_mono {w : World} {base base' : Nat} {e : TypeId} {size : Nat} {v : Value} {n : Nat} {xs : List Value} (h : w.ownsRow base e size v n xs) (hb : base' ≤ base) : w.ownsRow base' e size v n xs := by
  obtain ⟨h1, h2 | ⟨g, cap, cur, hv, hg, hh, r⟩⟩ := h
  · exact ⟨h1, .inl h2⟩
  · exact ⟨h1, .inr ⟨g, cap, cur, hv, Nat.le_trans hb hg, hh, r⟩⟩
theorem rowv_off {S : Nat → Prop} {w w' : World} {base : Nat} {e : TypeId} {size : Nat} {v : Value} {n : Nat} {xs : List Value} (h : w.ownsRow base e size v n xs) (k : Only S w w') (hs : Off S v) : w'.ownsRow base e size v n xs := by
  obtain ⟨h1, h2 | ⟨g, cap, cur, hv, hg, hh, r⟩⟩ := h
  · exact ⟨h1, .inl h2⟩
  · exact ⟨h1, .inr ⟨g, cap, cur, hv, hg, (k.block g (Array.getElem?_eq_some_iff.1 hh).1 (hs g (by rw [hv]; rfl))).trans hh, r⟩⟩
theorem rowv_below {w w' : World} {base : Nat} {e : TypeId} {size : Nat} {v : Value} {n : Nat} {xs : List Value} (h : w.ownsRow base e size v n xs) (hb : Below w.heap.size w w') : w'.ownsRow base e size v n xs :=
  World.ownsRow.kept h (grown_of_below hb none) (by cases hv : v.ownBlock <;> simp)
theorem rowv_open {w : World} {base : Nat} {e : TypeId} {size : Nat} {v : Value} {n : Nat} {xs : List Value} (h : w.ownsRow base e size v n xs) : (v = .slice none 0 0 ∧ n = 0) ∨
    ∃ g cap, v = .slice (some ⟨g, 0, none⟩) n cap ∧ base ≤ g ∧ g < w.heap.size ∧ n ≤ cap ∧ ∀ i, i < n * size → w.cell? ⟨g, i, none⟩ = some (xs[i]?.getD undef) := by
  obtain ⟨h1, h2 | ⟨g, cap, cur, rfl, hg, hh, hn, hm, hc, ht⟩⟩ := h
  · exact .inl h2
  · refine .inr ⟨g, cap, rfl, hg, (Array.getElem?_eq_some_iff.1 hh).1, hn, fun i hi => ?_⟩
    have hB : Blk w g cur e := hh
    rw [hB.cell, ← ht, List.getElem?_take_of_lt hi]
    have : i < cur.size := by rw [hc]; exact Nat.lt_of_lt_of_le hi (Nat.mul_le_mul_right _ hn)
    simp [this]

/-- The same, or a row cut to its last place (s[:n:n]): it reads, and an append moves it. -/
def Rdv (w : World) (base : Nat) (e : TypeId) (size : Nat) (v : Value) (n : Nat) (xs : List Value) : Prop :=
  w.ownsRow base e size v n xs ∨ ∃ g, v = .slice (some ⟨g, 0, none⟩) n n ∧ base ≤ g ∧ g < w.heap.size ∧ xs.length = n * size ∧ ∀ i, i < n * size → w.cell? ⟨g, i, none⟩ = some (xs[i]?.getD undef)
theorem Rdv.mono {w : World} {base base' : Nat} {e : TypeId} {size : Nat} {v : Value} {n : Nat} {xs : List Value} (h : Rdv w base e size v n xs) (hb : base' ≤ base) : Rdv w base' e size v n xs := by
  rcases h with h | ⟨g, h1, h2, h3⟩
  · exact .inl (rowv_mono h hb)
  · exact .inr ⟨g, h1, Nat.le_trans hb h2, h3⟩
theorem Rdv.off {S : Nat → Prop} {w w' : World} {base : Nat} {e : TypeId} {size : Nat} {v : Value} {n : Nat} {xs : List Value} (h : Rdv w base e size v n xs) (k : Only S w w') (hs : Off S v) : Rdv w' base e size v n xs := by
  rcases h with h | ⟨g, h1, h2, h3, h4, h5⟩
  · exact .inl (rowv_off h k hs)
  · exact .inr ⟨g, h1, h2, Nat.lt_of_lt_of_le h3 k.size, h4, fun i hi => (World.cell?_of_block (k.block g h3 (hs g (by rw [h1]; rfl)))).trans (h5 i hi)⟩
theorem Rdv.below {w w' : World} {base : Nat} {e : TypeId} {size : Nat} {v : Value} {n : Nat} {xs : List Value} (h : Rdv w base e size v n xs) (hb : Below w.heap.size w w') : Rdv w' base e size v n xs :=
  h.off (S := fun _ => False) ((Only.refl _ w).below hb) (fun _ _ x => x)
theorem Rdv.len {w : World} {base : Nat} {e : TypeId} {size : Nat} {v : Value} {n : Nat} {xs : List Value} (h : Rdv w base e size v n xs) : xs.length = n * size := by
  rcases h with h | ⟨g, _, _, _, h, _⟩
  · exact h.1
  · exact h
theorem Rdv.open {w : World} {base : Nat} {e : TypeId} {size : Nat} {v : Value} {n : Nat} {xs : List Value} (h : Rdv w base e size v n xs) : (v = .slice none 0 0 ∧ n = 0) ∨
    ∃ g cap, v = .slice (some ⟨g, 0, none⟩) n cap ∧ base ≤ g ∧ g < w.heap.size ∧ n ≤ cap ∧ ∀ i, i < n * size → w.cell? ⟨g, i, none⟩ = some (xs[i]?.getD undef) := by
  rcases h with h | ⟨g, h1, h2, h3, h4, h5⟩
  · exact rowv_open h
  · exact .inr ⟨g, n, h1, h2, h3, Nat.le_refl _, h5⟩
theorem Rdv.lt {w : World} {base : Nat} {e : TypeId} {size : Nat} {v : Value} {n : Nat} {xs : List Value} (h : Rdv w base e size v n xs) : ∀ k, v.ownBlock = some k → base ≤ k ∧ k < w.heap.size := by
  intro k hk
  rcases h.open with ⟨rfl, _⟩ | ⟨g, cap, rfl, h1, h2, _⟩
  · cases hk
  · cases hk; exact ⟨h1, h2⟩
/-- s[:m:m] -/
theorem Rdv.cut {w : World} {base g n cap : Nat} {e : TypeId} {size : Nat} {xs : List Value} (h : Rdv w base e size (.slice (some ⟨g, 0, none⟩) n cap) n xs) (m : Nat) (hm : m ≤ n) : Rdv w base e size (.slice (some ⟨g, 0, none⟩) m m) m (xs.take (m * size)) := by
  have hl := h.len
  have hmn : m * size ≤ n * size := Nat.mul_le_mul_right _ hm
  rcases h.open with ⟨h0, _⟩ | ⟨g', cap', h0, h1, h2, h3, h4⟩
  · cases h0
  · cases h0
    refine .inr ⟨g, rfl, h1, h2, by rw [List.length_take]; omega, fun i hi => ?_⟩
    rw [h4 i (by omega), List.getElem?_take_of_lt hi]

section
variable {P : Program} {t e : TypeId} {size bytes : Nat} {z : Value} (ht : P.underlying t = some (.slice e)) (hinfo : (P.info? e).map (fun i => (i.zero, i.size, i.bytes)) = some (some z, size, bytes)) (hzs : z.cells.size = size) (hsz : 0 < size) (hby : bytes ≤ 1000)
include ht hinfo hzs hsz hby
theorem run_appV (base : Nat) (W : World) (ty : TypeId) (v : Value) (n : Nat) (xs : List Value) (ad : Addr) (c : Nat) (ys : List Value) (hown : Rdv W base e size v n xs) (hyl : ys.length = size) (hnews : ∀ (j : Nat) (x : Value), ys[j]? = some x → W.cell? (ad.add j) = some x) (hone : ∀ x ∈ ys, x.oneCell' = true) (hbase : base ≤ W.heap.size) (hlen : n < 100000000) :
    ∃ v' w', (Builtin.append_ #[t, t] ty #[v, .slice (some ad) 1 c]).run P W = .ok v' w' ∧ AppdV W base e size v n xs ys v' w' := by
  obtain ⟨i0, hi, hz0, hz1, hz2⟩ : ∃ i, P.info? e = some i ∧ i.zero = some z ∧ i.size = size ∧ i.bytes = bytes := by
    obtain ⟨i, hi, hh⟩ := Option.map_eq_some_iff.1 hinfo
    simp only [Prod.mk.injEq] at hh
    exact ⟨i, hi, hh.1, hh.2.1, hh.2.2⟩
  have hbyt : (n + 1) * bytes ≤ 140737488355328 := by
    have := Nat.mul_le_mul (show n + 1 ≤ 100000000 by omega) hby
    omega
  have h63 : n + 1 ≤ maxLen := by unfold maxLen; omega
  rcases hown with hown | ⟨g, rfl, hbg, hg, hxl, hcells⟩
  rotate_left
  · obtain ⟨v', w', hr, h1, h2⟩ := run_append_arg_grows (P := P) W t ty e i0 z size bytes ht hi hz0 hz1 hz2 hzs hsz ⟨g, 0, none⟩ n n xs hxl (fun j x hj => by
        have hjl : j < n * size := by have := (List.getElem?_eq_some_iff.1 hj).1; rw [hxl] at this; exact this
        rw [Go.WideShapes.add_plain, Nat.zero_add, hcells j hjl, hj]
        rfl) ad 1 c ys (by simpa using hyl) hnews (by omega) h63 hbyt
    exact ⟨v', w', hr, rowv_mono h1 hbase, ⟨h2.os, h2.tape, h2.output, h2.size, fun k hk _ => h2.block k hk (by simp)⟩, fun j hj => .inr (World.ownsRow.lt h1 j hj).1⟩
  rcases rowv_open hown with ⟨rfl, rfl⟩ | ⟨g, cap, rfl, hbg, hg, hcap, hcells⟩
  · have hx : xs = [] := by have := hown.1; simpa using this
    subst hx
    obtain ⟨v', w', hr, h1, h2, _⟩ := run_append_own (P := P) W W.heap.size t ty e i0 z size bytes ht hi hz0 hz1 hz2 hzs hsz (.slice none 0 0) 0 [] (World.ownsRow_nil W _ e size) ad 1 c ys (by simpa using hyl) hnews hone (by omega) (by omega) (Nat.le_refl _)
    exact ⟨v', w', hr, rowv_mono h1 hbase, h2, fun j hj => .inr (World.ownsRow.lt h1 j hj).1⟩
  · by_cases hroom : n + 1 ≤ cap
    · obtain ⟨w', hr, h1, h2⟩ := run_append_fits (P := P) W base t ty e i0 size ht hi hz1 g n cap _ hown ad 1 c ys (by simpa using hyl) hnews hone hroom
      exact ⟨_, w', hr, h1, h2, fun j hj => .inl hj⟩
    · obtain ⟨v', w', hr, h1, h2⟩ := run_append_arg_grows (P := P) W t ty e i0 z size bytes ht hi hz0 hz1 hz2 hzs hsz ⟨g, 0, none⟩ n cap xs hown.1 (fun j x hj => by
          have hjl : j < n * size := by have := (List.getElem?_eq_some_iff.1 hj).1; rw [hown.1] at this; exact this
          rw [Go.WideShapes.add_plain, Nat.zero_add, hcells j hjl, hj]
          rfl) ad 1 c ys (by simpa using hyl) hnews (by omega) h63 hbyt
      exact ⟨v', w', hr, rowv_mono h1 hbase, ⟨h2.os, h2.tape, h2.output, h2.size, fun k hk _ => h2.block k hk (by simp)⟩, fun j hj => .inr (World.ownsRow.lt h1 j hj).1⟩

theorem appV (base : Nat) (W : World) {ops : Array Oper} {rest : List Oper} {o : Oper} {a : Act} {Q : Exit → Act → World → Prop} (hgd : o.guard = none) (s y : Operand)
    (ho : o.op = .call { callee := .builtin .append, args := #[s, y], argTypes := #[t, t] }) (v : Value) (n : Nat) (xs : List Value) (ad : Addr) (c : Nat) (ys : List Value) (hs : a.eval s = v) (hy : a.eval y = .slice (some ad) 1 c)
    (hown : Rdv W base e size v n xs) (hyl : ys.length = size) (hnews : ∀ (j : Nat) (x : Value), ys[j]? = some x → W.cell? (ad.add j) = some x) (hone : ∀ x ∈ ys, x.oneCell' = true) (hbase : base ≤ W.heap.size) (hlen : n < 100000000)
    (h : ∀ v' w', AppdV W base e size v n xs ys v' w' → wpList P ops Q rest (a.put o.dst v') w') :
    wpList P ops Q (o :: rest) a W := by
  refine wpList_plain hgd fun K hK => ?_
  obtain ⟨v', w', hr, hA⟩ := run_appV ht hinfo hzs hsz hby base W o.type v n xs ad c ys hown hyl hnews hone hbase hlen
  unfold Oper.wp
  simp [execOp, ho, resolve, invoke, builtin, hs, hy, hr, Result.andThen]
  exact hK _ _ (h v' w' hA)
/-- The same as one step of a region that draws its order. -/
theorem stepV (base : Nat) (W : World) {ops : Array Oper} {o : Oper} {a : Act} {K : Act → World → Prop} {Q : Exit → Act → World → Prop} {E : Prop} (hgd : o.guard = none) (s y : Operand)
    (ho : o.op = .call { callee := .builtin .append, args := #[s, y], argTypes := #[t, t] }) (v : Value) (n : Nat) (xs : List Value) (ad : Addr) (c : Nat) (ys : List Value) (hs : a.eval s = v) (hy : a.eval y = .slice (some ad) 1 c)
    (hown : Rdv W base e size v n xs) (hyl : ys.length = size) (hnews : ∀ (j : Nat) (x : Value), ys[j]? = some x → W.cell? (ad.add j) = some x) (hone : ∀ x ∈ ys, x.oneCell' = true) (hbase : base ≤ W.heap.size) (hlen : n < 100000000)
    (h : ∀ v' w', AppdV W base e size v n xs ys v' w' → K (a.put o.dst v') w') :
    if Region.wanted o (yielded ops a.tmps) = true then Oper.wp P o a W K Q else E := by
  have hw : Region.wanted o (yielded ops a.tmps) = true := by simp [Region.wanted, hgd]
  rw [if_pos hw]
  obtain ⟨v', w', hr, hA⟩ := run_appV ht hinfo hzs hsz hby base W o.type v n xs ad c ys hown hyl hnews hone hbase hlen
  unfold Oper.wp
  simp [execOp, ho, resolve, invoke, builtin, hs, hy, hr, Result.andThen]
  exact h v' w' hA
end
/-- An outcome is written out. -/
theorem AppdV.some {W w' : World} {base : Nat} {e : TypeId} {size : Nat} {v v' : Value} {n : Nat} {xs ys : List Value} (h : AppdV W base e size v n xs ys v' w') : ∃ g cap, v' = .slice (some ⟨g, 0, none⟩) (n + 1) cap := by
  rcases rowv_open h.1 with ⟨_, h0⟩ | ⟨g, cap, h0, _⟩
  · simp at h0
  · exact ⟨g, cap, h0⟩
end Go.Esc
