/- Rows of one's own: append of several elements, with the block of the outcome. Nothing of a program in sight. -/
import Derived.Test.YtcjgdnlacfpioaaRowv
namespace Go.Esc
open Go.RowKit

def AppdM (W : World) (base : Nat) (e : TypeId) (size : Nat) (v : Value) (n : Nat) (xs : List Value) (m : Nat) (ys : List Value) (v' : Value) (w' : World) : Prop :=
  w'.ownsRow base e size v' (n + m) (xs ++ ys) ∧ W.grownBy w' v.ownBlock ∧ ∀ j, v'.ownBlock = some j → v.ownBlock = some j ∨ W.heap.size ≤ j
section
variable {P : Program} {t e : TypeId} {size bytes : Nat} {z : Value} (ht : P.underlying t = some (.slice e)) (hinfo : (P.info? e).map (fun i => (i.zero, i.size, i.bytes)) = some (some z, size, bytes)) (hzs : z.cells.size = size) (hsz : 0 < size) (hby : bytes ≤ 1000)
include ht hinfo hzs hsz hby
theorem run_appM (base : Nat) (W : World) (ty : TypeId) (v : Value) (n : Nat) (xs : List Value) (ad : Addr) (m c : Nat) (ys : List Value) (hown : W.ownsRow base e size v n xs) (hyl : ys.length = m * size) (hnews : ∀ (j : Nat) (x : Value), ys[j]? = some x → W.cell? (ad.add j) = some x) (hone : ∀ x ∈ ys, x.oneCell' = true) (hbase : base ≤ W.heap.size) (hlen : n + m < 100000000) (_hm : 0 < m) :
    ∃ v' w', (Builtin.append_ #[t, t] ty #[v, .slice (some ad) m c]).run P W = .ok v' w' ∧ AppdM W base e size v n xs m ys v' w' := by
  obtain ⟨i0, hi, hz0, hz1, hz2⟩ : ∃ i, P.info? e = some i ∧ i.zero = some z ∧ i.size = size ∧ i.bytes = bytes := by
    obtain ⟨i, hi, hh⟩ := Option.map_eq_some_iff.1 hinfo
    simp only [Prod.mk.injEq] at hh
    exact ⟨i, hi, hh.1, hh.2.1, hh.2.2⟩
  have hbyt : (n + m) * bytes ≤ 140737488355328 := by
    have := Nat.mul_le_mul (show n + m ≤ 100000000 by omega) hby
    omega
  have h63 : n + m ≤ maxLen := by unfold maxLen; omega
  rcases rowv_open hown with ⟨rfl, rfl⟩ | ⟨g, cap, rfl, hbg, hg, hcap, hcells⟩
  · have hx : xs = [] := by have := hown.1; simpa using this
    subst hx
    obtain ⟨v', w', hr, h1, h2, _⟩ := run_append_own (P := P) W W.heap.size t ty e i0 z size bytes ht hi hz0 hz1 hz2 hzs hsz (.slice none 0 0) 0 [] (World.ownsRow_nil W _ e size) ad m c ys hyl hnews hone (by omega) (by omega) (Nat.le_refl _)
    exact ⟨v', w', hr, rowv_mono h1 hbase, h2, fun j hj => .inr (World.ownsRow.lt h1 j hj).1⟩
  · by_cases hroom : n + m ≤ cap
    · obtain ⟨w', hr, h1, h2⟩ := run_append_fits (P := P) W base t ty e i0 size ht hi hz1 g n cap _ hown ad m c ys hyl hnews hone hroom
      exact ⟨_, w', hr, h1, h2, fun j hj => .inl hj⟩
    · obtain ⟨v', w', hr, h1, h2⟩ := run_append_arg_grows (P := P) W t ty e i0 z size bytes ht hi hz0 hz1 hz2 hzs hsz ⟨g, 0, none⟩ n cap xs hown.1 (fun j x hj => by
          have hjl : j < n * size := by have := (List.getElem?_eq_some_iff.1 hj).1; rw [hown.1] at this; exact this
          rw [Go.WideShapes.add_plain, Nat.zero_add, hcells j hjl, hj]
          rfl) ad m c ys hyl hnews (by omega) h63 hbyt
      exact ⟨v', w', hr, rowv_mono h1 hbase, ⟨h2.os, h2.tape, h2.output, h2.size, fun k hk _ => h2.block k hk (by simp)⟩, fun j hj => .inr (World.ownsRow.lt h1 j hj).1⟩
theorem appM (base : Nat) (W : World) {ops : Array Oper} {rest : List Oper} {o : Oper} {a : Act} {Q : Exit → Act → World → Prop} (hgd : o.guard = none) (s y : Operand)
    (ho : o.op = .call { callee := .builtin .append, args := #[s, y], argTypes := #[t, t] }) (v : Value) (n : Nat) (xs : List Value) (ad : Addr) (m c : Nat) (ys : List Value) (hs : a.eval s = v) (hy : a.eval y = .slice (some ad) m c)
    (hown : W.ownsRow base e size v n xs) (hyl : ys.length = m * size) (hnews : ∀ (j : Nat) (x : Value), ys[j]? = some x → W.cell? (ad.add j) = some x) (hone : ∀ x ∈ ys, x.oneCell' = true) (hbase : base ≤ W.heap.size) (hlen : n + m < 100000000) (hm : 0 < m)
    (h : ∀ v' w', AppdM W base e size v n xs m ys v' w' → wpList P ops Q rest (a.put o.dst v') w') :
    wpList P ops Q (o :: rest) a W := by
  refine wpList_plain hgd fun K hK => ?_
  obtain ⟨v', w', hr, hA⟩ := run_appM ht hinfo hzs hsz hby base W o.type v n xs ad m c ys hown hyl hnews hone hbase hlen hm
  unfold Oper.wp
  simp [execOp, ho, resolve, invoke, builtin, hs, hy, hr, Result.andThen]
  exact hK _ _ (h v' w' hA)
end
theorem AppdM.some {W w' : World} {base : Nat} {e : TypeId} {size : Nat} {v v' : Value} {n m : Nat} {xs ys : List Value} (h : AppdM W base e size v n xs m ys v' w') (hm : 0 < m) : ∃ g cap, v' = .slice (some ⟨g, 0, none⟩) (n + m) cap := by
  rcases rowv_open h.1 with ⟨_, h0⟩ | ⟨g, cap, h0, _⟩
  · omega
  · exact ⟨g, cap, h0⟩
end Go.Esc
