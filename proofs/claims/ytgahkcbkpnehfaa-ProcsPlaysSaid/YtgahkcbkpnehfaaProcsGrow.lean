/- Chapter 23: the contracts of grow and New. -/
import Derived.Test.YtgahkcbkpnehfaaProcsTotal
import Derived.Test.YtgahkcbkpnehfaaQueueGet
namespace Go.Proofs.Ytgahkcbkpnehfaa.Procs
open Go.RowKit Go.Esc
open Go.Proofs.Ytgahkcbkpnehfaa.Ring (Rw Sg allL)
open Go.Proofs.Ytgahkcbkpnehfaa.Glob (Gr)
set_option linter.unusedVariables false

theorem info34 : (Try.prog.info? 34).map (fun i => (i.zero, i.size, i.bytes)) = some (some (.pointer none), 1, 8) := by kernel_rfl

def more (n : Nat) (R : Nat → Rn) (b g : Nat) : Nat → Rn := fun i => if i = n then ⟨b, g, 0, []⟩ else R i
theorem ptrs_more (n : Nat) (R : Nat → Rn) (b g : Nat) : ptrs (n + 1) (more n R b g) = ptrs n R ++ [.pointer (some ⟨b, 0, none⟩)] := by
  unfold ptrs
  rw [List.range_succ, List.map_append]
  congr 1
  · apply List.map_congr_left
    intro i hi
    have : i ≠ n := by have := List.mem_range.1 hi; omega
    simp [more, this]
  · simp [more]
theorem more_lt {n : Nat} {R : Nat → Rn} {b g i : Nat} (h : i < n) : more n R b g i = R i := by simp [more, show i ≠ n by omega]

theorem Prc.grow {W W1 w2 : World} {p : Nat} {rv rv' : Value} {n : Nat} {R : Nat → Rn} {b g : Nat} {tmp : Obj} (h : Prc W p rv n R) (hb : Below W.heap.size W W1) (hr : Rw W1 b g 256 0 []) (hbn : W.heap.size ≤ b) (hgn : W.heap.size ≤ g)
    (hA : AppdV (W1.alloc tmp) 0 34 1 rv n (ptrs n R) [.pointer (some ⟨b, 0, none⟩)] rv' w2) :
    Blk w2 p #[rv] 93 ∧ Prc (w2.setCell ⟨p, 0, none⟩ rv') p rv' (n + 1) (more n R b g) ∧ Only (Pf p rv n R) W (w2.setCell ⟨p, 0, none⟩ rv') ∧ Gr (Pf p rv n R) (Pf p rv' (n + 1) (more n R b g)) W := by
  obtain ⟨ho, hg, hx⟩ := hA
  have hlt := h.blk.lt
  have hs1 := hb.size
  have hrl := hr.lt
  have hba : Below W.heap.size W (W1.alloc tmp) := below_alloc hb tmp
  have hO2 : Only (fun j => rv.ownBlock = some j) (W1.alloc tmp) w2 := (Only.refl _ _).grown hg (fun j e => .inr e)
  have hOW : Only (fun j => rv.ownBlock = some j) W w2 := ((Only.refl _ W).below hba).andThen hO2 (fun j hj hs => hs)
  have hb2 : Blk w2 p #[rv] 93 := h.blk.only hOW (fun e => h.np e)
  have hO3 : Only (fun j => j = p ∨ rv.ownBlock = some j) W (w2.setCell ⟨p, 0, none⟩ rv') := (hOW.mono (fun k _ hk => .inr hk)).set (.inr (.inl rfl)) 0 rv'
  have hnew : ∀ j, rv'.ownBlock = some j → rv.ownBlock = some j ∨ W1.heap.size ≤ j := fun j hj => (hx j hj).imp id (fun x => by simp at x; omega)
  have hnp : rv'.ownBlock ≠ some p := fun e => by
    rcases hnew p e with h' | h'
    · exact h.np h'
    · omega
  have hrr : ∀ i, i < n → Off (Sg (R i).b (R i).g) rv' := fun i hi j hj hs => by
    rcases hnew j hj with h' | h'
    · exact h.rr i hi j h' hs
    · have := h.lt (j := j) (.inr (.inr ⟨i, hi, hs⟩)); omega
  have hrn : Off (Sg b g) rv' := fun j hj hs => by
    rcases hnew j hj with h' | h'
    · have := (h.own.lt j h').2
      rcases hs with hs | hs <;> omega
    · rcases hs with hs | hs <;> omega
  have hold : ∀ i, i < n → ∀ j, Sg (R i).b (R i).g j → ¬ Sg b g j := fun i hi j hj hs => by
    have := h.lt (j := j) (.inr (.inr ⟨i, hi, hj⟩))
    rcases hs with hs | hs <;> omega
  refine ⟨hb2, ⟨hb2.set 0 rv', ?_, ?_, hnp, ?_, ?_, ?_⟩, hO3.mono (fun k _ hk => hk.elim .inl (fun x => .inr (.inl x))), ?_⟩
  · rw [ptrs_more]
    exact .inl (World.ownsRow.kept ho (grown_set w2 p 0 rv') (.inr hnp))
  · intro i hi
    by_cases e : i = n
    · subst e
      simp only [more, if_true]
      have h1 : Rw (W1.alloc tmp) b g 256 0 [] := hr.below (below_alloc (Below.refl _ _) _)
      have h2 : Rw w2 b g 256 0 [] := h1.only hO2 (fun j hj hs => by have := (h.own.lt j hs).2; rcases hj with hj | hj <;> omega)
      exact h2.only (S := fun j => j = p) ((Only.refl (fun j => j = p) w2).set (.inr rfl) 0 rv') (fun j hj hs => by have e' : j = p := hs; rcases hj with hj | hj <;> omega)
    · rw [more_lt (by omega)]
      exact (h.ring i (by omega)).only hO3 (fun j hj hs => hs.elim (fun e => h.rp i (by omega) (e ▸ hj)) (fun e => h.rr i (by omega) j e hj))
  · intro i hi
    by_cases e : i = n
    · subst e; simp only [more, if_true]; intro hs; rcases hs with hs | hs <;> omega
    · rw [more_lt (by omega)]; exact h.rp i (by omega)
  · intro i hi
    by_cases e : i = n
    · subst e; simp only [more, if_true]; exact hrn
    · rw [more_lt (by omega)]; exact hrr i (by omega)
  · intro i j hi hj hne k hk
    by_cases e : i = n
    · subst e
      rw [more_lt (show j < i by omega)]
      simp only [more, if_true] at hk
      exact fun hs => hold j (by omega) k hs hk
    · rw [more_lt (show i < n by omega)] at hk
      by_cases e2 : j = n
      · subst e2; simp only [more, if_true]; exact hold i (by omega) k hk
      · rw [more_lt (show j < n by omega)]; exact h.dis i j (by omega) (by omega) hne k hk
  · rintro j (rfl | hj | ⟨i, hi, hj⟩)
    · exact .inl (.inl rfl)
    · rcases hnew j hj with h' | h'
      · exact .inl (.inr (.inl h'))
      · exact .inr (by omega)
    · by_cases e : i = n
      · subst e; simp only [more, if_true] at hj; right; rcases hj with hj | hj <;> omega
      · rw [more_lt (by omega)] at hj; exact .inl (.inr (.inr ⟨i, by omega, hj⟩))
end Go.Proofs.Ytgahkcbkpnehfaa.Procs
