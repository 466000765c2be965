/- Chapter 03: what acts on a note come to, in plain numbers; nothing of a program in sight. -/
import Derived.Test.YtoeepfhkedfmiaaNote
namespace Go.Proofs.Ytoeepfhkedfmiaa.Note

/-- The note (state s, who q) is as the document's (set st, who n - 1 or nobody). -/
def Like (s q : Int) (st : Bool) (n : Int) : Prop :=
  (s = 0 ∧ st = false ∧ n = 0) ∨ (s = 1 ∧ st = false ∧ n = q + 1 ∧ 0 ≤ q ∧ q ≤ 1099511627776) ∨ (s = 2 ∧ st = true ∧ n = 0)

theorem like_step {s q : Int} {st : Bool} {n : Int} (k who : Int) (h : Like s q st n) :
    (actF k who s q).1 = (doF k who st n).2.1 ∧ (actF k who s q).2.1 = (doF k who st n).2.2 ∧ Like (actF k who s q).2.2.1 (actF k who s q).2.2.2 (doF k who st n).1.1 (doF k who st n).1.2 := by
  unfold actF doF
  rcases h with ⟨rfl, rfl, rfl⟩ | ⟨rfl, rfl, rfl, h0, h1⟩ | ⟨rfl, rfl, rfl⟩
  · by_cases hk : k = 0
    · simp [hk, Like]
    · by_cases hk1 : k = 1
      · by_cases hw : who < 0 ∨ 1099511627776 < who
        · simp [hk1, hw, Like]
        · simp [hk1, hw, Like]; omega
      · simp [hk, hk1, Like]
  · by_cases hk : k = 0
    · have h2 : 0 < q + 1 := by omega
      simp [hk, Like, h0, h1, h2]
    · by_cases hk1 : k = 1
      · by_cases hw : who < 0 ∨ 1099511627776 < who
        · simp [hk1, hw, Like, h0, h1]
        · by_cases hq : q = who
          · subst hq; simp [hk1, hw, Like]; omega
          · have : ¬ q + 1 = who + 1 := by omega
            have h2 : 0 < q + 1 := by omega
            simp [hk1, hw, Like, hq, h0, h1, h2]
      · simp [hk, hk1, Like]
  · by_cases hk : k = 0
    · simp [hk, Like]
    · by_cases hk1 : k = 1
      · by_cases hw : who < 0 ∨ 1099511627776 < who
        · simp [hk1, hw, Like]
        · simp [hk1, hw, Like]
      · simp [hk, hk1, Like]

theorem step_ex {s q : Int} {st : Bool} {n : Int} (k who : Int) (h : Like s q st n) :
    ∃ x fl s' q' st' n', Go.RowKit.Hid (actF k who s q = (x, fl, s', q')) ∧ Go.RowKit.Hid (doF k who st n = ((st', n'), x, fl)) ∧ Like s' q' st' n' := by
  have hst := like_step k who h
  rcases hA : actF k who s q with ⟨x, fl, s', q'⟩
  rcases hD : doF k who st n with ⟨⟨st', n'⟩, x', fl'⟩
  rw [hA, hD] at hst
  obtain ⟨e1, e2, e3⟩ := hst
  dsimp only at e1 e2 e3
  subst e1 e2
  exact ⟨x, fl, s', q', st', n', rfl, rfl, e3⟩

end Go.Proofs.Ytoeepfhkedfmiaa.Note
