/- Chapter 20, in plain lists: a chain through an array. Nothing of a program in sight. -/
import Derived.Test.YtoeepfhkedfmiaaOnly
namespace Go.Esc

/-- Of each id the one that came ahead of it: -1 nobody, -2 it is not there. -/
def link : List Int → Int → Int
  | [], _ => -2
  | a :: r, i => if i = a then r.headD (-1) else link r i

theorem link_no : ∀ {x : List Int} {i : Int}, i ∉ x → link x i = -2
  | [], _, _ => rfl
  | a :: r, i, h => by
    rw [link, if_neg (fun e => h (by simp [e]))]
    exact link_no (fun hm => h (by simp [hm]))
theorem link_at : ∀ (p : List Int) (q : Int) (s : List Int), q ∉ p → link (p ++ q :: s) q = s.headD (-1)
  | [], q, s, _ => by simp [link]
  | a :: p, q, s, h => by
    simp only [List.cons_append, link]
    rw [if_neg (fun e => h (by simp [e]))]
    exact link_at p q s (fun hm => h (by simp [hm]))
theorem headD_lo {x : List Int} (h : ∀ y ∈ x, 0 ≤ y) : -1 ≤ x.headD (-1) := by
  cases x with
  | nil => simp
  | cons a r => have := h a (by simp); simp; omega
theorem link_yes : ∀ {x : List Int} {i : Int}, (∀ y ∈ x, 0 ≤ y) → i ∈ x → -1 ≤ link x i
  | a :: r, i, h, hm => by
    rw [link]
    split
    · exact headD_lo (fun y hy => h y (by simp [hy]))
    · rename_i hne
      rcases List.mem_cons.1 hm with e | hm
      · exact absurd e hne
      · exact link_yes (fun y hy => h y (by simp [hy])) hm
theorem link_has {x : List Int} {i : Int} (h : ∀ y ∈ x, 0 ≤ y) : (link x i != -2) = decide (i ∈ x) := by
  by_cases hm : i ∈ x
  · have := link_yes h hm
    rw [decide_eq_true hm, bne_iff_ne]; omega
  · rw [decide_eq_false hm, link_no hm]; rfl

/-- One is taken out of the chain: of all others but the last one ahead nothing changes. -/
theorem link_other : ∀ (p : List Int) (id : Int) (r : List Int) (j : Int), j ≠ id → (∀ p0 q, p = p0 ++ [q] → j ≠ q) → link (p ++ r) j = link (p ++ id :: r) j
  | [], id, r, j, hj, _ => by simp only [List.nil_append, link]; rw [if_neg hj]
  | a :: p, id, r, j, hj, hl => by
    simp only [List.cons_append, link]
    by_cases hja : j = a
    · rw [if_pos hja, if_pos hja]
      cases p with
      | nil => exact absurd hja (hl [] a rfl)
      | cons b p' => rfl
    · rw [if_neg hja, if_neg hja]
      exact link_other p id r j hj (fun p0 q e => hl (a :: p0) q (by rw [e]; rfl))

theorem erase_split {p : List Int} {id : Int} {r : List Int} (h : id ∉ p) : (p ++ id :: r).erase id = p ++ r := by
  rw [List.erase_append_right _ h]; simp

end Go.Esc
