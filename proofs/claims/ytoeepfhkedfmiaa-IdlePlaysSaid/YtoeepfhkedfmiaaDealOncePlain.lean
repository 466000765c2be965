/- Chapter 17, in plain numbers: each processor just once, the others all but one's own, and each the first one as often as each other. Nothing of a program in sight. -/
import Derived.Test.YtoeepfhkedfmiaaDealPlain
namespace Go.Esc

theorem pigeon (n : Nat) : ∀ (l : List Int), l.Nodup → (∀ x ∈ l, 0 ≤ x ∧ x < n) → l.length ≤ n := by
  induction n with
  | zero =>
    intro l _ h
    match l with
    | [] => simp
    | x :: _ => have := h x (by simp); omega
  | succ n ih =>
    intro l hn h
    by_cases hm : (n : Int) ∈ l
    · have h1 := List.length_erase_of_mem hm
      have h2 := ih (l.erase (n : Int)) (hn.erase _) (fun x hx => by
        obtain ⟨hne, hx'⟩ := hn.mem_erase_iff.1 hx
        have := h x hx'
        omega)
      omega
    · have h2 := ih l hn (fun x hx => by
        have := h x hx
        have : x ≠ n := fun e => hm (e ▸ hx)
        omega)
      omega

theorem pigeon_all {n : Nat} {l : List Int} (hn : l.Nodup) (h : ∀ x ∈ l, 0 ≤ x ∧ x < n) (hl : l.length = n) {y : Int} (h0 : 0 ≤ y) (h1 : y < n) : y ∈ l := by
  by_cases hm : y ∈ l
  · exact hm
  · have := pigeon n (y :: l) (List.nodup_cons.2 ⟨hm, hn⟩) (fun x hx => by
      rcases List.mem_cons.1 hx with rfl | hx
      · exact ⟨h0, h1⟩
      · exact h x hx)
    simp at this
    omega

/-- All places of a draw: as many as there are, each one, none twice. -/
theorem order_all {n draw : Int} (h : ¬ dealBad n) : (orderL n draw).length = n.toNat ∧ (orderL n draw).Nodup ∧ ∀ x ∈ orderL n draw, 0 ≤ x ∧ x < n := by
  have h' := h
  unfold dealBad at h'
  have hw := ways_pos h
  obtain ⟨_, _, hs1, hs2, hcop⟩ := copL_mem (step_mem h (modZ_lo draw (waysZ n)) (modZ_hi draw _ (by omega)))
  rw [orderL_good h]
  refine ⟨by simp, ?_, ?_⟩
  · rw [List.Nodup, List.pairwise_map]
    refine List.Pairwise.imp_of_mem ?_ List.pairwise_lt_range
    intro a b ha hb hlt
    exact walkAt_inj (by omega) hs1 hcop hlt (by have := List.mem_range.1 hb; omega)
  · intro x hx
    obtain ⟨k, _, rfl⟩ := List.mem_map.1 hx
    exact ⟨walkAt_lo _ _ _ _ (by omega), walkAt_hi _ _ _ _ (by omega)⟩

theorem others_len {n self draw : Int} (h : ¬ dealBad n) : ((othersL n self draw).length : Int) = if 0 ≤ self ∧ self < n then n - 1 else n := by
  have h' := h
  unfold dealBad at h'
  obtain ⟨h1, h2, h3⟩ := order_all (draw := draw) h
  unfold othersL
  rw [← h2.erase_eq_filter]
  split
  · rename_i hs
    have hm : self ∈ orderL n draw := pigeon_all (n := n.toNat) h2 (fun x hx => by have := h3 x hx; omega) h1 hs.1 (by omega)
    rw [List.length_erase_of_mem hm, h1]
    omega
  · rename_i hs
    rw [List.erase_of_not_mem, h1]
    · omega
    · intro hm
      exact hs (h3 self hm)

theorem order_first {n : Int} {d : Nat} (h : ¬ dealBad n) (hd : (d : Int) < waysZ n) : (orderL n d)[0]?.getD 0 = (d : Int) % n := by
  have h' := h
  unfold dealBad at h'
  have hm : modZ d (waysZ n) = d := by
    unfold modZ
    rw [if_neg (by omega)]
    exact Int.emod_eq_of_lt (by omega) hd
  rw [orderL_good h, hm]
  have hp : 0 < n.toNat := by omega
  simp only [List.getElem?_map, List.getElem?_range hp, Option.map_some, Option.getD_some]
  rw [walkAt_zero _ _ _ (by omega)]
  unfold modZ
  rw [if_neg (by omega), Int.emod_emod_of_dvd _ (Int.dvd_refl _)]

/-- How many of the first d numbers leave i. -/
def cnt (n i : Nat) : Nat → Nat
  | 0 => 0
  | d + 1 => cnt n i d + if d % n = i then 1 else 0

theorem cnt_row (n i : Nat) (hi : i < n) (c : Nat) (hc : cnt n i (n * c) = c) : ∀ j, j ≤ n → cnt n i (n * c + j) = c + if i < j then 1 else 0
  | 0, _ => by simp [hc]
  | j + 1, h => by
    rw [← Nat.add_assoc, cnt, cnt_row n i hi c hc j (by omega)]
    have : (n * c + j) % n = j := by rw [Nat.mul_add_mod]; exact Nat.mod_eq_of_lt (by omega)
    rw [this]
    by_cases h1 : j = i
    · subst h1; simp
    · rcases Nat.lt_or_ge i j with h2 | h2
      · rw [if_pos h2, if_neg h1, if_pos (by omega)]
      · rw [if_neg (by omega), if_neg h1, if_neg (by omega)]

theorem cnt_all (n i : Nat) (hi : i < n) : ∀ c, cnt n i (n * c) = c
  | 0 => by simp [cnt]
  | c + 1 => by
    rw [Nat.mul_succ, cnt_row n i hi c (cnt_all n i hi c) n (Nat.le_refl _), if_pos hi]
theorem cnt_le (n i : Nat) : ∀ d, cnt n i d ≤ d
  | 0 => by simp [cnt]
  | d + 1 => by have := cnt_le n i d; rw [cnt]; split <;> omega

end Go.Esc
