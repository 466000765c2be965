/- Chapter 19: the contract of the document's Resize. -/
import Derived.Test.YtcjgdnlacfpioaaRefPstat
namespace Go.Proofs.Ytcjgdnlacfpioaa.Pstat
open Go.RowKit Go.Esc
set_option linter.unusedVariables false

/-- The document's answer: a list, and a fault. -/
def DoP (base : Nat) (v : Value) (l l' : List Pr) (f : Int) (w : World) (e : Ending) (w' : World) : Prop := ∃ v', e = .returned (.tuple #[v', .int .i64 f]) ∧ Below w.heap.size w w' ∧ ((v' = v ∧ l' = l) ∨ Rp w' w.heap.size v' l')
theorem rresize_bad (base : Nat) (v : Value) (l : List Pr) (p : Int) (w : World) (hv : ∃ a n c, v = .slice a n c) (h : ¬ (1 ≤ p ∧ p ≤ 256)) : Calls Try.prog 43 #[v, .int .i64 p] w (DoP base v l l 2 w) := by
  obtain ⟨a, n, c, rfl⟩ := hv
  by_cases h1 : p < 1
  · have d1 : decide (p < 1) = true := by simpa using h1
    go_enter Try.func43, Try.ntmps43
    go_wp2
    go_ret2
    exact ⟨_, rfl, Below.refl _ _, .inl ⟨rfl, rfl⟩⟩
  · have d1 : decide (p < 1) = false := by simpa using h1
    have d2 : decide (256 < p) = true := by simp; omega
    clear h
    go_enter Try.func43, Try.ntmps43
    go_wp2
    go_ret2
    exact ⟨_, rfl, Below.refl _ _, .inl ⟨rfl, rfl⟩⟩

set_option maxRecDepth 100000 in
set_option maxHeartbeats 4000000 in
theorem rresize_any (base : Nat) (v : Value) (l : List Pr) (m : Nat) (w : World) (h : Rp w base v l) (hl : l.length ≤ 256) (hl0 : 0 < l.length) (h1 : 1 ≤ m) (h2 : m ≤ 256) :
    Calls Try.prog 43 #[v, .int .i64 m] w (DoP base v l (if resOk l then resL l m else l) (if resOk l then 0 else 9) w) := by
  obtain ⟨g, cap, rfl, _, hg2, hc⟩ := h.wide hl0
  have HR := Lib.hid h
  have d1 : decide ((m : Int) < 1) = false := by simp; omega
  have d2 : decide ((256 : Int) < (m : Int)) = false := by simp; omega
  have HOk := Lib.hid (resOk_iff l)
  have HRes : Hid (all34 l → resL l m = refR l m (max m l.length)) := fun h => resL_ref l m h
  obtain ⟨lr, HLr⟩ : ∃ x, Hid ((if resOk l then resL l m else l) = x) := ⟨_, rfl⟩
  obtain ⟨fr, HFr⟩ : ∃ x : Int, Hid ((if resOk l then 0 else 9) = x) := ⟨_, rfl⟩
  rw [HLr.out, HFr.out]
  obtain ⟨n, HN⟩ : ∃ n, Hid (l.length = n) := ⟨_, rfl⟩
  rw [HN.out] at HR hl hc hl0 HRes ⊢
  clear h
  go_enter Try.func43, Try.ntmps43
  go_wp2
  go_loop [6] (fun i => ∃ k : Nat, k ≤ n ∧ i = .int .i64 k ∧ Hid (∀ i, i < k → (l[i]?.getD pz).1 = 3 ∨ (l[i]?.getD pz).1 = 4)) (fun i => n - (intOf i).toNat)
  case atStart => exact ⟨0, Nat.zero_le _, rfl, by show ∀ i, _; intro i hi; omega⟩
  case round =>
    obtain ⟨k, hk, rfl, HF⟩ := hrel
    by_cases hlt : k < n
    · have hd : decide (k < n) = true := by simpa using hlt
      obtain ⟨y0, y1⟩ := HR.out.at k (by rw [HN.out]; exact hlt)
      have hki : (k : Int) < (n : Int) := by omega
      have HNx : Hid ((l[k]?.getD pz).1 = 3 ∨ (l[k]?.getD pz).1 = 4 → ∀ i, i < k + 1 → (l[i]?.getD pz).1 = 3 ∨ (l[i]?.getD pz).1 = 4) := fun h i hi => by
        by_cases e : i = k
        · subst e; exact h
        · exact HF.out i (by omega)
      have HNo : Hid (¬ ((l[k]?.getD pz).1 = 3 ∨ (l[k]?.getD pz).1 = 4) → ¬ resOk l) := fun h hk => h ((HOk.out.1 hk) k (by rw [HN.out]; exact hlt))
      generalize (l[k]?.getD pz).1 = z at *
      by_cases h4 : z = 4
      · have b4 : (z != 4) = false := by simpa using h4
        go_wp2
        go_round
        case rel => exact ⟨k + 1, by omega, by go_num, HNx.out (.inr h4)⟩
        case measure => simp [intOf]; omega
      · have b4 : (z != 4) = true := by simpa using h4
        by_cases h3 : z = 3
        · have b3 : (z != 3) = false := by simpa using h3
          go_wp2
          go_round
          case rel => exact ⟨k + 1, by omega, by go_num, HNx.out (.inl h3)⟩
          case measure => simp [intOf]; omega
        · have b3 : (z != 3) = true := by simpa using h3
          have HNok : Hid (¬ resOk l) := HNo.out (fun h => h.elim h3 h4)
          go_wp2
          go_ret2
          exact ⟨_, by rw [← HFr.out, if_neg HNok.out]; rfl, Below.refl _ _, .inl ⟨rfl, by rw [← HLr.out, if_neg HNok.out]⟩⟩
    · have hd : decide (k < n) = false := by simpa using hlt
      obtain rfl : k = n := by omega
      have HAll : Hid (all34 l) := fun i hi => HF.out i (by rw [← HN.out]; exact hi)
      have HYes : Hid (resOk l) := HOk.out.2 HAll.out
      have HRe := Lib.hid (HRes.out HAll.out)
      clear HF HOk HRes
      go_wp2
      go_loopw [7, 8] (fun lv i wr => ∃ j : Nat, j ≤ max m k ∧ i = .int .i64 j ∧ wr.ownsRow w.heap.size 51 2 lv j (ys (refR l m j)) ∧ Below w.heap.size w wr) (fun _ i _ => max m k - (intOf i).toNat)
      case atStart => exact ⟨0, Nat.zero_le _, rfl, World.ownsRow_nil _ _ 51 2, Below.refl _ _⟩
      case round =>
        obtain ⟨j, hj, rfl, hRow, hB⟩ := hrel
        have HRow := Lib.hid hRow
        have HB := Lib.hid hB
        have HRr := Lib.hid (HR.out.below hB)
        have hsz := hB.size
        have hmx : (m < k ∧ max m k = k) ∨ (¬ m < k ∧ max m k = m) := by omega
        by_cases hjm : j < max m k
        · have HSu : Hid (ys (refR l m (j + 1)) = ys (refR l m j) ++ [.int .i64 (refS l m j).1, .int .i64 (refS l m j).2]) := by show _ = _; rw [refR_succ, ys_append]; rfl
          have HSv : Hid (refS l m j = if m ≤ j then (4, -1) else if j < k ∧ (l[j]?.getD pz).1 = 3 then l[j]?.getD pz else (3, -1)) := by show _ = _; unfold refS; rw [HN.out]
          have hml : m < 100000 := by omega
          clear hRow hB
          have HJm := Lib.hid hjm
          clear hmx hjm
          have hgw : g < wr.heap.size := by omega
          have hmk : (m < k ∧ decide (j < k) = true) ∨ (¬ m < k ∧ decide (j < m) = true) := by
            have := HJm.out
            by_cases e : m < k
            · left; simp; omega
            · right; simp; omega
          by_cases hmj : m ≤ j
          · have dmj : decide (m ≤ j) = true := by simpa using hmj
            rw [HSv.out, if_pos hmj] at HSu
            replace hmk : m < k ∧ decide (j < k) = true := hmk.elim id (fun h => by simp at h; omega)
            obtain ⟨hmk, dlt⟩ := hmk
            go_wp2_with (at_builtin; refine appV Try.underlying49 info51 rfl (by decide) (by decide) w.heap.size _ rfl _ _ rfl u7 j (ys (refR l m j)) ⟨wr.heap.size + 1, 0, none⟩ 1 [.int .i64 4, .int .i64 (-1)] rfl rfl (.inl (rowv_below HRow.out (below_alloc (below_alloc (Below.refl _ _) _) _))) rfl (by have := new2 (wr.alloc (.cells #[.int .i64 4, .int .i64 (-1)] 51)) (.int .i64 4) (.int .i64 (-1)) 51; simpa using this) (one2 _ _) (by simp; omega) (by omega) ?_; intro v' w2 hA; have HA := Lib.hid hA; clear hA)
            go_roundw
            case rel => exact ⟨j + 1, by have := HJm.out; omega, by go_num, by rw [HSu.out]; exact HA.out.1, below_grown (below_alloc (below_alloc HB.out _) _) HA.out.2.1 (fun q hq => (World.ownsRow.lt HRow.out q hq).1)⟩
            case measure => have := HJm.out; simp [intOf]; omega
          · have dmj : decide (m ≤ j) = false := by simpa using hmj
            rw [HSv.out, if_neg hmj] at HSu
            by_cases hjk : j < k
            · have djk : decide (j < k) = true := by simpa using hjk
              have hjki : (j : Int) < (k : Int) := by omega
              obtain ⟨y0, y1⟩ := HRr.out.at j (by rw [HN.out]; exact hjk)
              by_cases h3 : (l[j]?.getD pz).1 = 3
              · rw [if_pos ⟨hjk, h3⟩, h3] at HSu
                rw [h3] at y0
                clear h3 HSv
                generalize (l[j]?.getD pz).2 = z2 at *
                rcases hmk with ⟨hmk, dlt⟩ | ⟨hmk, dlt⟩
                all_goals
                  go_wp2_with (at_builtin; refine appV Try.underlying49 info51 rfl (by decide) (by decide) w.heap.size _ rfl _ _ rfl u7 j (ys (refR l m j)) ⟨wr.heap.size + 1, 0, none⟩ 1 [.int .i64 3, .int .i64 z2] rfl rfl (.inl (rowv_below HRow.out (below_alloc (below_alloc (Below.refl _ _) _) _))) rfl (by have := new2 (wr.alloc (.cells #[.int .i64 3, .int .i64 z2] 51)) (.int .i64 3) (.int .i64 z2) 51; simpa using this) (one2 _ _) (by simp; omega) (by omega) ?_; intro v' w2 hA; have HA := Lib.hid hA; clear hA)
                  go_roundw
                  case rel => exact ⟨j + 1, by have := HJm.out; omega, by go_num, by rw [HSu.out]; exact HA.out.1, below_grown (below_alloc (below_alloc HB.out _) _) HA.out.2.1 (fun q hq => (World.ownsRow.lt HRow.out q hq).1)⟩
                  case measure => have := HJm.out; simp [intOf]; omega
              · rw [if_neg (fun h => h3 h.2)] at HSu
                have b3 : ((l[j]?.getD pz).1 == 3) = false := by rw [beq_eq_false_iff_ne]; exact h3
                clear h3 HSv
                generalize (l[j]?.getD pz).1 = z1 at *
                generalize (l[j]?.getD pz).2 = z2 at *
                rcases hmk with ⟨hmk, dlt⟩ | ⟨hmk, dlt⟩
                all_goals
                  go_wp2_with (at_builtin; refine appV Try.underlying49 info51 rfl (by decide) (by decide) w.heap.size _ rfl _ _ rfl u7 j (ys (refR l m j)) ⟨wr.heap.size + 1, 0, none⟩ 1 [.int .i64 3, .int .i64 (-1)] rfl rfl (.inl (rowv_below HRow.out (below_alloc (below_alloc (Below.refl _ _) _) _))) rfl (by have := new2 (wr.alloc (.cells #[.int .i64 3, .int .i64 (-1)] 51)) (.int .i64 3) (.int .i64 (-1)) 51; simpa using this) (one2 _ _) (by simp; omega) (by omega) ?_; intro v' w2 hA; have HA := Lib.hid hA; clear hA)
                  go_roundw
                  case rel => exact ⟨j + 1, by have := HJm.out; omega, by go_num, by rw [HSu.out]; exact HA.out.1, below_grown (below_alloc (below_alloc HB.out _) _) HA.out.2.1 (fun q hq => (World.ownsRow.lt HRow.out q hq).1)⟩
                  case measure => have := HJm.out; simp [intOf]; omega
            · have djk : decide (j < k) = false := by simpa using hjk
              rw [if_neg (fun h => hjk h.1)] at HSu
              replace hmk : ¬ m < k ∧ decide (j < m) = true := hmk.elim (fun h => by simp at h; omega) id
              obtain ⟨hmk, dlt⟩ := hmk
              go_wp2_with (at_builtin; refine appV Try.underlying49 info51 rfl (by decide) (by decide) w.heap.size _ rfl _ _ rfl u7 j (ys (refR l m j)) ⟨wr.heap.size + 1, 0, none⟩ 1 [.int .i64 3, .int .i64 (-1)] rfl rfl (.inl (rowv_below HRow.out (below_alloc (below_alloc (Below.refl _ _) _) _))) rfl (by have := new2 (wr.alloc (.cells #[.int .i64 3, .int .i64 (-1)] 51)) (.int .i64 3) (.int .i64 (-1)) 51; simpa using this) (one2 _ _) (by simp; omega) (by omega) ?_; intro v' w2 hA; have HA := Lib.hid hA; clear hA)
              go_roundw
              case rel => exact ⟨j + 1, by have := HJm.out; omega, by go_num, by rw [HSu.out]; exact HA.out.1, below_grown (below_alloc (below_alloc HB.out _) _) HA.out.2.1 (fun q hq => (World.ownsRow.lt HRow.out q hq).1)⟩
              case measure => have := HJm.out; simp [intOf]; omega
        · obtain rfl : j = max m k := by omega
          have HEnd : Hid (Rp wr w.heap.size u7 lr) := by
            show Rp _ _ _ _
            rw [← HLr.out, if_pos HYes.out, HRe.out]
            unfold Rp
            rw [refR_len]
            exact HRow.out
          clear hRow hB
          rcases hmx with ⟨hmk, hmx⟩ | ⟨hmk, hmx⟩
          · rw [hmx]
            have hkk : decide (k < k) = false := by simp
            go_wp2
            go_ret2
            exact ⟨_, by rw [← HFr.out, if_pos HYes.out]; rfl, HB.out, .inr HEnd.out⟩
          · rw [hmx]
            have hkk : decide (m < m) = false := by simp
            go_wp2
            go_ret2
            exact ⟨_, by rw [← HFr.out, if_pos HYes.out]; rfl, HB.out, .inr HEnd.out⟩
end Go.Proofs.Ytcjgdnlacfpioaa.Pstat
