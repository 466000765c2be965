/- The contracts of the reference's Insert and Sorted. -/
import Derived.Test.YtgahkcbkpnehfaaSortPlain
import Derived.Test.YtgahkcbkpnehfaaRefRing
namespace Go.Proofs.Ytgahkcbkpnehfaa.Ref
open Go.RowKit Go.Esc Go.Proofs.Ytgahkcbkpnehfaa.Ring
set_option linter.unusedVariables false

/-- v[k:] of a row of one's own: nil, the same address where nothing is left of the capacity, or further on. -/
theorem OwnI.rest {w : World} {base g cap : Nat} {l : List Int} (h : OwnI w base (.slice (some ⟨g, 0, none⟩) l.length cap) l) (k : Nat) (hk : k ≤ l.length) : Slw w (.slice (some ⟨g, 0 + k, none⟩) (l.length - k) (cap - k)) (l.drop k) := by
  have hs := Slw.ofOwn h
  obtain ⟨a, c, he, hn, _⟩ := hs
  simp only [Value.slice.injEq] at he
  obtain ⟨_, _, rfl⟩ := he
  exact (Slw.ofOwn h).drop k hk rfl (by omega)

set_option maxHeartbeats 2000000 in
theorem insert_any (v : Value) (l : List Int) (x : Int) (base : Nat) (w : World) (h : OwnI w base v l) (hl : l.length ≤ 1000000) : Calls Try.prog 61 #[v, .int .i64 x] w (ListPost (ins x l) w) := by
  rcases h.open with ⟨rfl, rfl⟩ | ⟨g, cap, rfl, hbg, hg, hcap, hcells⟩
  · clear h
    go_enter Try.func61, Try.ntmps61
    go_wp2
    go_loop [5] (fun i => i = .int .i64 0) (fun _ => 0)
    case atStart => rfl
    case round =>
      obtain rfl := hrel
      go_wp2_with (first | (at_builtin; refine appX Try.underlying25 Glob.info3 w.heap.size _ rfl _ _ rfl (.slice (some ⟨w.heap.size, 0, none⟩) 0 0) [] (.slice none 0 0) [] rfl rfl (OwnI.lit w w.heap.size (Nat.le_refl _)) (Slw.nil _) (by simp) (by simp) ?_; intro v1 w1 hA; have hB1 : Below w.heap.size w w1 := below_grown (below_alloc (Below.refl _ _) _) hA.2.1 (fun j hj => by simp [Value.ownBlock] at hj; omega); have HO1 : Hid (OwnI w1 w.heap.size v1 []) := hA.1; have HB1 := Lib.hid hB1; have hs1 := hB1.size; clear hA hB1) | (at_builtin; refine appX Try.underlying25 Glob.info3 w.heap.size _ rfl _ _ rfl v1 [] _ [x] rfl rfl (HO1.out.alloc _) (Slw.new1 w1 x) (size_lit hs1) (by simp) ?_; intro v2 w2 hA; have hB2 : Below w.heap.size w w2 := below_grown (below_alloc HB1.out _) hA.2.1 (fun j hj => (HO1.out.lt j hj).1); have HO2 : Hid (OwnI w2 w.heap.size v2 [x]) := hA.1; have HB2 := Lib.hid hB2; have hs2 := hB2.size; clear hA hB2) | (at_builtin; refine appX Try.underlying25 Glob.info3 w.heap.size _ rfl _ _ rfl v2 [x] (.slice none 0 0) [] rfl rfl HO2.out (Slw.nil _) hs2 (by simp) ?_; intro v3 w3 hA; have hB3 : Below w.heap.size w w3 := below_grown HB2.out hA.2.1 (fun j hj => (HO2.out.lt j hj).1); have HO3 : Hid (OwnI w3 w.heap.size v3 [x]) := hA.1; have HB3 := Lib.hid hB3; clear hA hB3))
      go_ret
      exact ⟨_, rfl, HO3.out, HB3.out⟩
  · have HOwn := Lib.hid h
    have HCells := Lib.hid hcells
    clear h hcells
    go_enter Try.func61, Try.ntmps61
    go_wp2
    go_loop [5] (fun i => ∃ k : Nat, k ≤ l.length ∧ i = .int .i64 k ∧ Hid (∀ i, i < k → l[i]?.getD 0 < x)) (fun i => l.length - (intOf i).toNat)
    case atStart => exact ⟨0, Nat.zero_le _, rfl, fun i hi => by omega⟩
    case round =>
      obtain ⟨k, hk, rfl, HF⟩ := hrel
      by_cases hgo : k < l.length ∧ l[k]?.getD 0 < x
      · obtain ⟨hlt, hx⟩ := hgo
        have cu := HCells.out k hlt
        have HN : Hid (∀ i, i < k + 1 → l[i]?.getD 0 < x) := fun i hi => by
          by_cases e : i = k
          · subst e; exact hx
          · exact HF.out i (by omega)
        generalize l[k]?.getD 0 = y at *
        go_wp2
        go_round
        case rel => exact ⟨k + 1, by omega, by go_num, HN.out⟩
        case measure => simp [intOf]; omega
      · have HI : Hid (ins x l = l.take k ++ [x] ++ l.drop k) := ins_at x l k hk HF.out (fun h1 h2 => hgo ⟨h1, h2⟩)
        have hkl : (k : Int) ≤ (l.length : Int) := by omega
        have hkc : (k : Int) ≤ (cap : Int) := by omega
        have HS1 := Lib.hid ((Slw.ofOwn HOwn.out).take k hk)
        have hln1 : ([] : List Int).length + (l.take k).length < 100000000 := by simp; omega
        have HLn1 := Lib.hid hln1
        have hln2 : (l.take k).length + [x].length < 100000000 := by simp; omega
        have HLn2 := Lib.hid hln2
        have hln3 : (l.take k ++ [x]).length + (l.drop k).length < 100000000 := by simp; omega
        have HLn3 := Lib.hid hln3
        clear hln1 hln2 hln3
        by_cases hlt : k < l.length
        · have cu := HCells.out k hlt
          have hx : ¬ l[k]?.getD 0 < x := fun h => hgo ⟨hlt, h⟩
          have HS2 := Lib.hid (OwnI.rest HOwn.out k hk)
          rw [Nat.zero_add] at HS2
          generalize l[k]?.getD 0 = y at *
          have hdx : decide (y < x) = false := by simpa using hx
          generalize l.take k = l1 at *
          generalize l.drop k = l2 at *
          clear hgo
          go_wp2_with (first | (at_builtin; refine appX Try.underlying25 Glob.info3 w.heap.size _ rfl _ _ rfl (.slice (some ⟨w.heap.size, 0, none⟩) 0 0) [] (.slice (some ⟨g, 0, none⟩) k cap) l1 rfl rfl (OwnI.lit w w.heap.size (Nat.le_refl _)) (HS1.out.alloc _) (by simp) HLn1.out ?_; intro v1 w1 hA; have hB1 : Below w.heap.size w w1 := below_grown (below_alloc (Below.refl _ _) _) hA.2.1 (fun j hj => by simp [Value.ownBlock] at hj; omega); have HO1 : Hid (OwnI w1 w.heap.size v1 l1) := hA.1; have HB1 := Lib.hid hB1; have hs1 := hB1.size; clear hA hB1) | (at_builtin; refine appX Try.underlying25 Glob.info3 w.heap.size _ rfl _ _ rfl v1 l1 _ [x] rfl rfl (HO1.out.alloc _) (Slw.new1 w1 x) (size_lit hs1) HLn2.out ?_; intro v2 w2 hA; have hB2 : Below w.heap.size w w2 := below_grown (below_alloc HB1.out _) hA.2.1 (fun j hj => (HO1.out.lt j hj).1); have HO2 : Hid (OwnI w2 w.heap.size v2 (l1 ++ [x])) := hA.1; have HB2 := Lib.hid hB2; have hs2 := hB2.size; clear hA hB2) | (at_builtin; refine appX Try.underlying25 Glob.info3 w.heap.size _ rfl _ _ rfl v2 (l1 ++ [x]) (.slice (some ⟨g, k, none⟩) (l.length - k) (cap - k)) l2 rfl rfl HO2.out (HS2.out.below HB2.out) hs2 HLn3.out ?_; intro v3 w3 hA; have hB3 : Below w.heap.size w w3 := below_grown HB2.out hA.2.1 (fun j hj => (HO2.out.lt j hj).1); have HO3 : Hid (OwnI w3 w.heap.size v3 (l1 ++ [x] ++ l2)) := hA.1; have HB3 := Lib.hid hB3; clear hA hB3))
          go_ret
          exact ⟨_, rfl, by rw [HI.out]; exact HO3.out, HB3.out⟩
        · obtain rfl : k = l.length := by omega
          generalize l.take l.length = l1 at *
          have HS2 : Hid (∀ w' : World, Slw w' (.slice (some ⟨g, 0, none⟩) 0 0) (l.drop l.length)) := fun w' => by
            rw [List.drop_length]; exact Slw.none0 _ _ _
          have HS3 : Hid (∀ w' : World, Slw w' (.slice (some ⟨g, l.length, none⟩) 0 (cap - l.length)) (l.drop l.length)) := fun w' => by
            rw [List.drop_length]; exact Slw.none0 _ _ _
          generalize l.drop l.length = l2 at *
          clear hgo hlt
          by_cases hcc : cap = l.length
          · subst hcc
            go_wp2_with (first | (at_builtin; refine appX Try.underlying25 Glob.info3 w.heap.size _ rfl _ _ rfl (.slice (some ⟨w.heap.size, 0, none⟩) 0 0) [] (.slice (some ⟨g, 0, none⟩) l.length l.length) l1 rfl rfl (OwnI.lit w w.heap.size (Nat.le_refl _)) (HS1.out.alloc _) (by simp) HLn1.out ?_; intro v1 w1 hA; have hB1 : Below w.heap.size w w1 := below_grown (below_alloc (Below.refl _ _) _) hA.2.1 (fun j hj => by simp [Value.ownBlock] at hj; omega); have HO1 : Hid (OwnI w1 w.heap.size v1 l1) := hA.1; have HB1 := Lib.hid hB1; have hs1 := hB1.size; clear hA hB1) | (at_builtin; refine appX Try.underlying25 Glob.info3 w.heap.size _ rfl _ _ rfl v1 l1 _ [x] rfl rfl (HO1.out.alloc _) (Slw.new1 w1 x) (size_lit hs1) HLn2.out ?_; intro v2 w2 hA; have hB2 : Below w.heap.size w w2 := below_grown (below_alloc HB1.out _) hA.2.1 (fun j hj => (HO1.out.lt j hj).1); have HO2 : Hid (OwnI w2 w.heap.size v2 (l1 ++ [x])) := hA.1; have HB2 := Lib.hid hB2; have hs2 := hB2.size; clear hA hB2) | (at_builtin; refine appX Try.underlying25 Glob.info3 w.heap.size _ rfl _ _ rfl v2 (l1 ++ [x]) _ l2 rfl rfl HO2.out (HS2.out w2) hs2 HLn3.out ?_; intro v3 w3 hA; have hB3 : Below w.heap.size w w3 := below_grown HB2.out hA.2.1 (fun j hj => (HO2.out.lt j hj).1); have HO3 : Hid (OwnI w3 w.heap.size v3 (l1 ++ [x] ++ l2)) := hA.1; have HB3 := Lib.hid hB3; clear hA hB3))
            go_ret
            exact ⟨_, rfl, by rw [HI.out]; exact HO3.out, HB3.out⟩
          · have hcc2 : ¬ l.length = cap := fun e => hcc e.symm
            go_wp2_with (first | (at_builtin; refine appX Try.underlying25 Glob.info3 w.heap.size _ rfl _ _ rfl (.slice (some ⟨w.heap.size, 0, none⟩) 0 0) [] (.slice (some ⟨g, 0, none⟩) l.length cap) l1 rfl rfl (OwnI.lit w w.heap.size (Nat.le_refl _)) (HS1.out.alloc _) (by simp) HLn1.out ?_; intro v1 w1 hA; have hB1 : Below w.heap.size w w1 := below_grown (below_alloc (Below.refl _ _) _) hA.2.1 (fun j hj => by simp [Value.ownBlock] at hj; omega); have HO1 : Hid (OwnI w1 w.heap.size v1 l1) := hA.1; have HB1 := Lib.hid hB1; have hs1 := hB1.size; clear hA hB1) | (at_builtin; refine appX Try.underlying25 Glob.info3 w.heap.size _ rfl _ _ rfl v1 l1 _ [x] rfl rfl (HO1.out.alloc _) (Slw.new1 w1 x) (size_lit hs1) HLn2.out ?_; intro v2 w2 hA; have hB2 : Below w.heap.size w w2 := below_grown (below_alloc HB1.out _) hA.2.1 (fun j hj => (HO1.out.lt j hj).1); have HO2 : Hid (OwnI w2 w.heap.size v2 (l1 ++ [x])) := hA.1; have HB2 := Lib.hid hB2; have hs2 := hB2.size; clear hA hB2) | (at_builtin; refine appX Try.underlying25 Glob.info3 w.heap.size _ rfl _ _ rfl v2 (l1 ++ [x]) _ l2 rfl rfl HO2.out (HS3.out w2) hs2 HLn3.out ?_; intro v3 w3 hA; have hB3 : Below w.heap.size w w3 := below_grown HB2.out hA.2.1 (fun j hj => (HO2.out.lt j hj).1); have HO3 : Hid (OwnI w3 w.heap.size v3 (l1 ++ [x] ++ l2)) := hA.1; have HB3 := Lib.hid hB3; clear hA hB3))
            go_ret
            exact ⟨_, rfl, by rw [HI.out]; exact HO3.out, HB3.out⟩

set_option maxHeartbeats 2000000 in
theorem sorted_any (v : Value) (l : List Int) (w : World) (h : Slw w v l) (hl : l.length ≤ 100000) : Calls Try.prog 29 #[v] w (ListPost (insAll [] l) w) := by
  obtain ⟨a, cap, rfl⟩ := h.len
  have HS := Lib.hid h
  clear h
  go_enter Try.func29, Try.ntmps29
  go_wp2
  go_loopw [3, 4] (fun v i wr => ∃ k : Nat, k ≤ l.length ∧ i = .int .i64 k ∧ OwnI wr w.heap.size v (insAll [] (l.take k)) ∧ Below w.heap.size w wr) (fun _ i _ => l.length - (intOf i).toNat)
  case atStart => exact ⟨0, Nat.zero_le _, rfl, OwnI.nil _ _, Below.refl _ _⟩
  case round =>
    obtain ⟨k, hk, rfl, hown, hB⟩ := hrel
    have hln := insAll_len (l.take k) []
    have hln2 : (l.take k).length ≤ l.length := by simp; omega
    by_cases hlt : k < l.length
    · have hs := HS.out.below hB
      rcases hs.open with ⟨_, h0⟩ | ⟨_, _, _, h0⟩ | ⟨bu, off, cap', he, _, _, hbu, hcells⟩
      · simp [h0] at hlt
      · simp [h0] at hlt
      simp only [Value.slice.injEq] at he
      obtain ⟨rfl, _, rfl⟩ := he
      have cu := hcells k hlt
      have HT := Lib.hid (insAll_snoc l k hlt)
      have hll : (insAll [] (l.take k)).length ≤ 1000000 := by rw [hln]; simp; omega
      generalize l[k]?.getD 0 = x at *
      have HI := Lib.hid (insert_any u3 _ x w.heap.size wr hown hll)
      have HB := Lib.hid hB
      clear hcells hs hown hB hln hln2 hll
      go_wp2_with fail
      refine HI.out.mono ?_
      rintro e w2 ⟨v2, rfl, ho2, hb2⟩
      have HO2 := Lib.hid ho2
      have HB2 := Lib.hid hb2
      clear ho2 hb2
      go_wp2_with fail
      go_roundw
      case rel => exact ⟨k + 1, by omega, by go_num, by rw [HT.out]; exact HO2.out.mono HB.out.size, below_below HB.out HB2.out⟩
      case measure => simp [intOf]; omega
    · obtain rfl : k = l.length := by omega
      rw [List.take_length] at hown
      have HO := Lib.hid hown
      have HB := Lib.hid hB
      clear hown hB hln hln2
      go_wp2_with fail
      go_ret
      exact ⟨_, rfl, HO.out, HB.out⟩
end Go.Proofs.Ytgahkcbkpnehfaa.Ref
