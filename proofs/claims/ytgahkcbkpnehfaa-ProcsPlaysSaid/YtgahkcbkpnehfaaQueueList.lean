/- Chapter 16: the contract of List. -/
import Derived.Test.YtgahkcbkpnehfaaBackward
namespace Go.Proofs.Ytgahkcbkpnehfaa.Glob
open Go.RowKit Go.Shelf Go.Esc
attribute [local go_sem] Oper.semAt_some
set_option linter.unusedVariables false

theorem wp_normal {P : Program} {c : Code} {K : Act → World → Prop} {Q : Exit → Act → World → Prop} {a : Act} {w : World} (h : c.wp P (Exit.then K (fun _ _ _ => False)) a w) : c.wp P (Exit.then K Q) a w :=
  Code.wp_mono (fun e a w h => by cases e <;> first | exact h | exact h.elim) h

def ListPost (L : List Int) (w : World) (e : Ending) (w' : World) : Prop := ∃ v, e = .returned v ∧ OwnI w' w.heap.size v L ∧ Below w.heap.size w w'

theorem owns_mono {w : World} {base base' : Nat} {e : TypeId} {size : Nat} {v : Value} {n : Nat} {xs : List Value} (h : w.ownsRow base e size v n xs) (hb : base' ≤ base) : w.ownsRow base' e size v n xs := by
  obtain ⟨h1, h2 | ⟨g, cap, cur, hv, hg, hh, r⟩⟩ := h
  · exact ⟨h1, .inl h2⟩
  · exact ⟨h1, .inr ⟨g, cap, cur, hv, Nat.le_trans hb hg, hh, r⟩⟩

/-- Behind 'out = append(out, x)', the row's blocks lying from R on: what the walk owes, and that other blocks below R are as they were. -/
theorem appended2 {W w1 : World} {n₀ R B : Nat} {t e : TypeId} {size : Nat} {v v' : Value} {k m : Nat} {xs ys : List Value} {tmp : Obj}
    (hv : Boxed W B t v) (hte : t ≠ e) (hrow : W.ownsRow R e size v k xs) (hn₀ : n₀ ≤ W.heap.size) (hB : n₀ ≤ B) (hR : n₀ ≤ R)
    (hown' : w1.ownsRow R e size v' m ys) (hgrow : (W.alloc tmp).grownBy w1 v.ownBlock) :
    Boxed w1 B t v ∧ Boxed (w1.setCell ⟨B, 0, none⟩ v') B t v' ∧ (w1.setCell ⟨B, 0, none⟩ v').ownsRow R e size v' m ys ∧ KeepsOthers W (w1.setCell ⟨B, 0, none⟩ v') ∧ Below n₀ W (w1.setCell ⟨B, 0, none⟩ v') ∧
      ∀ b, b < R → b ≠ B → b < W.heap.size → (w1.setCell ⟨B, 0, none⟩ v').heap[b]? = W.heap[b]? := by
  obtain ⟨h1, h2, _, h4, h5⟩ := hv.appended hte (owns_mono hrow hR) hn₀ hB (owns_mono hown' hR) hgrow
  refine ⟨h1, h2, hown'.kept (grownBy_setCell' w1 B v') (.inr (h1.not_row hte hown').symm), h4, h5, fun b hb hne hlt => ?_⟩
  rw [Below.heap_setCell _ _ _ b hne, hgrow.block b (by simp; omega) ?_, Below.heap_alloc _ _ _ hlt]
  intro e
  have := (hrow.lt b e.symm).1
  omega

theorem keepsU_of {c B R : Nat} {W W' : World} {u : Value} (h : ∀ k, k < R → k ≠ B → k < W.heap.size → W'.heap[k]? = W.heap[k]?) (hs : W.heap.size ≤ W'.heap.size) (hc : c ≠ B) (hcR : c < R) (hu : ∀ j, u.ownBlock = some j → j < R ∧ j ≠ B) : KeepsU c u W W' := by
  refine ⟨fun _ hv => (World.cell?_of_block (h c hcR hc (lt_of_cell hv))).trans hv, fun l hl => ?_⟩
  obtain ⟨a, cap, rfl, hn, hm, h' | ⟨b, off, rfl, hb, hcs⟩⟩ := hl
  · exact ⟨a, cap, rfl, hn, hm, .inl h'⟩
  · have := hu b rfl
    exact ⟨_, cap, rfl, hn, hm, .inr ⟨b, off, rfl, Nat.lt_of_lt_of_le hb hs, fun i hi => (World.cell?_of_block (h b this.1 this.2 hb)).trans (hcs i hi)⟩⟩

theorem list_end {w W w3 : World} {v v' : Value} {l k : List Int} {E : Nat} (hB : Below w.heap.size w W) (hS : w.heap.size + 2 ≤ W.heap.size) (hA : Appd W.drew w.heap.size v l k v' w3) (hv : Blk W w.heap.size #[v] 25)
    (hE : w.heap.size + 2 ≤ E) (hK : W.heap[E]? = some (.deferred (some []))) (hown : OwnI W w.heap.size v l) (hne : some w.heap.size ≠ v.ownBlock) (hne2 : some E ≠ v.ownBlock) :
    (w3.setCell ⟨w.heap.size, 0, none⟩ v').heap[E]? = some (.deferred (some [])) ∧ ((w3.setCell ⟨w.heap.size, 0, none⟩ v').putObj E (.deferred none)).cell? ⟨w.heap.size, 0, none⟩ = some v' ∧
      OwnI ((w3.setCell ⟨w.heap.size, 0, none⟩ v').putObj E (.deferred none)) w.heap.size v' (l ++ k) ∧ Below w.heap.size w ((w3.setCell ⟨w.heap.size, 0, none⟩ v').putObj E (.deferred none)) := by
  obtain ⟨ho, hg, hx⟩ := hA
  have hEl : E < W.heap.size := (Array.getElem?_eq_some_iff.1 hK).1
  have hK3 : w3.heap[E]? = some (.deferred (some [])) := (hg.block E hEl hne2).trans hK
  have hK4 : (w3.setCell ⟨w.heap.size, 0, none⟩ v').heap[E]? = some (.deferred (some [])) := (Below.heap_setCell w3 ⟨w.heap.size, 0, none⟩ v' E (fun (e : E = w.heap.size) => by omega)).trans hK3
  have hb3 : Blk w3 w.heap.size #[v] 25 := hv.drew.kept hg hne
  have hb4 : Blk (w3.setCell ⟨w.heap.size, 0, none⟩ v') w.heap.size #[v'] 25 := hb3.set 0 v'
  have hn' : v'.ownBlock ≠ some w.heap.size := fun e => by
    rcases hx _ e with h | h
    · exact hne h.symm
    · have h' : W.heap.size ≤ w.heap.size := h
      omega
  refine ⟨hK4, ?_, ?_, ?_⟩
  · have hb5 := hb4.kept (grownBy_putObj' _ E (.deferred none)) (by simp; omega)
    exact hb5.cell 0
  · have h4 : OwnI (w3.setCell ⟨w.heap.size, 0, none⟩ v') w.heap.size v' (l ++ k) := ho.kept (grown_set w3 w.heap.size 0 v') (.inr hn')
    exact ownsRow_putObj h4 _ hK4 rfl
  · have h3 : Below w.heap.size w w3 := below_grown hB ((grown_drew W _).trans hg) (fun j hj => (hown.lt j hj).1)
    exact (below_set h3 (Nat.le_refl _) 0 v').trans (belowK_b (w := w) (Nat.le_refl _) _ E _ _ (by omega) hK4 rfl rfl)

set_option maxRecDepth 100000 in
set_option maxHeartbeats 2000000 in
theorem list_q (b : Nat) (v1 v2 : Value) (f k : List Int) (w : World) (h : Q w b v1 v2 f k) (hl : f.length + k.length < 10000000) : Calls Try.prog 19 #[.pointer (some ⟨b, 0, none⟩)] w (ListPost (f.reverse ++ k) w) := by
  have HQ := Lib.hid h
  have c0 := h.1.cell 0
  simp only [List.getElem?_toArray, List.getElem?_cons_zero] at c0
  obtain ⟨a1, p1, rfl⟩ := own_len h.2.1
  have hbl := h.1.lt
  clear h
  refine (callsIn_wide (n := 4)).1 ?_
  refine callsIn_of_wp_marks Try.func19 rfl trivial ?_ rfl
  simp only [Try.ntmps19, List.size_toArray, List.length_cons, List.length_nil, Nat.reduceAdd, Nat.reduceSub, Array.replicate_succ, Array.replicate_zero, List.push_toArray, List.append_toArray, List.nil_append, List.cons_append]
  gi_wp2_with fail
  refine ⟨trivial, (backward_in Fence.wide 3 trivial rfl _ _ _ _).mono ?_⟩
  rintro e w' ⟨rfl, rfl⟩
  gi_wp2_with fail
  obtain ⟨i0, hi, hz0, hz1, hz2⟩ := info_parts info3
  have bO := Boxed.new w 25 (.slice none 0 0)
  have b1 := Boxed.new (w.alloc (.cells #[.slice none 0 0] 25)) 25 (.slice a1 f.length p1)
  simp only [World.size_alloc] at b1
  have hB0 : Below w.heap.size w ((w.alloc (.cells #[.slice none 0 0] 25)).alloc (.cells #[.slice a1 f.length p1] 25)) := below_alloc (below_alloc (Below.refl _ _) _) _
  have hu : ∀ j, (Value.slice a1 f.length p1).ownBlock = some j → j < w.heap.size := fun j hj => (HQ.out.2.1.lt j hj).2
  have hsu : Slw ((w.alloc (.cells #[.slice none 0 0] 25)).alloc (.cells #[.slice a1 f.length p1] 25)) (.slice a1 f.length p1) f := ((Slw.ofOwn HQ.out.2.1).alloc _).alloc _
  refine wpIn_rangeFunc_ownG rfl (by decide) (gf := 81) (lb := #[.pointer (some ⟨w.heap.size + 1, 0, none⟩)]) rfl trivial (enters_of Try.func81 (by kernel_rfl) rfl)
    (back_stops Fence.wide (4 - 1) trivial rfl (by decide) (w.heap.size + 1) (.slice a1 f.length p1) f _ (by simp <;> omega) b1.cell hsu (by omega)) keepsU_t keepsU_b (Below.refl _ _) (fun _ => rfl)
    (fun (pre : List (Int × Int)) W => (∃ v, Boxed W w.heap.size 25 v ∧ W.ownsRow (w.heap.size + 2) 3 1 v pre.length ((pre.map Prod.snd).map (Value.int .i64)) ∧ True) ∧ Below w.heap.size w W ∧ w.heap.size + 2 ≤ W.heap.size)
    (fun _ _ _ => False)
    (OwnFrom.and (Own.from (holdsRow_own (w.heap.size + 2) w.heap.size 25 3 1 (fun pre : List (Int × Int) => pre.length) (fun pre => (pre.map Prod.snd).map (Value.int .i64)) (fun _ _ => True)) _) (OwnFrom.and (ownFrom_below (Nat.le_refl _) (by simp <;> omega)) (fun _ _ _ _ hs hg _ => Nat.le_trans hs hg.size)))
    (fun _ _ _ _ _ hs _ _ => hs)
    ⟨⟨_, bO.alloc _, World.ownsRow_nil _ _ _ _, trivial⟩, hB0, by simp <;> omega⟩
    (fun x => { tmps := #[.pointer (some ⟨b, 0, none⟩), undef, .pointer (some ⟨w.heap.size, 0, none⟩), undef, .int .i64 x.2, .pointer (some ⟨b, 0, none⟩), .bool false, .pointer (some ⟨b, 0, none⟩), .pointer (some ⟨b, 0, none⟩), .pointer (some ⟨b, 0, none⟩), .slice a1 f.length p1, .func (.func 81) #[] #[.pointer (some ⟨w.heap.size + 1, 0, none⟩)], .int .i64 x.1, .int .i64 x.2, undef, undef, undef, undef, undef, undef, undef, undef, undef, undef], defers := [] }) ?assign ?body ?done ?stop
  case assign =>
    intro l x W K hK
    gi_wp2
    exact hK
  case body =>
    rintro l pre x W ⟨⟨v, hv, hrow, _⟩, hB, hS⟩ hpl
    have hc := hv.cell
    gi_wp2_with (gi_at_builtin; refine wpListIn_append_own _ rfl _ _ 25 rfl (w.heap.size + 2) 3 i0 (.int .i64 0) 1 8 Try.underlying25 hi hz0 hz1 hz2 rfl (by decide) _ _ _ rfl (hrow.alloc _) ⟨W.heap.size, 0, none⟩ 1 1 [.int .i64 x.2] rfl rfl (cell_one_new _ _ _) (by simp [Value.oneCell']) (by unfold maxLen; omega) (by omega) (by simp; omega) ?_; intro v' w3 hown' hgrow _; obtain ⟨g', cap', rfl⟩ := ownsRow_succ hown'; obtain ⟨hv1, hv2, hr2, hk2, hb2, ho2⟩ := appended2 (n₀ := w.heap.size) hv (by decide) hrow hB.size (Nat.le_refl _) (by omega) hown' hgrow; have hc1 := hv1.cell; have hf1 := hv1.frozen)
    exact ⟨hk2.from _, keepsU_of ho2 hb2.size (by omega) (by omega) (fun j hj => by have := hu j hj; omega), ⟨_, hv2, by simpa using hr2, trivial⟩, hB.trans hb2, Nat.le_trans hS hb2.size⟩
  case done =>
    rintro E ys W hE rfl ⟨⟨v, hv, hrow, _⟩, hB, hS⟩ hK
    have hc := hv.cell
    have hcf := hv.frozen
    have hQW := HQ.out.below hB
    have c1 := hQW.1.cell 1
    simp only [List.getElem?_toArray, List.getElem?_cons_zero, List.getElem?_cons_succ] at c1
    have hown : OwnI W w.heap.size v f.reverse := by
      have h' := owns_mono hrow (show w.heap.size ≤ w.heap.size + 2 by omega)
      rw [backL_snd, backL_len] at h'
      unfold OwnI
      rwa [List.length_reverse]
    have hu2 := Slw.ofOwn hQW.2.2.1
    have hlen : f.reverse.length + k.length < 100000000 := by rw [List.length_reverse]; omega
    have HU2 := Lib.hid hu2
    have HOwn := Lib.hid hown
    have HLen := Lib.hid hlen
    have hWs := hB.size
    have HB := Lib.hid hB
    have HV := Lib.hid hv
    have HNE : Hid (some w.heap.size ≠ v.ownBlock) := fun e => by have := (hrow.lt _ e.symm).1; omega
    have HLL : Hid ((f.reverse ++ k).length = f.length + k.length) := by show _ = _; simp
    have HNE2 : Hid (some E ≠ v.ownBlock) := fun e => by
      obtain ⟨h1, ⟨h2, _⟩ | ⟨g, cap, cur, hv, hg, hh, r⟩⟩ := hrow
      · rw [h2] at e; cases e
      · rw [hv] at e; simp only [Value.ownBlock, Option.some.injEq] at e; rw [← e, hK] at hh; cases hh
    have HBK : Hid (Blk W w.heap.size #[v] 25) := hv
    have HQW := Lib.hid hQW
    clear hQW hown hu2 hlen hv hrow c0 bO b1 hB0 hu hsu hi hz0 hz1 hz2
    gi_wp2_with fail
    refine wpIn_wide.2 ?_
    refine wp_normal ?_
    go_region_law (refine stepX Try.underlying25 info3 w.heap.size _ rfl (.tmp 18) (.tmp 22) rfl _ _ _ k (by simp [Act.eval]) (by simp [Act.eval]) HOwn.out HU2.out (by simp; omega) HLen.out ?_; intro v' w3 hA; obtain ⟨a', cap', rfl⟩ := own_len hA.1; have hb3 := HBK.out.drew.kept hA.2.1 HNE.out; have q0 := hb3.cell 0; have qf := hb3.free 0; simp only [List.getElem?_toArray, List.getElem?_cons_zero] at q0; have HA := Lib.hid hA; clear hA)
    all_goals
      gi_wp2
      obtain ⟨z1, z2, z3, z4⟩ := list_end hB hS HA.out HBK.out (show w.heap.size + 2 ≤ E by simpa using hE) hK HOwn.out HNE.out HNE2.out
      rw [HLL.out] at z1 z2 z3 z4
      refine ⟨by simp, .inl ⟨_, _, rfl, run_takeDeferred z1, ?_⟩⟩
      exact ⟨_, by simp [results, Try.results19, go_sem, z2], _, rfl, z3, z4⟩
  case stop =>
    rintro E c pre W _ _ h _
    exact h.elim
end Go.Proofs.Ytgahkcbkpnehfaa.Glob
