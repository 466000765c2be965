/- Chapter 01: the contract of walked, and the example that must come at any rate. -/
import Derived.Test.YtoeepfhkedfmiaaNumWalk
import Derived.Test.YtoeepfhkedfmiaaRefOne
import Derived.BigGuard
namespace Go.Proofs.Ytoeepfhkedfmiaa.Num
open Go.RowKit Go.Shelf Go.Esc
attribute [local go_sem] Oper.semAt_some

theorem info3 : (Try.prog.info? 3).map (fun i => (i.zero, i.size, i.bytes)) = some (some (.int .i64 0), 1, 8) := by kernel_rfl

theorem owns_mono {w : World} {base base' : Nat} {e : TypeId} {size : Nat} {v : Value} {n : Nat} {xs : List Value} (h : w.ownsRow base e size v n xs) (hb : base' ≤ base) : w.ownsRow base' e size v n xs := by
  obtain ⟨h1, h2 | ⟨g, cap, cur, hv, hg, hh, r⟩⟩ := h
  · exact ⟨h1, .inl h2⟩
  · exact ⟨h1, .inr ⟨g, cap, cur, hv, Nat.le_trans hb hg, hh, r⟩⟩

/-- Behind 'out = append(out, x)', the row's blocks lying from R on: what the walk owes, and that other blocks below R are as they were. -/
theorem appended2 {W w1 : World} {n₀ R B : Nat} {t e : TypeId} {size : Nat} {v v' : Value} {k m : Nat} {xs ys : List Value} {tmp : Obj}
    (hv : Boxed W B t v) (hte : t ≠ e) (hrow : W.ownsRow R e size v k xs) (hn₀ : n₀ ≤ W.heap.size) (hB : n₀ ≤ B) (hR : n₀ ≤ R)
    (hown' : w1.ownsRow R e size v' m ys) (hgrow : (W.alloc tmp).grownBy w1 v.ownBlock) :
    Boxed w1 B t v ∧ Boxed (w1.setCell ⟨B, 0, none⟩ v') B t v' ∧ (w1.setCell ⟨B, 0, none⟩ v').ownsRow R e size v' m ys ∧ KeepsOthers W (w1.setCell ⟨B, 0, none⟩ v') ∧ Below n₀ W (w1.setCell ⟨B, 0, none⟩ v') ∧
      ∀ b, b < R → b ≠ B → b < W.heap.size → (w1.setCell ⟨B, 0, none⟩ v').heap[b]? = W.heap[b]? := by
  obtain ⟨h1, h2, _, h4, h5⟩ := hv.appended hte (owns_mono hrow hR) hn₀ hB (owns_mono hown' hR) hgrow
  refine ⟨h1, h2, hown'.kept (grownBy_setCell' w1 B v') (.inr (h1.not_row hte hown').symm), h4, h5, fun b hb hne hlt => ?_⟩
  rw [Below.heap_setCell _ _ _ b hne, hgrow.block b (by simp; omega) ?_, Below.heap_alloc _ _ _ hlt]
  intro e
  have := (hrow.lt b e.symm).1
  omega

theorem keeps2_of {b c B R : Nat} {W W' : World} (h : ∀ k, k < R → k ≠ B → k < W.heap.size → W'.heap[k]? = W.heap[k]?) (hb : b ≠ B) (hc : c ≠ B) (hbR : b < R) (hcR : c < R) : Keeps2 b c W W' :=
  ⟨fun _ hv => (World.cell?_of_block (h b hbR hb (lt_of_cell hv))).trans hv, fun _ hv => (World.cell?_of_block (h c hcR hc (lt_of_cell hv))).trans hv⟩

theorem eql_func (lb : Array Value) (w : World) : (binOp .eql 71 (.func (.func 60) #[] lb) .nilFunc).run Try.prog w = .ok (.bool false) w := by kernel_rfl

set_option maxRecDepth 100000 in
set_option maxHeartbeats 2000000 in
theorem walked_in (F : Fence) (n : Nat) (h35 : F.fn 35) (h54 : F.fn 54) (h60 : F.fn 60) (h16 : F.fn 16) (hro : F.round = none) (hn : 4 ≤ n) (a start step : Int) (w : World) :
    CallsIn F n Try.prog 35 #[.int .i64 a, .int .i64 start, .int .i64 step] w fun e W' => ∃ v, e = .returned v ∧ OwnI W' w.heap.size v (walkL a start step) ∧ Below w.heap.size w W' := by
  have h1 : 1 ≤ n := by omega
  obtain ⟨i0, hi, hz0, hz1, hz2⟩ := info_parts info3
  refine callsIn_of_wp_marks Try.func35 rfl h35 ?_ hro
  simp only [Try.ntmps35, List.size_toArray, List.length_cons, List.length_nil, Nat.reduceAdd, Nat.reduceSub, Array.replicate_succ, Array.replicate_zero, List.push_toArray, List.append_toArray, List.nil_append, List.cons_append]
  have heq := eql_func
  gi_wp2_with (gi_at_call 54; refine (walk_inner F (n - 1) h54 hro _ _ _ _).mono ?_; rintro e w' ⟨rfl, rfl⟩)
  have bO := Boxed.new w 49 (.slice none 0 0)
  have b1 := Boxed.new (w.alloc (.cells #[.slice none 0 0] 49)) 3 (.int .i64 a)
  have b2 := Boxed.new ((w.alloc (.cells #[.slice none 0 0] 49)).alloc (.cells #[.int .i64 a] 3)) 3 (.int .i64 start)
  have b3 := Boxed.new (((w.alloc (.cells #[.slice none 0 0] 49)).alloc (.cells #[.int .i64 a] 3)).alloc (.cells #[.int .i64 start] 3)) 3 (.int .i64 step)
  simp only [World.size_alloc] at b1 b2 b3
  have hB0 : Below w.heap.size w ((((w.alloc (.cells #[.slice none 0 0] 49)).alloc (.cells #[.int .i64 a] 3)).alloc (.cells #[.int .i64 start] 3)).alloc (.cells #[.int .i64 step] 3)) := below_alloc (below_alloc (below_alloc (below_alloc (Below.refl _ _) _) _) _) _
  refine wpIn_rangeFunc_ownG hro h1 (gf := 60) (lb := #[.pointer (some ⟨w.heap.size + 1, 0, none⟩), .pointer (some ⟨w.heap.size + 1 + 1 + 1, 0, none⟩), .pointer (some ⟨w.heap.size + 1 + 1, 0, none⟩)]) rfl h60 (enters_of Try.func60 (by kernel_rfl) rfl)
    (walk_stops F (n - 1) h60 h16 hro (by omega) (w.heap.size + 1) (w.heap.size + 1 + 1 + 1) (w.heap.size + 1 + 1) a start step _ (by simp <;> omega) (by simp <;> omega) (by simp <;> omega) ((b1.alloc _).alloc _).cell b3.cell (b2.alloc _).cell) keeps2_t keeps2_b (Below.refl _ _) (fun _ => rfl)
    (fun (pre : List Int) W => (∃ v, Boxed W w.heap.size 49 v ∧ W.ownsRow (w.heap.size + 4) 3 1 v pre.length (pre.map (Value.int .i64)) ∧ True) ∧ Below w.heap.size w W ∧ w.heap.size + 4 ≤ W.heap.size)
    (fun _ _ _ => False)
    (OwnFrom.and (Own.from (holdsRow_own (w.heap.size + 4) w.heap.size 49 3 1 (fun pre : List Int => pre.length) (fun pre => pre.map (Value.int .i64)) (fun _ _ => True)) _) (OwnFrom.and (ownFrom_below (Nat.le_refl _) (by simp <;> omega)) (fun _ _ _ _ hs hg _ => Nat.le_trans hs hg.size)))
    (fun _ _ _ _ _ hs _ _ => hs)
    ⟨⟨_, ((bO.alloc _).alloc _).alloc _, World.ownsRow_nil _ _ _ _, trivial⟩, hB0, by simp <;> omega⟩
    (fun x => { tmps := #[.int .i64 a, .int .i64 start, .int .i64 step, undef, undef, undef, .slice none 0 0, .pointer (some ⟨w.heap.size, 0, none⟩), .func (.func 60) #[] #[.pointer (some ⟨w.heap.size + 1, 0, none⟩), .pointer (some ⟨w.heap.size + 1 + 1 + 1, 0, none⟩), .pointer (some ⟨w.heap.size + 1 + 1, 0, none⟩)], .int .i64 x, .int .i64 a, .int .i64 start, .int .i64 step, .func (.func 60) #[] #[.pointer (some ⟨w.heap.size + 1, 0, none⟩), .pointer (some ⟨w.heap.size + 1 + 1 + 1, 0, none⟩), .pointer (some ⟨w.heap.size + 1 + 1, 0, none⟩)], .func (.func 60) #[] #[.pointer (some ⟨w.heap.size + 1, 0, none⟩), .pointer (some ⟨w.heap.size + 1 + 1 + 1, 0, none⟩), .pointer (some ⟨w.heap.size + 1 + 1, 0, none⟩)], .bool false, undef, .func (.func 60) #[] #[.pointer (some ⟨w.heap.size + 1, 0, none⟩), .pointer (some ⟨w.heap.size + 1 + 1 + 1, 0, none⟩), .pointer (some ⟨w.heap.size + 1 + 1, 0, none⟩)], .int .i64 x, undef, undef, undef, undef, undef], defers := [] }) ?assign ?body ?done ?stop
  case assign =>
    intro l x W K hK
    gi_wp2
    exact hK
  case body =>
    rintro l pre x W ⟨⟨v, hv, hrow, _⟩, hB, hS⟩ hlt
    have hlen := walkL_len a start step
    have hc := hv.cell
    gi_wp2_with (gi_at_builtin; refine wpListIn_append_own _ rfl _ _ 49 rfl (w.heap.size + 4) 3 i0 (.int .i64 0) 1 8 Try.underlying49 hi hz0 hz1 hz2 rfl (by decide) _ _ _ rfl (hrow.alloc _) ⟨W.heap.size, 0, none⟩ 1 1 [.int .i64 x] rfl rfl (cell_one_new _ _ _) (by simp [Value.oneCell']) (by unfold maxLen; omega) (by omega) (by simp; omega) ?_; intro v' w1 hown' hgrow _; obtain ⟨g', cap', rfl⟩ := ownsRow_succ hown'; obtain ⟨hv1, hv2, hr2, hk2, hb2, ho2⟩ := appended2 (n₀ := w.heap.size) hv (by decide) hrow hB.size (Nat.le_refl _) (by omega) hown' hgrow; have hc1 := hv1.cell; have hf1 := hv1.frozen)
    exact ⟨hk2.from _, keeps2_of ho2 (by omega) (by omega) (by omega) (by omega), ⟨_, hv2, by simpa using hr2, trivial⟩, hB.trans hb2, Nat.le_trans hS hb2.size⟩
  case done =>
    rintro D ys W hD rfl ⟨⟨v, hv, hrow, _⟩, hB, hS⟩ hK
    have hc := hv.cell
    gi_wp2
    refine ⟨by simp, .inl ⟨_, _, rfl, run_takeDeferred hK, ?_⟩⟩
    exact ⟨_, results_tmp rfl _ _ _, v, rfl, ownsRow_putObj (owns_mono hrow (by omega)) _ hK rfl, hB.trans (belowK_b (w := w) (Nat.le_refl _) W D _ _ (by simp at hD; omega) hK rfl rfl)⟩
  case stop =>
    rintro D c pre W _ _ h _
    exact h.elim

def ListPost (L : List Int) (w : World) (e : Ending) (w' : World) : Prop := ∃ v, e = .returned v ∧ OwnI w' w.heap.size v L ∧ Below w.heap.size w w'

theorem walked_any (a start step : Int) (w : World) : Calls Try.prog 35 #[.int .i64 a, .int .i64 start, .int .i64 step] w (ListPost (walkL a start step) w) :=
  callsIn_wide.1 (walked_in Fence.wide 4 trivial trivial trivial trivial rfl (Nat.le_refl _) a start step w)

set_option maxHeartbeats 1000000 in
theorem alive_any (w : World) : Calls Try.prog 15 #[] w fun e w' => e = .returned (.bool true) ∧ Below w.heap.size w w' := by
  go_enter Try.func15, Try.ntmps15
  go_wp2_with fail
  refine (walked_any _ _ _ _).mono ?_
  rintro e w1 ⟨v, rfl, ho, hb⟩
  go_wp2_with fail
  have hs := Sl.ofOwn ho
  rw [show walkL 4 6 3 = [2, 1, 0, 3] from by decide] at hs
  refine (Ref.same_yes _ _ [2, 1, 0, 3] _ (hs.alloc _) (Sl.new w1 [2, 1, 0, 3] 4 (by decide))).mono ?_
  rintro e w2 ⟨rfl, n, rfl⟩
  have hw : wrap32 4294967295 < 0 := by unfold wrap32; decide
  go_wp2
  go_ret
  exact ⟨rfl, below_drewN (below_alloc hb _) _⟩


def lessB (a b : Int) : Bool := decide (0 < (b - a) % 4294967296 ∧ (b - a) % 4294967296 < 2147483648)
theorem less_1 (a b : Int) (h : wrap32 ((a - b) % 4294967296) < 0) : ((a - b) % 4294967296 != 2147483648) = lessB a b := by
  unfold wrap32 at h
  by_cases hc : (a - b) % 4294967296 = 2147483648
  · rw [lessB, decide_eq_false (by omega)]; simp [hc]
  · rw [lessB, decide_eq_true (by omega)]; simp [hc]
theorem less_2 (a b : Int) (h : 0 ≤ wrap32 ((a - b) % 4294967296)) : false = lessB a b := by
  unfold wrap32 at h
  rw [lessB, decide_eq_false (by omega)]
theorem less_3 (a b : Int) (h : (b - a) % 4294967296 = 0) : false = lessB a b := by
  rw [lessB, decide_eq_false (by omega)]
theorem less_4 (a b : Int) (h : ¬ (b - a) % 4294967296 = 0) : ((b - a) % 4294967296 != 0 && decide ((b - a) % 4294967296 < 2147483648)) = lessB a b := by
  by_cases hc : (b - a) % 4294967296 < 2147483648
  · have : lessB a b = true := decide_eq_true (by omega)
    rw [this]; simp [h, hc]
  · have : lessB a b = false := decide_eq_false (by omega)
    rw [this]; simp [hc]
theorem less_any (a b : Int) (w : World) : Calls Try.prog 18 #[.int .u32 a, .int .u32 b] w fun e w' => e = .returned (.bool (lessB a b)) ∧ w = w' := by
  go_enter Try.func18, Try.ntmps18
  go_wp2
  all_goals go_ret
  all_goals refine ⟨ret_bool ?_, rfl⟩
  · exact less_1 a b (by assumption)
  · exact less_2 a b (by assumption)
theorem refless_any (a b : Int) (w : World) : Calls Try.prog 19 #[.int .u32 a, .int .u32 b] w fun e w' => e = .returned (.bool (lessB a b)) ∧ w = w' := by
  go_enter Try.func19, Try.ntmps19
  go_wp2
  all_goals go_ret
  all_goals refine ⟨ret_bool ?_, rfl⟩
  · exact less_3 a b (by assumption)
  · exact less_4 a b (by assumption)

set_option maxHeartbeats 1000000 in
theorem rounds (w : World) (i : Int) (_ : (Lit.int .i64 i).wf = true) (n : Int) (_ : (Lit.int .i64 n).wf = true) (a : Int) (_ : (Lit.int .u32 a).wf = true) (b : Int) (_ : (Lit.int .u32 b).wf = true) :
    Calls Try.prog 3 #[.int .i64 i, .int .i64 n, .int .u32 a, .int .u32 b] w fun e w' => e = .returned (.bool true) ∧ Below w.heap.size w w' := by
  by_cases h : 4611686018427387904 < n
  · go_enter Try.func3, Try.ntmps3
    go_wp2_with (go_at_call 15; refine (alive_any _).mono ?_; rintro e w' ⟨rfl, hb⟩)
    go_ret
    exact ⟨rfl, hb⟩
  · have hn' : n ≤ 4611686018427387904 := by omega
    go_enter Try.func3, Try.ntmps3
    go_wp2_with fail
    refine (mod_any _ _ _ hn').mono ?_
    rintro e w1 ⟨rfl, rfl⟩
    go_wp2_with fail
    refine (Ref.refmod_any _ _ _ (by omega)).mono ?_
    rintro e w1 ⟨rfl, rfl⟩
    go_wp2_with fail
    refine (less_any _ _ _).mono ?_
    rintro e w1 ⟨rfl, rfl⟩
    go_wp2_with fail
    refine (refless_any _ _ _).mono ?_
    rintro e w1 ⟨rfl, rfl⟩
    go_wp2_with (first | (go_at_call 15; refine (alive_any _).mono ?_; rintro e w' ⟨rfl, hb⟩) | (go_at_call 20; go_in))
    go_ret
    exact ⟨rfl, hb⟩

end Go.Proofs.Ytoeepfhkedfmiaa.Num
