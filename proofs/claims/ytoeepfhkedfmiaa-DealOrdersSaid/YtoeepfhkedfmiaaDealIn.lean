/- Chapter 17: the contract of deal.Order, which ranges over a walk. -/
import Derived.Test.YtoeepfhkedfmiaaDealOrder
namespace Go.Proofs.Ytoeepfhkedfmiaa.Deal
open Go.RowKit Go.Esc Go.Shelf Num
attribute [local go_sem] Oper.semAt_some
set_option linter.unusedVariables false

theorem wp_normal {P : Program} {c : Code} {K : Act → World → Prop} {Q : Exit → Act → World → Prop} {a : Act} {w : World} (h : c.wp P (Exit.then K (fun _ _ _ => False)) a w) : c.wp P (Exit.then K Q) a w :=
  Code.wp_mono (fun e a w h => by cases e <;> first | exact h | exact h.elim) h

theorem is_yes (a : Int) (w : World) (h1 : 1 ≤ a) (h2 : a ≤ 256) : Calls Try.prog 56 #[.int .i64 a] w fun e w' => e = .returned (.bool true) ∧ w = w' := by
  have hd1 : decide (1 ≤ a) = true := by simp; omega
  have hd2 : decide (a ≤ 256) = true := by simp; omega
  go_enter Try.func56, Try.ntmps56
  go_wp2
  go_ret
  exact ⟨rfl, rfl⟩

set_option maxRecDepth 100000 in
set_option maxHeartbeats 2000000 in
theorem order_good (m D q r : Nat) (s draw : Int) (w : World) (hm1 : 1 ≤ m) (hm2 : m ≤ 256) (HD : Hid (modZ draw (waysZ m) = D)) (hlt : q < (copL m).length) (hrm : r < m) (hD : (D : Int) ≤ 262144)
    (e1 : (D : Int).tdiv m = q) (e2 : (D : Int) / m = q) (e3 : (D : Int).tmod m = r) (e4 : (D : Int) % m = r) (HS : Hid ((copL m)[q]?.getD 0 = s)) :
    Calls Try.prog 44 #[.int .i64 m, .int .i64 draw] w (ListPost (walkL m r s) w) := by
  have hwh := ways_hi (n := (m : Int))
  have hlen := copL_len m
  have hne : copL m ≠ [] := by intro h; simp [h] at hlt
  have hnb : ¬ dealBad m := by unfold dealBad; omega
  have hWp := ways_pos hnb
  have HW : Hid (waysZ m = m * (copL m).length) := by show _ = _; unfold waysZ; rw [if_neg hnb]
  have hWl : (m : Int) * ((copL m).length : Int) ≤ 262144 := by rw [← HW.out]; exact hwh
  have hWl1 : 1 ≤ (m : Int) * ((copL m).length : Int) := by rw [← HW.out]; omega
  have hd1 : decide (1 ≤ (m : Int)) = true := by simp; omega
  have hd2 : decide ((m : Int) ≤ 256) = true := by simp; omega
  have hmz : ((m : Int) == 0) = false := by rw [beq_eq_false_iff_ne]; omega
  have e5 : IntKind.i64.wrap (q : Int) = q := IntWalk.i64_in _ (by omega)
  have hi1 : (q : Int) < ((copL m).length : Int) := by omega
  refine (callsIn_wide (n := 4)).1 ?_
  refine callsIn_of_wp_marks Try.func44 rfl trivial ?_ rfl
  simp only [Try.ntmps44, List.size_toArray, List.length_cons, List.length_nil, Nat.reduceAdd, Nat.reduceSub, Array.replicate_succ, Array.replicate_zero, List.push_toArray, List.append_toArray, List.nil_append, List.cons_append]
  refine wpIn_wide.2 ?_
  go_wp2_with (first | (go_at_call 33; refine (coprimes_any _ _).mono ?_; rintro e w1 ⟨v, rfl, ho, hb1⟩; obtain ⟨b, off, cap, rfl, hbl, hcells⟩ := sl_cell (Sl.ofOwn ho) hne; have cq := hcells q hlt; rw [HS.out] at cq; clear hcells) | (go_at_call 16; refine (mod_any _ _ _ (by omega)).mono ?_; rintro e w2 ⟨rfl, rfl⟩; rw [← HW.out, HD.out]) | (go_at_call 56; refine (is_yes _ _ (by omega) (by omega)).mono ?_; rintro e w0 ⟨rfl, rfl⟩))
  refine wp_normal ?_
  go_region_with (go_at_call 54; refine (callsIn_wide.1 (walk_inner Fence.wide 4 trivial rfl _ _ _ _)).mono ?_; rintro e w' ⟨rfl, rfl⟩)
  all_goals go_wp2
  all_goals
    clear cq hWl hWl1 hwh HW hi1 e1 e2 e3 e4 e5 HD HS hWp
    refine (wpIn_wide (n := 4)).1 ?_
    obtain ⟨i0, hi, hz0, hz1, hz2⟩ := info_parts info3
    have bO := Boxed.new w1 49 (.slice none 0 0)
    have b1 := Boxed.new (w1.alloc (.cells #[.slice none 0 0] 49)) 3 (.int .i64 m)
    have b2 := Boxed.new ((w1.alloc (.cells #[.slice none 0 0] 49)).alloc (.cells #[.int .i64 m] 3)) 3 (.int .i64 r)
    have b3 := Boxed.new (((w1.alloc (.cells #[.slice none 0 0] 49)).alloc (.cells #[.int .i64 m] 3)).alloc (.cells #[.int .i64 r] 3)) 3 (.int .i64 s)
    simp only [World.size_alloc] at b1 b2 b3
    have hB0 : Below w1.heap.size w1 ((((w1.alloc (.cells #[.slice none 0 0] 49)).alloc (.cells #[.int .i64 m] 3)).alloc (.cells #[.int .i64 r] 3)).alloc (.cells #[.int .i64 s] 3)).drew := (below_alloc (below_alloc (below_alloc (below_alloc (Below.refl _ _) _) _) _) _).drew
    refine wpIn_rangeFunc_ownG rfl (by decide) (gf := 60) (lb := #[.pointer (some ⟨w1.heap.size + 1, 0, none⟩), .pointer (some ⟨w1.heap.size + 1 + 1 + 1, 0, none⟩), .pointer (some ⟨w1.heap.size + 1 + 1, 0, none⟩)]) rfl trivial (enters_of Try.func60 (by kernel_rfl) rfl)
      (walk_stops Fence.wide (4 - 1) trivial trivial rfl (by decide) (w1.heap.size + 1) (w1.heap.size + 1 + 1 + 1) (w1.heap.size + 1 + 1) m r s _ (by simp <;> omega) (by simp <;> omega) (by simp <;> omega) ((b1.alloc _).alloc _).cell b3.cell (b2.alloc _).cell) keeps2_t keeps2_b (Below.refl _ _).drew (fun _ => rfl)
      (fun (pre : List Int) W => (∃ v, Boxed W w1.heap.size 49 v ∧ W.ownsRow (w1.heap.size + 4) 3 1 v pre.length (pre.map (Value.int .i64)) ∧ True) ∧ Below w1.heap.size w1 W ∧ w1.heap.size + 4 ≤ W.heap.size)
      (fun _ _ _ => False)
      (OwnFrom.and (Own.from (holdsRow_own (w1.heap.size + 4) w1.heap.size 49 3 1 (fun pre : List Int => pre.length) (fun pre => pre.map (Value.int .i64)) (fun _ _ => True)) _) (OwnFrom.and (ownFrom_below (Nat.le_refl _) (by simp <;> omega)) (fun _ _ _ _ hs hg _ => Nat.le_trans hs hg.size)))
      (fun _ _ _ _ _ hs _ _ => hs)
      ⟨⟨_, ((bO.alloc _).alloc _).alloc _, World.ownsRow_nil _ _ _ _, trivial⟩, hB0, by simp <;> omega⟩
      (fun x => { tmps := #[.int .i64 m, .int .i64 draw, undef, undef, .slice none 0 0, .slice (some ⟨b, off, none⟩) (copL m).length cap, .int .i64 D, .pointer (some ⟨w1.heap.size, 0, none⟩), .int .i64 x, .int .i64 m, .bool true, .bool false, .int .i64 m, .slice (some ⟨b, off, none⟩) (copL m).length cap, .int .i64 draw, .int .i64 m, .slice (some ⟨b, off, none⟩) (copL m).length cap, .int .i64 ((copL m).length : Nat), .int .i64 (waysZ m), .int .i64 D, .int .i64 m, .int .i64 D, .int .i64 m, .int .i64 r, .slice (some ⟨b, off, none⟩) (copL m).length cap, .int .i64 D, .int .i64 m, .int .i64 q, .pointer (some ⟨b, off + q, none⟩), .int .i64 s, .func (.func 60) #[] #[.pointer (some ⟨w1.heap.size + 1, 0, none⟩), .pointer (some ⟨w1.heap.size + 1 + 1 + 1, 0, none⟩), .pointer (some ⟨w1.heap.size + 1 + 1, 0, none⟩)], .int .i64 x, undef, undef, undef, undef, undef], defers := [] }) ?assign ?body ?done ?stop
    case assign =>
      intro l x W K hK
      gi_wp2
      exact hK
    case body =>
      rintro l pre x W ⟨⟨v, hv, hrow, _⟩, hB, hS⟩ hpl
      have hwl := walkL_len m r s
      have hc := hv.cell
      gi_wp2_with (gi_at_builtin; refine wpListIn_append_own _ rfl _ _ 49 rfl (w1.heap.size + 4) 3 i0 (.int .i64 0) 1 8 Try.underlying49 hi hz0 hz1 hz2 rfl (by decide) _ _ _ rfl (hrow.alloc _) ⟨W.heap.size, 0, none⟩ 1 1 [.int .i64 x] rfl rfl (cell_one_new _ _ _) (by simp [Value.oneCell']) (by unfold maxLen; omega) (by omega) (by simp; omega) ?_; intro v' w3 hown' hgrow _; obtain ⟨g', cap', rfl⟩ := ownsRow_succ hown'; obtain ⟨hv1, hv2, hr2, hk2, hb2, ho2⟩ := appended2 (n₀ := w1.heap.size) hv (by decide) hrow hB.size (Nat.le_refl _) (by omega) hown' hgrow; have hc1 := hv1.cell; have hf1 := hv1.frozen)
      exact ⟨hk2.from _, keeps2_of ho2 (by omega) (by omega) (by omega) (by omega), ⟨_, hv2, by simpa using hr2, trivial⟩, hB.trans hb2, Nat.le_trans hS hb2.size⟩
    case done =>
      rintro E ys W hE rfl ⟨⟨v, hv, hrow, _⟩, hB, hS⟩ hK
      have hc := hv.cell
      go_wp2
      refine ⟨by simp, .inl ⟨_, _, rfl, run_takeDeferred hK, ?_⟩⟩
      exact ⟨_, results_tmp rfl _ _ _, v, rfl, ownsRow_putObj (owns_mono hrow (by have := hb1.size; omega)) _ hK rfl, below_below hb1 (hB.trans (belowK_b (w := w1) (Nat.le_refl _) W E _ _ (by simp at hE; omega) hK rfl rfl))⟩
    case stop =>
      rintro E c pre W _ _ h _
      exact h.elim

set_option maxHeartbeats 1000000 in
theorem order_any (n draw : Int) (w : World) : Calls Try.prog 44 #[.int .i64 n, .int .i64 draw] w (ListPost (orderL n draw) w) := by
  by_cases h : dealBad n
  · have hL : orderL n draw = [] := by unfold orderL; rw [if_pos h]
    rw [hL]
    clear hL
    unfold dealBad at h
    by_cases h1 : n < 1
    · clear h
      have hd : decide (1 ≤ n) = false := by simp; omega
      go_enter Try.func44, Try.ntmps44
      go_wp2
      go_ret
      exact ⟨_, rfl, OwnI.nil _ _, Below.refl _ _⟩
    · have h2 : 256 < n := by omega
      clear h
      have hd : decide (1 ≤ n) = true := by simp; omega
      have hd2 : decide (n ≤ 256) = false := by simp; omega
      go_enter Try.func44, Try.ntmps44
      go_wp2
      go_ret
      exact ⟨_, rfl, OwnI.nil _ _, Below.refl _ _⟩
  · obtain ⟨m, D, q, r, rfl, hm1, hm2, HD, hlt, hrm, hD, e1, e2, e3, e4, HL⟩ := draw_nat (draw := draw) h
    rw [HL]
    exact order_good m D q r _ draw w hm1 hm2 HD hlt hrm hD e1 e2 e3 e4 rfl

end Go.Proofs.Ytoeepfhkedfmiaa.Deal
