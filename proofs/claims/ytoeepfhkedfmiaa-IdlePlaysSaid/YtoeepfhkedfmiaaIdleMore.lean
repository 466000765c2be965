/- Chapter 20: the contracts of Drop (whoever is there), Get, All and New; the example. -/
import Derived.Test.YtoeepfhkedfmiaaIdleDrop
namespace Go.Proofs.Ytoeepfhkedfmiaa.Idle
open Go.RowKit Go.Esc

theorem info3 : (Try.prog.info? 3).map (fun i => (i.zero, i.size, i.bytes)) = some (some (.int .i64 0), 1, 8) := by kernel_rfl
theorem makeInts (m : Nat) (hm : m ≤ 100000) (w : World) : (Instr.makeSlice 49 (.int .i64 (m : Int)) (.int .i64 (m : Int))).run Try.prog w = .ok (.slice (some ⟨w.heap.size, 0, none⟩) m m) (w.alloc (.cells (madeCells #[.int .i64 0] m) 3)) :=
  run_make_row' 49 3 (.int .i64 0) 8 Try.underlying49 info3 rfl .i64 .i64 m (by omega) (by omega) w

theorem drop_yes (b g m : Nat) (x : List Int) (id : Int) (w : World) (h : St w b g m x) (hx : id ∈ x) : Calls Try.prog 49 #[.pointer (some ⟨b, 0, none⟩), .int .i64 id] w (BoolPost b g m (x.erase id) true w) := by
  have hr := h.2.2.2.1 id hx
  obtain ⟨n, rfl⟩ := Int.eq_ofNat_of_zero_le hr.1
  obtain ⟨p, r, hxr, hnp⟩ := List.append_of_mem hx |> fun ⟨p, r, e⟩ => (⟨p, r, e, fun hm => by
    have hnd := h.2.2.1
    rw [e] at hnd
    exact (List.nodup_append.1 hnd).2.2 _ hm (n : Int) (by simp) rfl⟩ : ∃ p r, x = p ++ (n : Int) :: r ∧ (n : Int) ∉ p)
  refine drop_loop b g m n p.length x w h (by rw [hxr]; simp) (by rw [hxr]; simp) (fun k hk => ?_) (by omega) ?_
  · intro e
    apply hnp
    rw [← e, hxr, List.getElem?_append_left hk]
    simp [hk]
  · rcases List.eq_nil_or_concat p with rfl | ⟨p', q, rfl⟩
    · exact .inl ⟨rfl, r, hxr⟩
    · have hq := h.2.2.2.1 q (by rw [hxr]; simp)
      obtain ⟨q', rfl⟩ := Int.eq_ofNat_of_zero_le hq.1
      exact .inr ⟨p', q', r, by simp, by omega, by rw [hxr]; simp⟩

theorem drop_any (b g m : Nat) (x : List Int) (id : Int) (w : World) (h : St w b g m x) : Calls Try.prog 49 #[.pointer (some ⟨b, 0, none⟩), .int .i64 id] w (BoolPost b g m (x.erase id) (decide (id ∈ x)) w) := by
  by_cases hx : id ∈ x
  · rw [decide_eq_true hx]; exact drop_yes b g m x id w h hx
  · rw [decide_eq_false hx, List.erase_of_not_mem hx]; exact drop_no b g m x id w h hx

def putL (m : Nat) (x : List Int) (id : Int) : List Int := if id < 0 ∨ (m : Int) ≤ id ∨ id ∈ x then x else id :: x
def putB (m : Nat) (x : List Int) (id : Int) : Bool := !decide (id < 0 ∨ (m : Int) ≤ id ∨ id ∈ x)
theorem put_any (b g m : Nat) (x : List Int) (id : Int) (w : World) (h : St w b g m x) : Calls Try.prog 38 #[.pointer (some ⟨b, 0, none⟩), .int .i64 id] w (BoolPost b g m (putL m x id) (putB m x id) w) := by
  unfold putL putB
  by_cases hx : id < 0 ∨ (m : Int) ≤ id ∨ id ∈ x
  · rw [if_pos hx, decide_eq_true hx]; exact put_no b g m x id w h hx
  · rw [if_neg hx, decide_eq_false hx]
    obtain ⟨n, rfl⟩ := Int.eq_ofNat_of_zero_le (show 0 ≤ id by omega)
    exact put_yes b g m n x w h (by omega) (fun hm => hx (.inr (.inr hm)))

def GetPost (b g m : Nat) (x : List Int) (w : World) (e : Ending) (w' : World) : Prop :=
  e = .returned (.tuple #[.int .i64 (x.headD 0), .bool (!x.isEmpty)]) ∧ St w' b g m x.tail ∧ Only (TwoOf b g) w w'

set_option maxHeartbeats 1000000 in
theorem get_any (b g m : Nat) (x : List Int) (w : World) (h : St w b g m x) : Calls Try.prog 39 #[.pointer (some ⟨b, 0, none⟩)] w (GetPost b g m x w) := by
  cases x with
  | nil =>
    have HP := Lib.hid (peek_nil b g m w h)
    have HS := Lib.hid h
    clear h
    go_enter Try.func39, Try.ntmps39
    go_wp2_with (first | (go_at_call 46; refine HP.out.mono ?_; rintro e w' ⟨rfl, rfl⟩))
    go_ret2
    exact ⟨rfl, HS.out, Only.refl _ _⟩
  | cons a r =>
    have HP := Lib.hid (peek_cons b g m a r w h)
    have HD := Lib.hid (drop_yes b g m (a :: r) a w h (by simp))
    rw [List.erase_cons_head] at HD
    clear h
    go_enter Try.func39, Try.ntmps39
    go_wp2_with (first | (go_at_call 46; refine HP.out.mono ?_; rintro e w' ⟨rfl, rfl⟩) | (go_at_call 49; refine HD.out.mono ?_; rintro e w' ⟨rfl, hs, ho⟩))
    go_ret2
    exact ⟨rfl, hs, ho⟩

def ListPost (L : List Int) (w : World) (e : Ending) (w' : World) : Prop := ∃ v, e = .returned v ∧ OwnI w' w.heap.size v L ∧ Below w.heap.size w w'

theorem take_snoc' (x : List Int) (k : Nat) (h : k < x.length) : x.take (k + 1) = x.take k ++ [x[k]?.getD 0] := by
  rw [List.take_succ_eq_append_getElem h]; simp [h]

theorem head_drop (x : List Int) (k : Nat) (h : k < x.length) : (x.drop k).headD (-1) = x[k]?.getD 0 := by
  rw [List.drop_eq_getElem_cons h]; simp [h]

set_option maxHeartbeats 2000000 in
theorem all_any (b g m : Nat) (x : List Int) (w : World) (h : St w b g m x) : Calls Try.prog 47 #[.pointer (some ⟨b, 0, none⟩)] w (ListPost x w) := by
  have hl := h.len
  have c0 := h.1.cell 0
  have c1 := h.1.cell 1
  have hbl := h.1.lt
  have hgl := h.2.1.lt
  have hm := h.2.2.2.2.2
  simp only [List.getElem?_toArray, List.getElem?_cons_zero, List.getElem?_cons_succ] at c0 c1
  have HS := Lib.hid h
  clear h
  go_enter Try.func47, Try.ntmps47
  go_wp2
  go_loopg [2, 3] x.length (fun gk v i wr => ∃ k : Nat, k ≤ x.length ∧ gk = x.length - k ∧ i = .int .i64 ((x.drop k).headD (-1)) ∧ OwnI wr w.heap.size v (x.take k) ∧ Below w.heap.size w wr)
  case atStart => exact ⟨0, Nat.zero_le _, rfl, by simp, by simpa using OwnI.nil _ _, Below.refl _ _⟩
  case round =>
    obtain ⟨k, hk, hgk, rfl, hown, hbel⟩ := hrel
    have HG := Lib.hid hgk
    clear hgk
    by_cases hlt : k < x.length
    · have hr := HS.out.2.2.2.1 (x[k]?.getD 0) (by simp [hlt])
      obtain ⟨y, HY⟩ := Int.eq_ofNat_of_zero_le hr.1
      have hym : y < m := by omega
      have HHd := Lib.hid (head_drop x k hlt)
      have HT := Lib.hid (take_snoc' x k hlt)
      have hlk : link x y = (x.drop (k + 1)).headD (-1) := by
        rw [← HY]
        by_cases h1 : k + 1 < x.length
        · rw [link_get x k HS.out.2.2.1 h1, head_drop x (k + 1) h1]
        · have e : x = x.take k ++ x[k]?.getD 0 :: [] := by
            have := take_snoc' x k hlt
            rw [← this, List.take_of_length_le (by omega)]
          have hnd := HS.out.2.2.1
          rw [List.drop_of_length_le (by omega)]
          generalize x[k]?.getD 0 = z at *
          rw [e] at hnd ⊢
          rw [link_at _ _ _ (fun hm => (List.nodup_append.1 hnd).2.2 _ hm z (by simp) rfl)]
      have cy := HS.out.2.1.cell hym
      rw [hlk] at cy
      rw [HHd.out, HY]
      rw [HY] at HT
      have hyb : ((y : Int) != -1) = true := by rw [bne_iff_ne]; omega
      have hkl : (x.take k).length ≤ k := List.length_take_le _ _
      have cy2 := (hbel.cell (p := ⟨g, y, none⟩) hgl).trans cy
      have c12 := (hbel.cell (p := ⟨b, 1, none⟩) hbl).trans c1
      clear hlk HY hr cy c0 HHd
      generalize hz : (x.drop (k + 1)).headD (-1) = z at *
      have HZ := Lib.hid hz
      clear hz
      go_wp2_with (at_builtin; refine app1 Try.underlying49 info3 w.heap.size wr (y : Int) rfl _ _ rfl _ _ rfl rfl hown hbel.size (by omega) ?_; intro v' w3 hown' hgrow _; have hbel3 : Below w.heap.size w w3 := below_grown hbel hgrow (fun j e => (hown.lt j e).1); have c13 := hgrow.cell c12 (fun e => by have := (hown.lt b e.symm).1; omega); have cy3 := hgrow.cell cy2 (fun e => by have := (hown.lt g e.symm).1; omega))
      go_roundg (x.length - (k + 1))
      case rel => exact ⟨k + 1, by omega, rfl, by rw [HZ.out], by rw [HT.out]; exact hown', hbel3⟩
      case measure => have := HG.out; omega
    · have hkx : k = x.length := by omega
      have hd : (x.drop k).headD (-1) = -1 := by rw [List.drop_of_length_le (by omega)]; rfl
      have ht : x.take k = x := List.take_of_length_le (by omega)
      rw [hd]
      rw [ht] at hown
      clear hd ht hkx
      go_wp2
      go_ret
      exact ⟨_, rfl, hown, hbel⟩

def NewPost (m : Nat) (w : World) (e : Ending) (w' : World) : Prop := e = .returned (.pointer (some ⟨w.heap.size + 1, 0, none⟩)) ∧ St w' (w.heap.size + 1) w.heap.size m [] ∧ Below w.heap.size w w'

set_option maxHeartbeats 2000000 in
theorem new_good (m : Nat) (w : World) (hm : m ≤ 1024) : Calls Try.prog 37 #[.int .i64 m] w (NewPost m w) := by
  have hd1 : decide ((m : Int) < 0) = false := by simp
  have hd2 : decide ((1024 : Int) < (m : Int)) = false := by simp; omega
  have hmk := makeInts m (by omega)
  go_enter Try.func37, Try.ntmps37
  go_wp2
  go_loopw [20] (fun i wr => ∃ k : Nat, k ≤ m ∧ i = .int .i64 k ∧ Blk wr (w.heap.size + 1) #[.int .i64 (-1), .slice (some ⟨w.heap.size, 0, none⟩) m m, .int .i64 0] 74 ∧ Cells wr w.heap.size m 3 (fun j => .int .i64 (if j < k then -2 else 0)) ∧ Below w.heap.size w wr)
    (fun i _ => m - (intOf i).toNat)
  case atStart =>
    refine ⟨0, Nat.zero_le _, rfl, Blk.new' _ _ (by simp), ((Cells.made w m 3 (.int .i64 0)).alloc _).congr fun i _ => ?_, below_alloc (below_alloc (Below.refl _ _) _) _⟩
    simp
  case round =>
    obtain ⟨k, hk, rfl, hb, hc, hbel⟩ := hrel
    have c1 := hb.cell 1
    simp only [List.getElem?_toArray, List.getElem?_cons_zero, List.getElem?_cons_succ] at c1
    by_cases hlt : k < m
    · have ck := hc.cell hlt
      have fk := hc.free k
      have HN := Lib.hid (hc.set hlt (.int .i64 (-2)))
      have HB := Lib.hid (hb.setOther (c := w.heap.size) (i := k) (by omega) (.int .i64 (-2)))
      have HBe := Lib.hid (below_set hbel (c := w.heap.size) (Nat.le_refl _) k (.int .i64 (-2)))
      have hg := hc.lt
      clear hc hb
      go_wp2
      go_roundw
      case rel =>
        refine ⟨k + 1, by omega, by go_num, HB.out, HN.out.congr fun j hj => ?_, HBe.out⟩
        by_cases hjk : j = k
        · subst hjk; simp
        · rw [if_neg hjk]
          by_cases h1 : j < k
          · rw [if_pos h1, if_pos (by omega)]
          · rw [if_neg h1, if_neg (by omega)]
      case measure => simp [intOf]; omega
    · have hc' := hc.congr (G := fun j => .int .i64 (link [] j)) (fun j hj => by rw [if_pos (by omega)]; rfl)
      have HS : Hid (St wr (w.heap.size + 1) w.heap.size m []) := ⟨hb, hc', List.nodup_nil, by simp, by omega, hm⟩
      clear hc hc' hb
      go_wp2
      go_ret
      exact ⟨rfl, HS.out, hbel⟩

set_option maxHeartbeats 1000000 in
theorem new_bad (m : Int) (w : World) (h : m < 0 ∨ 1024 < m) : Calls Try.prog 37 #[.int .i64 m] w fun e w' => e = .returned (.pointer none) ∧ w = w' := by
  by_cases h1 : m < 0
  · clear h
    go_enter Try.func37, Try.ntmps37
    go_wp2
    go_ret
    exact ⟨rfl, rfl⟩
  · have h2 : 1024 < m := by omega
    clear h
    go_enter Try.func37, Try.ntmps37
    go_wp2
    go_ret
    exact ⟨rfl, rfl⟩

set_option maxHeartbeats 1000000 in
theorem alive_any (w : World) : Calls Try.prog 36 #[] w fun e w' => e = .returned (.bool true) ∧ Below w.heap.size w w' := by
  have h4 : ((4 : Nat) : Int) = 4 := rfl
  go_enter Try.func36, Try.ntmps36
  go_wp2_with fail
  refine (new_good 4 _ (by decide)).mono ?_
  rintro e w1 ⟨rfl, hs, hb⟩
  go_wp2_with fail
  refine (put_any _ _ _ _ _ _ hs).mono ?_
  rw [show putL 4 [] 1 = [1] from rfl, show putB 4 [] 1 = true from rfl]
  rintro e w2 ⟨rfl, hs2, ho2⟩
  go_wp2_with fail
  refine (put_any _ _ _ _ _ _ hs2).mono ?_
  rw [show putL 4 [1] 2 = [2, 1] from rfl, show putB 4 [1] 2 = true from rfl]
  rintro e w3 ⟨rfl, hs3, ho3⟩
  go_wp2_with fail
  refine (get_any _ _ _ _ _ hs3).mono ?_
  rintro e w4 ⟨rfl, hs4, ho4⟩
  go_wp2_with fail
  refine (len_any _ _ _ _ _ hs4).mono ?_
  rintro e w5 ⟨rfl, rfl⟩
  go_wp2_with fail
  go_ret
  refine ⟨rfl, below_only (below_only (below_only hb ho2 ?_) ho3 ?_) ho4 ?_⟩
  all_goals (intro k hk; rcases hk with rfl | rfl <;> omega)

set_option maxHeartbeats 1000000 in
theorem drop_nil (a : Int) (w : World) : Calls Try.prog 49 #[.pointer none, .int .i64 a] w fun e w' => e = .returned (.bool false) ∧ w = w' := by
  go_enter Try.func49, Try.ntmps49
  go_wp2
  go_step3
  go_wp2
  try rw [Exit.noGoto_ret]
  go_ret
  exact ⟨rfl, rfl⟩

set_option maxHeartbeats 1000000 in
theorem nils (w : World) (a : Int) (_ : (Lit.int .i64 a).wf = true) : Calls Try.prog 12 #[.int .i64 a] w fun e w' => e = .returned (.bool true) ∧ Below w.heap.size w w' := by
  go_enter Try.func12, Try.ntmps12
  go_wp2_with (first | (go_at_call 36; refine (alive_any _).mono ?_; rintro e w' ⟨rfl, hb⟩) | (go_at_call 49; refine (drop_nil _ _).mono ?_; rintro e w' ⟨rfl, rfl⟩) | go_in)
  go_ret
  exact ⟨rfl, hb⟩

end Go.Proofs.Ytoeepfhkedfmiaa.Idle
