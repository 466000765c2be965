/- Chapter 20: the contracts of the document's Put and Drop, and of act. -/
import Derived.Test.YtoeepfhkedfmiaaIdleMore
import Derived.Test.YtoeepfhkedfmiaaRefHas
namespace Go.Proofs.Ytoeepfhkedfmiaa.Idle
open Go.RowKit Go.Esc

def PairPost (B : Nat) (L : List Int) (r : Bool) (w : World) (e : Ending) (w' : World) : Prop :=
  ∃ v, e = .returned (.tuple #[v, .bool r]) ∧ Slf w' B v L ∧ Below w.heap.size w w'

theorem OwnI.new1 (w : World) (x : Int) : OwnI (w.alloc (.cells #[.int .i64 x] 3)) w.heap.size (.slice (some ⟨w.heap.size, 0, none⟩) 1 1) [x] :=
  ⟨rfl, .inr ⟨w.heap.size, 1, #[.int .i64 x], rfl, Nat.le_refl _, Blk.new w _ 3, Nat.le_refl _, by decide, rfl, rfl⟩⟩

set_option maxHeartbeats 1000000 in
theorem refput_any (m : Nat) (v : Value) (x : List Int) (id : Int) (B : Nat) (w : World) (h : Slf w B v x) (hB : B ≤ w.heap.size) (hl : x.length ≤ 1024) :
    Calls Try.prog 57 #[v, .int .i64 m, .int .i64 id] w (PairPost B (putL m x id) (putB m x id) w) := by
  unfold putL putB
  by_cases h0 : id < 0
  · rw [if_pos (.inl h0), decide_eq_true (.inl h0)]
    have HS := Lib.hid h
    clear h
    go_enter Try.func57, Try.ntmps57
    go_wp2
    go_ret2
    exact ⟨_, rfl, HS.out, Below.refl _ _⟩
  · by_cases h1 : (m : Int) ≤ id
    · rw [if_pos (.inr (.inl h1)), decide_eq_true (.inr (.inl h1))]
      have HS := Lib.hid h
      clear h
      go_enter Try.func57, Try.ntmps57
      go_wp2
      go_ret2
      exact ⟨_, rfl, HS.out, Below.refl _ _⟩
    · have hd0 : decide (id < 0) = false := by simp; omega
      have hd1 : decide ((m : Int) ≤ id) = false := by simp; omega
      by_cases hx : id ∈ x
      · rw [if_pos (.inr (.inr hx)), decide_eq_true (.inr (.inr hx))]
        have HH := Lib.hid (Ref.has_yes v x id w h.sl hx)
        have HS := Lib.hid h
        clear h hx
        go_enter Try.func57, Try.ntmps57
        go_wp2_with (go_at_call 48; refine HH.out.mono ?_; rintro e w' ⟨rfl, rfl⟩)
        go_ret2
        exact ⟨_, rfl, HS.out, Below.refl _ _⟩
      · have hno : ¬ (id < 0 ∨ (m : Int) ≤ id ∨ id ∈ x) := fun h' => h'.elim h0 (fun h' => h'.elim h1 hx)
        rw [if_neg hno, decide_eq_false hno]
        have HH := Lib.hid (Ref.has_no v x id w h.sl hx)
        have hS2 := h.below (below_alloc (Below.refl _ w) (.cells #[.int .i64 id] 3))
        have HS2 := Lib.hid hS2
        have hn1 := OwnI.new1 w id
        clear h hx hno hS2
        go_enter Try.func57, Try.ntmps57
        go_wp2_with (first | (go_at_call 48; refine HH.out.mono ?_; rintro e w' ⟨rfl, rfl⟩) | (at_builtin; refine appF Try.underlying49 info3 w.heap.size _ rfl _ _ rfl _ [id] _ x rfl rfl hn1 HS2.out (by simp) (by simp; omega) ?_; intro v' w3 hown' hgrow))
        go_ret2
        exact ⟨_, rfl, (Slf.ofOwn hown').mono hB, below_grown (below_alloc (Below.refl _ _) _) hgrow (fun k e => (hn1.lt k e).1)⟩

theorem filter_snoc (L : List Int) (self : Int) (k : Nat) (h : k < L.length) : (L.take (k + 1)).filter (fun p => p != self) = (L.take k).filter (fun p => p != self) ++ (if L[k]?.getD 0 != self then [L[k]?.getD 0] else []) := by
  rw [List.take_succ_eq_append_getElem h, List.filter_append]
  simp only [h, List.getElem?_eq_getElem, Option.getD_some]
  by_cases hc : (L[k] != self) = true
  · simp [hc]
  · simp [hc]

theorem erase_lt (x : List Int) (id : Int) : decide ((x.erase id).length < x.length) = decide (id ∈ x) := by
  apply decide_eq_decide.2
  by_cases h : id ∈ x
  · have := List.length_erase_of_mem h
    have := List.length_pos_of_mem h
    constructor <;> intro _ <;> first | exact h | omega
  · rw [List.erase_of_not_mem h]
    constructor
    · intro h'; omega
    · intro h'; exact absurd h' h

set_option maxHeartbeats 1000000 in
theorem refdrop_any (v : Value) (L : List Int) (id : Int) (B : Nat) (w : World) (h : Slf w B v L) (hB : B ≤ w.heap.size) (hl : L.length ≤ 1024) (hn : L.Nodup) :
    Calls Try.prog 58 #[v, .int .i64 id] w (PairPost B (L.erase id) (decide (id ∈ L)) w) := by
  have HE := Lib.hid (hn.erase_eq_filter id)
  have HLt := Lib.hid (erase_lt L id)
  obtain ⟨a, cap, rfl, hno, hm, hcl⟩ := h
  have HCL := Lib.hid hcl
  clear hcl hn hno
  go_enter Try.func58, Try.ntmps58
  go_wp2
  go_loopw [6, 7] (fun u i wr => ∃ k : Nat, k ≤ L.length ∧ i = .int .i64 k ∧ OwnI wr w.heap.size u ((L.take k).filter (fun p => p != id)) ∧ Below w.heap.size w wr) (fun _ i _ => L.length - (intOf i).toNat)
  case atStart => exact ⟨0, Nat.zero_le _, rfl, OwnI.nil _ _, Below.refl _ _⟩
  case round =>
    obtain ⟨k, hk, rfl, hown, hbel⟩ := hrel
    have hfl : ((L.take k).filter (fun p => p != id)).length ≤ k := Nat.le_trans (List.length_filter_le _ _) (by rw [List.length_take]; omega)
    by_cases hlt : k < L.length
    · rcases HCL.out with h0 | ⟨b, off, rfl, _, hbl, hcells⟩
      · simp [h0] at hlt
      have HF := Lib.hid (filter_snoc L id k hlt)
      have c0 := (hbel.cell (p := ⟨b, off + k, none⟩) hbl).trans (hcells k hlt)
      clear hcells
      generalize L[k]?.getD 0 = x at *
      cases hc : (x != id)
      · go_wp2_with fail
        go_roundw
        case rel => exact ⟨k + 1, by omega, by go_num, by rw [HF.out, if_neg (by simp [hc]), List.append_nil]; exact hown, hbel⟩
        case measure => simp [intOf]; omega
      · go_wp2_with (at_builtin; refine app1 Try.underlying49 info3 w.heap.size wr x rfl _ _ rfl _ _ rfl rfl hown hbel.size (by omega) ?_; intro v' w3 hown' hgrow _)
        have hbel3 : Below w.heap.size w w3 := below_grown hbel hgrow (fun j e => (hown.lt j e).1)
        go_roundw
        case rel => exact ⟨k + 1, by omega, by go_num, by rw [HF.out, if_pos hc]; exact hown', hbel3⟩
        case measure => simp [intOf]; omega
    · obtain rfl : k = L.length := by omega
      rw [List.take_length, ← HE.out] at hown
      obtain ⟨a', cap', hv, _⟩ := Sl.ofOwn hown
      subst hv
      have HO := Lib.hid hown
      have hlt2 := HLt.out
      clear hown hfl
      generalize hel : (L.erase id).length = q at *
      have HQ := Lib.hid hel
      clear hel
      go_wp2
      go_ret2
      exact ⟨_, rfl, (Slf.ofOwn HO.out).mono hB, hbel⟩

def actL (m : Nat) (k id : Int) (x : List Int) : List Int := if k = 0 then putL m x id else if k = 1 then x.tail else x.erase id

def ActPost (b g m B : Nat) (x' : List Int) (w : World) (e : Ending) (w' : World) : Prop :=
  ∃ v, e = .returned (.tuple #[v, .bool true]) ∧ St w' b g m x' ∧ Slf w' B v x' ∧ Only (TwoOf b g) w w'

set_option maxHeartbeats 2000000 in
theorem act_any (b g m B : Nat) (v : Value) (x : List Int) (k id : Int) (w : World) (h : St w b g m x) (hv : Slf w B v x) (hB : B ≤ w.heap.size) (hbB : b < B) (hgB : g < B) :
    Calls Try.prog 45 #[.pointer (some ⟨b, 0, none⟩), v, .int .i64 m, .agg #[.int .i64 k, .int .i64 id]] w (ActPost b g m B (actL m k id x) w) := by
  have hl := h.len
  have hnS : ∀ k, B ≤ k → ¬ TwoOf b g k := by rintro k hk (e | e) <;> omega
  have HN := Lib.hid hnS
  have hb0 := below_alloc (Below.refl _ w) (.cells #[.int .i64 k, .int .i64 id] 58)
  have hSt := h.below hb0
  have hSv := hv.below hb0
  have hB0 : B ≤ (w.alloc (.cells #[.int .i64 k, .int .i64 id] 58)).heap.size := by simp; omega
  have hbk := Blk.new w #[.int .i64 k, .int .i64 id] 58
  have HBK := Lib.hid hbk
  have hO := (Only.refl (TwoOf b g) w).alloc (.cells #[.int .i64 k, .int .i64 id] 58)
  have HO := Lib.hid hO
  have hbl := h.1.lt
  have hgl := h.2.1.lt
  clear hnS hb0 hbk hO
  by_cases hk0 : k = 0
  · subst hk0
    have HA : Hid (actL m 0 id x = putL m x id) := by show _ = _; unfold actL; rw [if_pos rfl]
    have HP := Lib.hid (refput_any m v x id B _ hSv hB0 hl)
    have HS := Lib.hid hSt
    clear h hv hSt hSv
    go_enter Try.func45, Try.ntmps45
    go_wp2_with fail
    refine HP.out.mono ?_
    rintro e w2 ⟨v2, rfl, hs2, hb2⟩
    have hst2 := HS.out.below hb2
    have hk2 := HBK.out.below hb2 (by simp)
    have y0 := hk2.cell 0
    have y1 := hk2.cell 1
    simp only [List.getElem?_toArray, List.getElem?_cons_zero, List.getElem?_cons_succ] at y0 y1
    have HS2 := Lib.hid hs2
    clear hs2 hk2
    go_wp2_with fail
    refine (put_any _ _ _ _ _ _ hst2).mono ?_
    rintro e w3 ⟨rfl, hst3, ho3⟩
    have hbb : (putB m x id == putB m x id) = true := by simp
    go_wp2_with fail
    go_ret2
    exact ⟨_, rfl, by rw [HA.out]; exact hst3, by rw [HA.out]; exact HS2.out.only ho3 HN.out, (HO.out.below hb2).trans ho3⟩
  · have hk0b : (k == 0) = false := by simp [hk0]
    by_cases hk1 : k = 1
    · subst hk1
      have HA : Hid (actL m 1 id x = x.tail) := by show _ = _; unfold actL; rw [if_neg (by decide), if_pos rfl]
      have HS := Lib.hid hSt
      have HV := Lib.hid hSv
      clear h hv hSt hSv hk0
      cases x with
      | nil =>
        obtain ⟨a, cap, rfl, _, _, _⟩ := HV.out
        go_enter Try.func45, Try.ntmps45
        go_wp2_with fail
        refine (get_any _ _ _ _ _ HS.out).mono ?_
        rintro e w2 ⟨rfl, hs2, ho2⟩
        go_wp2_with fail
        go_ret2
        exact ⟨_, rfl, by rw [HA.out]; exact hs2, by rw [HA.out]; exact HV.out.only ho2 HN.out, HO.out.trans ho2⟩
      | cons y r =>
        rcases HV.out.open with ⟨_, h0⟩ | ⟨_, _, _, h0⟩ | ⟨bv, off, cap, rfl, _, hcapl, hBb, hbv, hcells⟩
        · simp at h0
        · simp at h0
        have cv := hcells 0 (by simp)
        simp only [Nat.add_zero, List.getElem?_cons_zero, Option.getD_some] at cv
        clear hcells
        have hl2 : (y :: r).length = r.length + 1 := rfl
        rw [hl2] at hcapl hl
        have HV2 := HV.out
        rw [hl2] at HV2
        have HV3 := Lib.hid HV2
        clear HV HV2 hl2
        by_cases hc1 : cap = 1
        · have hr0 : r.length = 0 := by omega
          have hrn : r = [] := List.length_eq_zero_iff.1 hr0
          subst hrn hc1
          go_enter Try.func45, Try.ntmps45
          go_wp2_with fail
          refine (get_any _ _ _ _ _ HS.out).mono ?_
          rintro e w2 ⟨rfl, hs2, ho2⟩
          have cv2 := (World.cell?_of_block (ho2.block bv hbv (HN.out bv hBb))).trans cv
          go_wp2_with fail
          go_quiet (fail)
          go_wp2_with fail
          go_ret2
          exact ⟨_, rfl, by rw [HA.out]; exact hs2.drewN _, by rw [HA.out]; exact Slf.none0 _ _ _ _, (HO.out.trans ho2).drewN _⟩
        · go_enter Try.func45, Try.ntmps45
          go_wp2_with fail
          refine (get_any _ _ _ _ _ HS.out).mono ?_
          rintro e w2 ⟨rfl, hs2, ho2⟩
          have cv2 := (World.cell?_of_block (ho2.block bv hbv (HN.out bv hBb))).trans cv
          go_wp2_with fail
          go_quiet (fail)
          go_wp2_with fail
          go_ret2
          exact ⟨_, rfl, by rw [HA.out]; exact hs2.drewN _, by rw [HA.out]; exact (HV3.out.only ho2 HN.out).drop (l := y :: r) 1 (by simp) rfl (by omega), (HO.out.trans ho2).drewN _⟩
    · have hk1b : (k == 1) = false := by simp [hk1]
      have HA : Hid (actL m k id x = x.erase id) := by show _ = _; unfold actL; rw [if_neg hk0, if_neg hk1]
      have HP := Lib.hid (refdrop_any v x id B _ hSv hB0 hl hSt.2.2.1)
      have HS := Lib.hid hSt
      clear h hv hSt hSv hk0 hk1
      go_enter Try.func45, Try.ntmps45
      go_wp2_with fail
      refine HP.out.mono ?_
      rintro e w2 ⟨v2, rfl, hs2, hb2⟩
      have hst2 := HS.out.below hb2
      have hk2 := HBK.out.below hb2 (by simp)
      have y0 := hk2.cell 0
      have y1 := hk2.cell 1
      simp only [List.getElem?_toArray, List.getElem?_cons_zero, List.getElem?_cons_succ] at y0 y1
      have HS2 := Lib.hid hs2
      clear hs2 hk2
      go_wp2_with fail
      refine (drop_any _ _ _ _ _ _ hst2).mono ?_
      rintro e w3 ⟨rfl, hst3, ho3⟩
      have hbb : (decide (id ∈ x) == decide (id ∈ x)) = true := by simp
      go_wp2_with fail
      go_ret2
      exact ⟨_, rfl, by rw [HA.out]; exact hst3, by rw [HA.out]; exact HS2.out.only ho3 HN.out, (HO.out.below hb2).trans ho3⟩

end Go.Proofs.Ytoeepfhkedfmiaa.Idle
