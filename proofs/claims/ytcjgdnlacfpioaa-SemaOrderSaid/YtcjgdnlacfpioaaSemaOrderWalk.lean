/- Chapter 22: the walk of SemaOrder. -/
import Derived.Test.YtcjgdnlacfpioaaSemaNilsWalk
import Derived.Test.YtcjgdnlacfpioaaRefHas
namespace Go.Proofs.Ytcjgdnlacfpioaa.Sema
open Go.RowKit Go.Esc Go.Proofs.Ytcjgdnlacfpioaa.Ref
set_option linter.unusedVariables false

/-- Who owns it, and who waits, as one list: all are 1 at least. -/
def Ord (ow : Int) (l W : List Int) : Prop := ((ow = 0 ∧ l = [] ∧ W = []) ∨ (1 ≤ ow ∧ W = ow :: l)) ∧ ∀ y ∈ l, 1 ≤ y
theorem Ord.nil : Ord 0 [] [] := ⟨.inl ⟨rfl, rfl, rfl⟩, by simp⟩
theorem Ord.low {ow : Int} {l W : List Int} (h : Ord ow l W) {x : Int} (hx : x < 1) : acqO ow x = ow ∧ acqL ow l x = l ∧ acqB ow x = false ∧ acqF x = 1 := by
  unfold acqO acqL acqB acqF; simp [hx]
def wnt (W : List Int) (x : Int) : List Int := if x ∈ W then W else W ++ [x]
theorem Ord.step {ow : Int} {l W : List Int} (h : Ord ow l W) {x : Int} (hx : ¬ x < 1) : Ord (acqO ow x) (acqL ow l x) (wnt W x) ∧ acqF x = 0 ∧ wnt W x ≠ [] ∧ ((wnt W x).headD 0 == x) = acqB ow x := by
  obtain ⟨h1, h2⟩ := h
  unfold acqO acqL acqB acqF wnt
  simp only [hx, if_false]
  rcases h1 with ⟨rfl, rfl, rfl⟩ | ⟨ho, rfl⟩
  · simp only [if_true, List.not_mem_nil, if_false, List.nil_append]
    exact ⟨⟨.inr ⟨by omega, rfl⟩, by simp⟩, trivial, by simp, by simp⟩
  · have h0 : ¬ ow = 0 := by omega
    simp only [h0, if_false]
    by_cases e : ow = x
    · subst e
      simp only [if_true, List.mem_cons, true_or, decide_true]
      exact ⟨⟨.inr ⟨ho, rfl⟩, h2⟩, trivial, by simp, by simp⟩
    · have e' : ¬ x = ow := fun q => e q.symm
      simp only [e, if_false, List.mem_cons, e', false_or, decide_false]
      by_cases hm : x ∈ l
      · simp only [hm, if_true]
        exact ⟨⟨.inr ⟨ho, rfl⟩, h2⟩, trivial, by simp, by simp [e]⟩
      · simp only [hm, if_false]
        refine ⟨⟨.inr ⟨ho, rfl⟩, fun y hy => ?_⟩, trivial, by simp, by simp [e]⟩
        rcases List.mem_append.1 hy with h' | h'
        · exact h2 y h'
        · simp at h'; omega
theorem wnt_len (W : List Int) (x : Int) : (wnt W x).length ≤ W.length + 1 := by
  unfold wnt; split <;> simp
theorem Ord.goes {ow : Int} {l R : List Int} (h : Ord ow l R) (ho : 0 < ow) : R = ow :: l ∧ relO ow l ow = l.headD 0 ∧ relL ow l ow = l.tail ∧ Ord (l.headD 0) l.tail l := by
  obtain ⟨h1, h2⟩ := h
  have hn : ¬ ow < 1 := by omega
  unfold relO relL
  simp only [hn, if_false, if_true]
  rcases h1 with ⟨rfl, _⟩ | ⟨_, rfl⟩
  · omega
  · refine ⟨rfl, trivial, trivial, ?_⟩
    cases l with
    | nil => exact ⟨.inl ⟨rfl, rfl, rfl⟩, by simp⟩
    | cons y r => exact ⟨.inr ⟨h2 y (by simp), rfl⟩, fun z hz => h2 z (List.mem_cons_of_mem _ hz)⟩
theorem Ord.done {ow : Int} {l R : List Int} (h : Ord ow l R) (ho : ¬ 0 < ow) : ow = 0 ∧ l = [] ∧ R = [] := by
  rcases h.1 with h | ⟨h, _⟩
  · exact h
  · omega

theorem own_head {w : World} {base g n cap : Nat} {l : List Int} (h : OwnI w base (.slice (some ⟨g, 0, none⟩) n cap) l) (hl : l ≠ []) : w.cell? ⟨g, 0, none⟩ = some (.int .i64 (l.headD 0)) := by
  rcases h.open with ⟨_, h0⟩ | ⟨g', cap', h0, _, _, _, hc⟩
  · exact absurd h0 hl
  · simp only [Value.slice.injEq, Option.some.injEq, Addr.mk.injEq] at h0
    obtain ⟨⟨rfl, _⟩, _⟩ := h0
    cases l with
    | nil => exact absurd rfl hl
    | cons y r => simpa using hc 0 (by simp)

/-- The semaphore, and a row of one's own beside it. -/
structure Od (w0 w : World) (b : Nat) (ow : Int) (l : List Int) (v t : Value) (W : List Int) : Prop where
  sm : Sm w b ow v l
  own : OwnI w w0.heap.size t W
  off : ∀ j, t.ownBlock = some j → ¬ Sf b v j
  lb : w0.heap.size ≤ b
  lv : ∀ j, v.ownBlock = some j → w0.heap.size ≤ j
  bel : Below w0.heap.size w0 w
theorem Od.act {w0 w w1 : World} {b : Nat} {ow ow' : Int} {l l' : List Int} {v t : Value} {W : List Int} (h : Od w0 w b ow l v t W) (hp : Sp b ow' v l' w w1) : ∃ v', Od w0 w1 b ow' l' v' t W := by
  obtain ⟨v', hs, ho, hg⟩ := hp
  have hbl := h.sm.blk.lt
  refine ⟨v', hs, h.own.off ho h.off, fun j hj e => ?_, h.lb, hg.ge h.lv h.bel.size, below_only h.bel ho (Sf.ge h.lb h.lv)⟩
  rcases e with e | e
  · exact h.off j hj (.inl e)
  · rcases hg j e with h' | h'
    · exact h.off j hj (.inr h')
    · have := (h.own.lt j hj).2; omega
theorem Od.app {w0 w w1 : World} {b : Nat} {ow : Int} {l : List Int} {v t t' : Value} {W m : List Int} {tmp : Obj} (h : Od w0 w b ow l v t W) (hA : Appd (w.alloc tmp) w0.heap.size t W m t' w1) : Od w0 w1 b ow l v t' (W ++ m) := by
  obtain ⟨ho, hg, hx⟩ := hA
  have hO : Only (fun j => t.ownBlock = some j) w w1 := ((Only.refl _ w).alloc tmp).grown hg (fun j e => .inr e)
  refine ⟨h.sm.only hO (fun j hj e => h.off j e hj), ho, fun j hj e => ?_, h.lb, h.lv, below_only h.bel hO (fun j e => (h.own.lt j e).1)⟩
  rcases hx j hj with h' | h'
  · exact h.off j h' e
  · simp at h'
    rcases e with e | e
    · have := h.sm.blk.lt; omega
    · have := h.sm.live j e; omega
theorem Od.below {w0 w w' : World} {b : Nat} {ow : Int} {l : List Int} {v t : Value} {W : List Int} (h : Od w0 w b ow l v t W) (hb : Below w.heap.size w w') : Od w0 w' b ow l v t W :=
  ⟨h.sm.below hb, h.own.below hb, h.off, h.lb, h.lv, below_below h.bel hb⟩
theorem Od.start (w : World) : Od w (w.alloc (.cells #[.int .i64 0, .slice none 0 0] 61)) w.heap.size 0 [] (.slice none 0 0) (.slice none 0 0) [] :=
  ⟨Sm.new w, OwnI.nil _ _, by simp [Value.ownBlock], Nat.le_refl _, by simp [Value.ownBlock], below_alloc (Below.refl _ _) _⟩
/-- Another row that is kept beside it. -/
theorem Od.keep1 {w0 w w1 : World} {b : Nat} {ow ow' : Int} {l l' : List Int} {v t q : Value} {W Q : List Int} (h : Od w0 w b ow l v t W) (hp : Sp b ow' v l' w w1) (hq : OwnI w w0.heap.size q Q) (ho : ∀ j, q.ownBlock = some j → ¬ Sf b v j) : OwnI w1 w0.heap.size q Q := by
  obtain ⟨v', hs, o, hg⟩ := hp
  exact hq.off o ho

/-- The semaphore, the list that was wanted, and what was got. -/
structure Oe (w0 w : World) (b : Nat) (ow : Int) (l : List Int) (v t : Value) (W : List Int) (q : Value) (G : List Int) : Prop where
  od : Od w0 w b ow l v t W
  got : OwnI w w0.heap.size q G
  off : ∀ j, q.ownBlock = some j → ¬ Sf b v j
  ne : ∀ j, q.ownBlock = some j → t.ownBlock ≠ some j
theorem Oe.app {w0 w w1 : World} {b : Nat} {ow : Int} {l : List Int} {v t q q' : Value} {W G m : List Int} {tmp : Obj} (h : Oe w0 w b ow l v t W q G) (hA : Appd (w.alloc tmp) w0.heap.size q G m q' w1) : Oe w0 w1 b ow l v t W q' (G ++ m) := by
  obtain ⟨ho, hg, hx⟩ := hA
  have hO : Only (fun j => q.ownBlock = some j) w w1 := ((Only.refl _ w).alloc tmp).grown hg (fun j e => .inr e)
  refine ⟨⟨h.od.sm.only hO (fun j hj e => h.off j e hj), h.od.own.off hO (fun j hj e => h.ne j e hj), h.od.off, h.od.lb, h.od.lv, below_only h.od.bel hO (fun j e => (h.got.lt j e).1)⟩, ho, fun j hj e => ?_, fun j hj e => ?_⟩
  · rcases hx j hj with h' | h'
    · exact h.off j h' e
    · simp at h'
      rcases e with e | e
      · have := h.od.sm.blk.lt; omega
      · have := h.od.sm.live j e; omega
  · rcases hx j hj with h' | h'
    · exact h.ne j h' e
    · have := (h.od.own.lt j e).2
      simp at h'
      omega
theorem Oe.act {w0 w w1 : World} {b : Nat} {ow ow' : Int} {l l' : List Int} {v t q : Value} {W G : List Int} (h : Oe w0 w b ow l v t W q G) (hp : Sp b ow' v l' w w1) : ∃ v', Oe w0 w1 b ow' l' v' t W q G := by
  have hp' := hp
  obtain ⟨v', hs, ho, hg⟩ := hp
  refine ⟨v', ⟨hs, h.od.own.off ho h.od.off, fun j hj e => ?_, h.od.lb, hg.ge h.od.lv h.od.bel.size, below_only h.od.bel ho (Sf.ge h.od.lb h.od.lv)⟩, h.got.off ho h.off, fun j hj e => ?_, h.ne⟩
  · rcases e with e | e
    · exact h.od.off j hj (.inl e)
    · rcases hg j e with h' | h'
      · exact h.od.off j hj (.inr h')
      · have := (h.od.own.lt j hj).2; omega
  · rcases e with e | e
    · exact h.off j hj (.inl e)
    · rcases hg j e with h' | h'
      · exact h.off j hj (.inr h')
      · have := (h.got.lt j hj).2; omega

set_option maxRecDepth 100000 in
set_option maxHeartbeats 8000000 in
theorem order_good (w : World) (a : Option Addr) (len cap : Nat) (f : Nat → Nat → Int) (hr : Row w a len 1 f) (hlen : len ≤ 100) :
    Calls Try.prog 3 #[.slice a len cap] w fun e w' => e = .returned (.bool true) ∧ Below w.heap.size w w' := by
  have hd : decide ((100 : Int) < (len : Int)) = false := by simp; omega
  have HRow := Lib.hid hr
  clear hr
  go_enter Try.func3, Try.ntmps3
  go_wp2_with fail
  refine (new_any w).mono ?_
  rintro e w1 ⟨rfl, rfl⟩
  go_wp2_with fail
  have HS := Lib.hid (Od.start w)
  obtain ⟨wq, hwq⟩ : ∃ wq, wq = w.alloc (.cells #[.int .i64 0, .slice none 0 0] 61) := ⟨_, rfl⟩
  rw [← hwq] at HS ⊢
  clear hwq
  go_loopw [4, 5] (fun t i wr => ∃ (k : Nat) (ow : Int) (l W : List Int) (v : Value), k ≤ len ∧ i = .int .i64 k ∧ W.length ≤ k ∧ Hid (Ord ow l W) ∧ Od w wr w.heap.size ow l v t W) (fun _ i _ => len - (intOf i).toNat)
  case atStart => exact ⟨0, 0, [], [], _, Nat.zero_le _, rfl, Nat.le_refl _, Ord.nil, HS.out⟩
  case round =>
    obtain ⟨k, ow, l, W, v, hk, rfl, hWl, HOr, hD⟩ := hrel
    clear HS
    have hll : l.length ≤ k := by
      rcases HOr.out.1 with ⟨_, rfl, _⟩ | ⟨_, rfl⟩
      · simp
      · simp at hWl; omega
    by_cases hlt : k < len
    · rcases HRow.out with h0 | ⟨ba, off, rfl, hbl, hml, hcell, hwf⟩
      · omega
      have cA : w.cell? ⟨ba, off + k, none⟩ = some (.int .i64 (f k 0)) := by have := hcell k 0 hlt (by omega); simpa using this
      generalize f k 0 = x at *
      have cA0 := (hD.bel.cell (p := ⟨ba, off + k, none⟩) hbl).trans cA
      have HC : Hid (∀ w', Below w.heap.size w w' → w'.cell? ⟨ba, off + k, none⟩ = some (.int .i64 x)) := fun w' hb => (hb.cell (p := ⟨ba, off + k, none⟩) hbl).trans cA
      have HD := Lib.hid hD
      clear hD hcell hwf cA
      have hki : (k : Int) < (len : Int) := by omega
      by_cases hx : x < 1
      · obtain ⟨e1, e2, e3, e4⟩ := HOr.out.low hx
        go_wp2_with fail
        refine (acquire_any _ _ _ _ _ _ HD.out.sm (by omega)).mono ?_
        unfold AcqPost
        rw [e1, e2, e3, e4]
        rintro e w2 ⟨rfl, hp⟩
        obtain ⟨v2, hD2⟩ := HD.out.act hp
        have HD2 := Lib.hid hD2
        have cA2 := HC.out _ hD2.bel
        clear hp hD2 e1 e2 e3 e4
        go_wp2_with fail
        go_roundw
        case rel => exact ⟨k + 1, _, _, _, _, by omega, by go_num, by omega, HOr, HD2.out⟩
        case measure => simp [intOf]; omega
      · obtain ⟨e1, e2, e3, e4⟩ := HOr.out.step hx
        have hxd : decide (x < 1) = false := by simpa using hx
        have HO2 := Lib.hid e1
        have HE3 := Lib.hid e3
        go_wp2_with fail
        refine (acquire_any _ _ _ _ _ _ HD.out.sm (by omega)).mono ?_
        unfold AcqPost
        rw [e2]
        rintro e w2 ⟨rfl, hp⟩
        obtain ⟨v2, hD2⟩ := HD.out.act hp
        have HD2 := Lib.hid hD2
        have cA2 := HC.out _ hD2.bel
        have HE4 := Lib.hid e4
        clear hp hD2 e1 e2 e3 e4 hx
        generalize acqB ow x = q at *
        have hwl := wnt_len W x
        by_cases hm : x ∈ W
        · have HHas := Lib.hid (has_yes _ W x w2 (Sl.ofOwn HD2.out.own) hm)
          have hw : wnt W x = W := by unfold wnt; rw [if_pos hm]
          rw [hw] at HO2 HE3 HE4 hwl
          clear hw hm
          obtain ⟨gw, cw, rfl, cw0⟩ : ∃ gw cw, u4 = .slice (some ⟨gw, 0, none⟩) W.length cw ∧ w2.cell? ⟨gw, 0, none⟩ = some (.int .i64 (W.headD 0)) := by
            rcases HD2.out.own.open with ⟨_, h0⟩ | ⟨gw, cw, h0, _, _, _, hc⟩
            · exact absurd h0 HE3.out
            · refine ⟨gw, cw, h0, ?_⟩
              have := hc 0 (List.length_pos_iff.2 HE3.out)
              cases W with
              | nil => exact absurd rfl HE3.out
              | cons y r => simpa using this
          have hwp : 0 < W.length := List.length_pos_iff.2 HE3.out
          have q1 : (0 : Int) < (W.length : Int) := by omega
          generalize hh : W.headD 0 = h at *
          have hq := HE4.out
          clear hh
          go_wp2_with fail
          refine HHas.out.mono ?_
          rintro e w3 ⟨rfl, rfl⟩
          go_wp2_with fail
          go_quiet (fail)
          go_wp2_with fail
          go_roundw
          case rel => exact ⟨k + 1, _, _, _, _, by omega, by go_num, by omega, HO2, HD2.out.below (below_drewN (Below.refl _ _) _)⟩
          case measure => simp [intOf]; omega
        · have HHas := Lib.hid (has_no _ W x w2 (Sl.ofOwn HD2.out.own) hm)
          have hw : wnt W x = W ++ [x] := by unfold wnt; rw [if_neg hm]
          rw [hw] at HO2 HE3 HE4
          have hln : W.length + [x].length < 100000000 := by simp; omega
          have HLn := Lib.hid hln
          have hws : w.heap.size ≤ w2.heap.size := HD2.out.bel.size
          clear hw hm hln
          go_wp2_with fail
          refine HHas.out.mono ?_
          rintro e w3 ⟨rfl, rfl⟩
          go_wp2_with (at_builtin; refine appX Try.underlying22 info3 w.heap.size _ rfl _ _ rfl u4 W _ [x] rfl rfl (HD2.out.own.alloc _) (Slw.new1 _ x) (by simp; omega) HLn.out ?_; intro t' w4 hA; have hD4 := HD2.out.app hA; have HD4 := Lib.hid hD4; have cA4 := HC.out _ hD4.bel; obtain ⟨gw, cw, rfl⟩ := hA.some; have cw0 : w4.cell? ⟨gw, 0, none⟩ = some (.int .i64 ((W ++ [x]).headD 0)) := (own_head hA.1 HE3.out); clear hA hD4)
          have hwp : 0 < W.length + 1 := by omega
          have q1 : (0 : Int) < (W.length : Int) + 1 := by omega
          generalize hh : (W ++ [x]).headD 0 = h at *
          have hq := HE4.out
          clear hh
          go_wp2_with fail
          go_quiet (fail)
          go_wp2_with fail
          go_roundw
          case rel => exact ⟨k + 1, _, _, _, _, by omega, by go_num, by simp; omega, HO2, HD4.out.below (below_drewN (Below.refl _ _) _)⟩
          case measure => simp [intOf]; omega
    · have hWlen : W.length ≤ len := by omega
      have HE : Hid (Oe w wr w.heap.size ow l v u4 W (.slice none 0 0) []) := ⟨hD, OwnI.nil _ _, by simp [Value.ownBlock], by simp [Value.ownBlock]⟩
      clear hD HRow
      go_wp2_with fail
      clear hll hWl hlt hk
      go_loopw [8, 9] (fun t i wr => ∃ (k : Nat) (ow : Int) (l G R : List Int) (v : Value), i = .int .i64 k ∧ G.length = k ∧ Hid (G ++ R = W) ∧ Hid (Ord ow l R) ∧ Oe w wr w.heap.size ow l v u4 W t G) (fun _ i _ => len + 1 - (intOf i).toNat)
      case atStart => exact ⟨0, ow, l, [], W, v, rfl, rfl, rfl, HOr, HE.out⟩
      case round =>
        clear HE HOr
        obtain ⟨k, ow, l, G, R, v, rfl, hG, HGR, HOr, hE⟩ := hrel
        have hGR : G.length + R.length = W.length := by rw [← HGR.out]; simp
        have hkl : k ≤ len := by omega
        have hkd : decide (k ≤ len) = true := by simpa using hkl
        by_cases ho : 0 < ow
        · obtain ⟨e1, e2, e3, e4⟩ := HOr.out.goes ho
          have hod : decide (0 < ow) = true := by simpa using ho
          have HE4 := Lib.hid e4
          have hRl : R.length = l.length + 1 := by rw [e1]; simp
          have HGl : Hid ((G ++ [ow]) ++ l = W) := by show _ = _; rw [← HGR.out, e1]; simp
          have hln : G.length + [ow].length < 100000000 := by simp; omega
          have HLn := Lib.hid hln
          have hws : w.heap.size ≤ wr.heap.size := hE.od.bel.size
          have HE := Lib.hid hE
          have hll : l.length < 1000000 := by omega
          have hkk : k < len := by omega
          have HG := Lib.hid hG
          have HP : Hid (∀ {v w e w'}, RelPost w.heap.size ow v l ow w e w' → True) := fun _ => trivial
          clear hE hln hG hGR hRl e1 e4 HGR HP
          go_wp2_with (first | (go_at_call 13; have _t := HE; refine (owner_any _ _ _ _ _ HE.out.od.sm).mono ?_; rintro e w2 ⟨rfl, rfl⟩) | (at_builtin; refine appX Try.underlying22 info3 w.heap.size _ rfl _ _ rfl u8 G _ [ow] rfl rfl (HE.out.got.alloc _) (Slw.new1 _ ow) (by simp; omega) HLn.out ?_; intro q' w4 hA; have HE5 := Lib.hid (HE.out.app hA); clear hA HE) | (go_at_call 13; have _t := HE5; refine (owner_any _ _ _ _ _ HE5.out.od.sm).mono ?_; rintro e w2 ⟨rfl, rfl⟩))
          refine (release_any _ _ _ _ _ _ HE5.out.od.sm hll).mono ?_
          unfold RelPost
          rw [e2, e3]
          rintro e w6 ⟨rfl, hp⟩
          obtain ⟨v6, hE6⟩ := HE5.out.act hp
          have HE6 := Lib.hid hE6
          clear hp hE6 e2 e3
          go_wp2_with fail
          go_roundw
          case rel => exact ⟨k + 1, _, _, G ++ [ow], l, _, by go_num, by simp [HG.out], HGl, HE4, HE6.out⟩
          case measure => simp [intOf]; omega
        · obtain ⟨rfl, rfl, rfl⟩ := HOr.out.done ho
          rw [List.append_nil] at HGR
          obtain rfl : G = W := HGR.out
          have HE := Lib.hid hE
          clear hE hG hGR ho
          go_wp2_with fail
          refine (owner_any _ _ _ _ _ HE.out.od.sm).mono ?_
          rintro e w2 ⟨rfl, rfl⟩
          go_wp2_with fail
          refine (same_yes _ _ _ _ (Sl.ofOwn HE.out.got) (Sl.ofOwn HE.out.od.own)).mono ?_
          rintro e w3 ⟨rfl, n3, rfl⟩
          go_wp2_with fail
          refine (waits_any _ _ _ _ _ (HE.out.od.sm.drewN n3) (by simp)).mono ?_
          rintro e w4 ⟨v4, rfl, ho4, hb4⟩
          have HB4 := Lib.hid (below_below (below_drewN HE.out.od.bel n3) hb4)
          obtain ⟨a4, c4, rfl⟩ : ∃ a4 c4, v4 = .slice a4 0 c4 := by obtain ⟨a, c, he, _⟩ := Sl.ofOwn ho4; exact ⟨a, c, he⟩
          clear ho4 hb4
          go_wp2_with (go_at_call 9; refine (alive_any _).mono ?_; rintro e w' ⟨rfl, hb⟩)
          go_ret
          exact ⟨rfl, below_below HB4.out hb⟩

set_option maxHeartbeats 1000000 in
theorem order (w : World) (a : Option Addr) (len cap : Nat) (f : Nat → Nat → Int) (hr : Row w a len 1 f) :
    Calls Try.prog 3 #[.slice a len cap] w fun e w' => e = .returned (.bool true) ∧ Below w.heap.size w w' := by
  by_cases hbig : 100 < len
  · go_enter Try.func3, Try.ntmps3
    go_wp2_with (go_at_call 9; refine (alive_any _).mono ?_; rintro e w' ⟨rfl, hb⟩)
    go_ret
    exact ⟨rfl, hb⟩
  · exact order_good w a len cap f hr (by omega)
end Go.Proofs.Ytcjgdnlacfpioaa.Sema
