/- Chapter 13: the walk of RingKeeps. -/
import Derived.Test.YtgahkcbkpnehfaaRefSort
import Derived.Test.YtgahkcbkpnehfaaRingLight
namespace Go.Proofs.Ytgahkcbkpnehfaa.Ring
open Go.RowKit Go.Esc
set_option linter.unusedVariables false

/-- The ring, who came, who went. -/
structure Kp (w0 w : World) (b g size : Nat) (nx : Int) (row : List Int) (vi vo : Value) (I O : List Int) : Prop where
  ring : Rw w b g size nx row
  own1 : OwnI w w0.heap.size vi I
  own2 : OwnI w w0.heap.size vo O
  off1 : Off (Sg b g) vi
  off2 : Off (Sg b g) vo
  ne : ∀ j, vi.ownBlock = some j → vo.ownBlock ≠ some j
  bel : Below w0.heap.size w0 w
  lb : w0.heap.size ≤ b
  lg : w0.heap.size ≤ g
  perm : (O ++ allL nx row).Perm I

theorem Kp.len {w0 w : World} {b g size : Nat} {nx : Int} {row : List Int} {vi vo : Value} {I O : List Int} (h : Kp w0 w b g size nx row vi vo I O) : O.length ≤ I.length ∧ (allL nx row).length ≤ I.length := by
  have := h.perm.length_eq
  rw [List.length_append] at this
  omega
theorem Kp.below {w0 w w' : World} {b g size : Nat} {nx : Int} {row : List Int} {vi vo : Value} {I O : List Int} (h : Kp w0 w b g size nx row vi vo I O) (hb : Below w.heap.size w w') : Kp w0 w' b g size nx row vi vo I O :=
  ⟨h.ring.below hb, h.own1.below hb, h.own2.below hb, h.off1, h.off2, h.ne, below_below h.bel hb, h.lb, h.lg, h.perm⟩
theorem Kp.drewN {w0 w : World} {b g size : Nat} {nx : Int} {row : List Int} {vi vo : Value} {I O : List Int} (h : Kp w0 w b g size nx row vi vo I O) (n : Nat) : Kp w0 (w.drewN n) b g size nx row vi vo I O :=
  ⟨h.ring.drewN n, h.own1.drewN n, h.own2.drewN n, h.off1, h.off2, h.ne, below_drewN h.bel n, h.lb, h.lg, h.perm⟩
/-- One comes: in = append(in, x). The sum is not yet even. -/
theorem Kp.comes {w0 w w1 : World} {b g size : Nat} {nx : Int} {row : List Int} {vi vo vi' : Value} {I O m : List Int} {tmp : Obj} (h : Kp w0 w b g size nx row vi vo I O) (hA : Appd (w.alloc tmp) w0.heap.size vi I m vi' w1) :
    Rw w1 b g size nx row ∧ OwnI w1 w0.heap.size vi' (I ++ m) ∧ OwnI w1 w0.heap.size vo O ∧ Off (Sg b g) vi' ∧ (∀ j, vi'.ownBlock = some j → vo.ownBlock ≠ some j) ∧ Below w0.heap.size w0 w1 := by
  obtain ⟨ho, hg, hx⟩ := hA
  have hO : Only (fun j => vi.ownBlock = some j) w w1 := ((Only.refl _ w).alloc tmp).grown hg (fun j e => .inr e)
  refine ⟨h.ring.only hO (fun j hj e => h.off1 j e hj), ho, h.own2.off hO (fun j hj e => h.ne j e hj), fun j hj hs => ?_, fun j hj e => ?_, below_only h.bel hO (fun j e => (h.own1.lt j e).1)⟩
  · rcases hx j hj with h' | h'
    · exact h.off1 j h' hs
    · have := h.ring.lt
      simp at h'
      rcases hs with rfl | rfl <;> omega
  · rcases hx j hj with h' | h'
    · exact h.ne j h' e
    · have := (h.own2.lt j e).2
      simp at h'
      omega
/-- Some go: the ring turns, then out = append(out, ...). -/
theorem Kp.goes {w0 w w1 w2 : World} {b g size : Nat} {nx nx' : Int} {row row' : List Int} {vi vo vo' : Value} {I' O m : List Int} (hb : Below w0.heap.size w0 w) (hr : Rw w b g size nx row) (o1 : OwnI w w0.heap.size vi I') (o2 : OwnI w w0.heap.size vo O) (f1 : Off (Sg b g) vi) (f2 : Off (Sg b g) vo) (ne : ∀ j, vi.ownBlock = some j → vo.ownBlock ≠ some j)
    (lb : w0.heap.size ≤ b) (lg : w0.heap.size ≤ g) (hr1 : Rw w1 b g size nx' row') (hO : Only (Sg b g) w w1) (hA : Appd w1 w0.heap.size vo O m vo' w2) (hp : (O ++ m ++ allL nx' row').Perm I') : Kp w0 w2 b g size nx' row' vi vo' I' (O ++ m) := by
  obtain ⟨ho, hg, hx⟩ := hA
  have o11 := o1.off hO f1
  have o21 := o2.off hO f2
  have hO2 : Only (fun j => vo.ownBlock = some j) w1 w2 := (Only.refl _ w1).grown hg (fun j e => .inr e)
  have hb1 : Below w0.heap.size w0 w1 := below_only hb hO (fun k hk => by rcases hk with rfl | rfl; exact lb; exact lg)
  refine ⟨hr1.only hO2 (fun j hj e => f2 j e hj), o11.off hO2 (fun j hj e => ne j hj e), ho, f1, fun j hj hs => ?_, fun j hj e => ?_, below_only hb1 hO2 (fun j e => (o2.lt j e).1), lb, lg, hp⟩
  · rcases hx j hj with h' | h'
    · exact f2 j h' hs
    · have := hr1.lt
      rcases hs with rfl | rfl <;> omega
  · rcases hx j e with h' | h'
    · exact ne j hj h'
    · have := (o11.lt j hj).2
      omega
theorem Kp.last {w0 w w1 : World} {b g size : Nat} {nx : Int} {row : List Int} {vi vo vo' : Value} {I O m : List Int} (h : Kp w0 w b g size nx row vi vo I O) (hA : Appd w w0.heap.size vo O m vo' w1) : OwnI w1 w0.heap.size vi I ∧ OwnI w1 w0.heap.size vo' (O ++ m) ∧ Below w0.heap.size w0 w1 := by
  obtain ⟨ho, hg, hx⟩ := hA
  have hO2 : Only (fun j => vo.ownBlock = some j) w w1 := (Only.refl _ w).grown hg (fun j e => .inr e)
  exact ⟨h.own1.off hO2 (fun j hj e => h.ne j hj e), ho, below_only h.bel hO2 (fun j e => (h.own2.lt j e).1)⟩
theorem Appd.none {W : World} {base : Nat} {v : Value} {l : List Int} (h : OwnI W base v l) : Appd W base v l [] v W := ⟨by simpa using h, grown_refl _ _, fun j h => .inl h⟩
theorem Kp.start {w w1 : World} {m : Nat} (hR : Rw w1 (w.heap.size + 1) w.heap.size m 0 []) (hB : Below w.heap.size w w1) : Kp w w1 (w.heap.size + 1) w.heap.size m 0 [] (.slice none 0 0) (.slice none 0 0) [] [] :=
  ⟨hR, OwnI.nil _ _, OwnI.nil _ _, Off.nil _, Off.nil _, by simp [Value.ownBlock], hB, by omega, Nat.le_refl _, by simp [allL]⟩

set_option maxRecDepth 100000 in
set_option maxHeartbeats 4000000 in
theorem keeps_good (w : World) (m : Nat) (hm : ¬ ringBad m) (a : Option Addr) (len cap : Nat) (f : Nat → Nat → Int) (v : Nat → Value) (l : Nat → List Int) (hr : ARow w a len 2 f v l) (hlen : len ≤ 100) (HLi : Calls Try.prog 21 #[.slice a len cap] w (fun e w' => e = .returned (.bool true) ∧ w = w')) :
    Calls Try.prog 5 #[.int .i64 m, .slice a len cap] w fun e w' => e = .returned (.bool true) ∧ Below w.heap.size w w' := by
  have HN := Lib.hid (new_good m w hm)
  have HL := Lib.hid HLi
  have HRow := Lib.hid hr
  clear hr HLi hm
  go_enter Try.func5, Try.ntmps5
  go_wp2_with fail
  refine HL.out.mono ?_
  rintro e w1 ⟨rfl, rfl⟩
  go_wp2_with fail
  refine HN.out.mono ?_
  rintro e w1 ⟨rfl, hR, hB⟩
  have HS := Lib.hid (Kp.start hR hB)
  clear hR hB
  go_wp2_with fail
  go_loopw [6, 7, 8] (fun v6 v7 i wr => ∃ (k : Nat) (nx : Int) (row I O : List Int), k ≤ len ∧ i = .int .i64 k ∧ I.length ≤ k ∧ Kp w wr (w.heap.size + 1) w.heap.size m nx row v6 v7 I O) (fun _ _ i _ => len - (intOf i).toNat)
  case atStart => exact ⟨0, 0, [], [], [], Nat.zero_le _, rfl, Nat.le_refl _, HS.out⟩
  case round =>
    obtain ⟨k, nx, row, I, O, hk, rfl, hIl, hK⟩ := hrel
    clear HS
    obtain ⟨hrl, hlo, hhi, hnx, hne⟩ := hK.ring.nums
    obtain ⟨hOl, hAl⟩ := hK.len
    by_cases hlt : k < len
    · rcases HRow.out with h0 | ⟨ba, off, rfl, hbl, hml, hcell, hwf, hs⟩
      · omega
      have cA0 := (hK.bel.cell (p := ⟨ba, off + (k * (2 + 1) + 0), none⟩) hbl).trans (hcell k 0 hlt (by omega))
      have cA1 := (hK.bel.cell (p := ⟨ba, off + (k * (2 + 1) + 1), none⟩) hbl).trans (hcell k 1 hlt (by omega))
      obtain ⟨cA2, hsl⟩ := hs k hlt
      replace cA2 := (hK.bel.cell (p := ⟨ba, off + (k * (2 + 1) + 2), none⟩) hbl).trans cA2
      rw [← Nat.add_assoc] at cA1 cA2
      simp only [Nat.reduceAdd, Nat.add_zero] at cA0 cA1 cA2
      have hbl' : ba < wr.heap.size := Nat.lt_of_lt_of_le hbl hK.bel.size
      obtain ⟨au, cu, hv⟩ := hsl.len
      rw [hv] at cA2
      generalize (l k).length = lu at *
      generalize f k 0 = kind at *
      generalize f k 1 = x at *
      clear hv
      have HK := Lib.hid hK
      clear hK hs hcell hwf hsl
      have hki : (k : Int) < (len : Int) := by omega
      by_cases hk3 : kind = 3
      · subst hk3
        go_wp2_with fail
        obtain ⟨wp, hwp⟩ : ∃ wp, wp = wr.alloc (.cells #[.int .i64 3, .int .i64 x, .slice au lu cu] 37) := ⟨_, rfl⟩
        have HKp : Hid (Kp w wp (w.heap.size + 1) w.heap.size m nx row u6 u7 I O) := by rw [hwp]; exact HK.out.below (below_alloc (Below.refl _ _) _)
        rw [← hwp]
        clear hwp
        refine (grab_any _ _ _ _ _ _ HKp.out.ring).mono ?_
        rintro e w2 ⟨v2, rfl, ho2, hR2, hO2⟩
        have HO2 := Lib.hid hO2
        have HR2 := Lib.hid hR2
        have HS2 := Lib.hid (Slw.ofOwn ho2)
        have HOo := Lib.hid (HKp.out.own2.off hO2 HKp.out.off2)
        have hws : w.heap.size ≤ w2.heap.size := Nat.le_trans HKp.out.bel.size hO2.size
        have HP : Hid ((O ++ grabO nx row ++ allL (grabN nx row) (grabR row)).Perm I) := by
          show (O ++ grabO nx row ++ allL (grabN nx row) (grabR row)).Perm I
          rw [List.append_assoc]
          exact (List.Perm.append_left O (grab_perm nx row)).trans HKp.out.perm
        have hln : O.length + (grabO nx row).length < 100000000 := by have := HP.out.length_eq; simp at this; omega
        have HLn := Lib.hid hln
        clear ho2 hR2 hO2 hln
        go_wp2_with (at_builtin; refine appX Try.underlying25 Glob.info3 w.heap.size _ rfl _ _ rfl u7 O v2 _ rfl rfl HOo.out HS2.out hws HLn.out ?_; intro vo' w3 hA; have HK3 := Lib.hid (Kp.goes HKp.out.bel HKp.out.ring HKp.out.own1 HKp.out.own2 HKp.out.off1 HKp.out.off2 HKp.out.ne HKp.out.lb HKp.out.lg HR2.out HO2.out hA HP.out); clear hA)
        go_roundw
        case rel => exact ⟨k + 1, _, _, _, _, by omega, by go_num, by omega, HK3.out⟩
        case measure => simp [intOf]; omega
      by_cases hkd : kind < 0 ∨ 3 < kind
      · have k0 : (kind == 0) = false := by rw [beq_eq_false_iff_ne]; omega
        have k1 : (kind == 1) = false := by rw [beq_eq_false_iff_ne]; omega
        have k2 : (kind == 2) = false := by rw [beq_eq_false_iff_ne]; omega
        have k3 : (kind == 3) = false := by rw [beq_eq_false_iff_ne]; omega
        clear hkd hk3
        go_wp2_with fail
        obtain ⟨wp, hwp⟩ : ∃ wp, wp = wr.alloc (.cells #[.int .i64 kind, .int .i64 x, .slice au lu cu] 37) := ⟨_, rfl⟩
        have HKp : Hid (Kp w wp (w.heap.size + 1) w.heap.size m nx row u6 u7 I O) := by rw [hwp]; exact HK.out.below (below_alloc (Below.refl _ _) _)
        rw [← hwp]
        clear hwp
        refine (drain_any _ _ _ _ _ _ HKp.out.ring).mono ?_
        rintro e w2 ⟨v2, rfl, ho2, hR2, hO2⟩
        have HO2 := Lib.hid hO2
        have HR2 := Lib.hid hR2
        have HS2 := Lib.hid (Slw.ofOwn ho2)
        have HOo := Lib.hid (HKp.out.own2.off hO2 HKp.out.off2)
        have hws : w.heap.size ≤ w2.heap.size := Nat.le_trans HKp.out.bel.size hO2.size
        have HP : Hid ((O ++ allL nx row ++ allL 0 []).Perm I) := by
          show (O ++ allL nx row ++ allL 0 []).Perm I
          rw [List.append_assoc]
          exact (List.Perm.append_left O (by rw [show allL 0 [] = [] from by decide, List.append_nil])).trans HKp.out.perm
        have hln : O.length + (allL nx row).length < 100000000 := by have := HP.out.length_eq; simp at this; omega
        have HLn := Lib.hid hln
        clear ho2 hR2 hO2 hln
        go_wp2_with (at_builtin; refine appX Try.underlying25 Glob.info3 w.heap.size _ rfl _ _ rfl u7 O v2 _ rfl rfl HOo.out HS2.out hws HLn.out ?_; intro vo' w3 hA; have HK3 := Lib.hid (Kp.goes HKp.out.bel HKp.out.ring HKp.out.own1 HKp.out.own2 HKp.out.off1 HKp.out.off2 HKp.out.ne HKp.out.lb HKp.out.lg HR2.out HO2.out hA HP.out); clear hA)
        go_roundw
        case rel => exact ⟨k + 1, _, _, _, _, by omega, by go_num, by omega, HK3.out⟩
        case measure => simp [intOf]; omega
      by_cases hk2 : kind = 2
      · subst hk2
        clear hk3 hkd
        go_wp2_with fail
        obtain ⟨wp, hwp⟩ : ∃ wp, wp = wr.alloc (.cells #[.int .i64 2, .int .i64 x, .slice au lu cu] 37) := ⟨_, rfl⟩
        have HKp : Hid (Kp w wp (w.heap.size + 1) w.heap.size m nx row u6 u7 I O) := by rw [hwp]; exact HK.out.below (below_alloc (Below.refl _ _) _)
        rw [← hwp]
        clear hwp
        refine (get_any _ _ _ _ _ _ HKp.out.ring).mono ?_
        rintro e w2 ⟨rfl, hR2, hO2⟩
        have HO2 := Lib.hid hO2
        have HR2 := Lib.hid hR2
        have HOo := Lib.hid (HKp.out.own2.off hO2 HKp.out.off2)
        have hws : w.heap.size ≤ w2.heap.size := Nat.le_trans HKp.out.bel.size hO2.size
        clear hR2 hO2
        cases hgb : getB nx row with
        | true =>
          have HP : Hid ((O ++ [getV nx row] ++ allL 0 (getR nx row)).Perm I) := by
            show (O ++ [getV nx row] ++ allL 0 (getR nx row)).Perm I
            have h1 := HKp.out.perm
            rw [get_all nx row hgb] at h1
            simpa using h1
          have hln : O.length + [getV nx row].length < 100000000 := by simp; omega
          have HLn := Lib.hid hln
          clear hln hgb
          generalize getV nx row = y at *
          go_wp2_with (at_builtin; refine appX Try.underlying25 Glob.info3 w.heap.size _ rfl _ _ rfl u7 O _ [y] rfl rfl (HOo.out.alloc _) (Slw.new1 w2 y) (size_lit hws) HLn.out ?_; intro vo' w3 hA; have HK3 := Lib.hid (Kp.goes HKp.out.bel HKp.out.ring HKp.out.own1 HKp.out.own2 HKp.out.off1 HKp.out.off2 HKp.out.ne HKp.out.lb HKp.out.lg (HR2.out.below (below_alloc (Below.refl _ _) _)) (HO2.out.alloc _) hA HP.out); clear hA)
          go_roundw
          case rel => exact ⟨k + 1, _, _, _, _, by omega, by go_num, by omega, HK3.out⟩
          case measure => simp [intOf]; omega
        | false =>
          have HP : Hid ((O ++ [] ++ allL 0 (getR nx row)).Perm I) := by
            show (O ++ [] ++ allL 0 (getR nx row)).Perm I
            have h1 := HKp.out.perm
            rw [get_none nx row hgb] at h1
            simpa using h1
          have HK3 := Lib.hid (Kp.goes HKp.out.bel HKp.out.ring HKp.out.own1 HKp.out.own2 HKp.out.off1 HKp.out.off2 HKp.out.ne HKp.out.lb HKp.out.lg HR2.out HO2.out (Appd.none HOo.out) HP.out)
          clear hgb
          generalize getV nx row = y at *
          go_wp2_with fail
          go_roundw
          case rel => exact ⟨k + 1, _, _, _, _, by omega, by go_num, by omega, HK3.out⟩
          case measure => simp [intOf]; omega
      · obtain ⟨q, hq, hk01⟩ : ∃ q : Bool, (kind == 1) = q ∧ ((kind == 0) = true ∨ ((kind == 0) = false ∧ q = true)) := by
          refine ⟨_, rfl, ?_⟩
          have : kind = 0 ∨ kind = 1 := by omega
          rcases this with rfl | rfl <;> simp
        clear hk2 hk3 hkd
        rcases hk01 with hk0 | ⟨hk0, rfl⟩
        · by_cases hx : 0 < x
          · have hdx : decide (0 < x) = true := by simpa using hx
            have hln1 : I.length + [x].length < 100000000 := by simp; omega
            have HLn1 := Lib.hid hln1
            have hws0 : w.heap.size ≤ (wr.alloc (.cells #[.int .i64 kind, .int .i64 x, .slice au lu cu] 37)).heap.size := size_lit HK.out.bel.size
            have HKp : Hid (Kp w (wr.alloc (.cells #[.int .i64 kind, .int .i64 x, .slice au lu cu] 37)) (w.heap.size + 1) w.heap.size m nx row u6 u7 I O) := HK.out.below (below_alloc (Below.refl _ _) _)
            have HBk : Hid (Blk (wr.alloc (.cells #[.int .i64 kind, .int .i64 x, .slice au lu cu] 37)) wr.heap.size #[.int .i64 kind, .int .i64 x, .slice au lu cu] 37) := Blk.new _ _ _
            have HP0 := Lib.hid (put_perm m nx row x q (by omega) hnx)
            have HT1 : Hid (Slw ((wr.alloc (.cells #[.int .i64 kind, .int .i64 x, .slice au lu cu] 37)).alloc (.cells #[.int .i64 x] 3)) (.slice (some ⟨wr.heap.size + 1, 0, none⟩) 1 1) [x]) := by
              have := Slw.new1 (wr.alloc (.cells #[.int .i64 kind, .int .i64 x, .slice au lu cu] 37)) x
              rwa [World.size_alloc] at this
            clear hln1
            go_wp2_with (at_builtin; refine appX Try.underlying25 Glob.info3 w.heap.size _ rfl _ _ rfl u6 I _ [x] rfl rfl (HKp.out.own1.alloc _) HT1.out (size_lit hws0) HLn1.out ?_; intro vi' w2 hA; obtain ⟨hR2, hI2, hO2, hf2, hn2, hb2⟩ := HKp.out.comes hA; have hbk := (HBk.out.alloc _).kept hA.2.1 (fun e => by have := (HK.out.own1.lt _ e.symm).2; omega); have q0 := hbk.cell 0; have q1 := hbk.cell 1; simp only [List.getElem?_toArray, List.getElem?_cons_zero, List.getElem?_cons_succ] at q0 q1; have HR2 := Lib.hid hR2; have HI2 := Lib.hid hI2; have HO2 := Lib.hid hO2; have HF2 := Lib.hid hf2; have HN2 := Lib.hid hn2; have HB2 := Lib.hid hb2; clear hA hR2 hI2 hO2 hf2 hn2 hb2 hbk)
            refine (put_any _ _ _ _ _ _ _ _ HR2.out).mono ?_
            rintro e w3 ⟨v3, rfl, ho3, hR3, hO3⟩
            have HO3 := Lib.hid hO3
            have HR3 := Lib.hid hR3
            have HS3 := Lib.hid (Slw.ofOwn ho3)
            have HOo := Lib.hid (HO2.out.off hO3 HK.out.off2)
            have hws : w.heap.size ≤ w3.heap.size := Nat.le_trans HB2.out.size hO3.size
            have HP : Hid ((O ++ putO m nx row x q ++ allL (putN nx x q) (putR m nx row x q)).Perm (I ++ [x])) := by
              show (O ++ putO m nx row x q ++ allL (putN nx x q) (putR m nx row x q)).Perm (I ++ [x])
              rw [List.append_assoc]
              refine (List.Perm.append_left O HP0.out).trans ?_
              rw [← List.append_assoc]
              exact List.Perm.append_right [x] HK.out.perm
            have hln : O.length + (putO m nx row x q).length < 100000000 := by have := HP.out.length_eq; simp at this; omega
            have HLn := Lib.hid hln
            clear ho3 hR3 hO3 hln
            go_wp2_with (at_builtin; refine appX Try.underlying25 Glob.info3 w.heap.size _ rfl _ _ rfl u7 O v3 _ rfl rfl HOo.out HS3.out hws HLn.out ?_; intro vo' w4 hA; have HK3 := Lib.hid (Kp.goes HB2.out HR2.out HI2.out HO2.out HF2.out HK.out.off2 HN2.out HK.out.lb HK.out.lg HR3.out HO3.out hA HP.out); clear hA)
            go_roundw
            case rel => exact ⟨k + 1, _, _, _, _, by omega, by go_num, by simp; omega, HK3.out⟩
            case measure => simp [intOf]; omega
          · have hdx : decide (0 < x) = false := by simpa using hx
            obtain ⟨e1, e2, e3⟩ := put_low m nx row x q (by omega)
            go_wp2_with fail
            obtain ⟨wp, hwp⟩ : ∃ wp, wp = wr.alloc (.cells #[.int .i64 kind, .int .i64 x, .slice au lu cu] 37) := ⟨_, rfl⟩
            have HKp : Hid (Kp w wp (w.heap.size + 1) w.heap.size m nx row u6 u7 I O) := by rw [hwp]; exact HK.out.below (below_alloc (Below.refl _ _) _)
            rw [← hwp]
            clear hwp
            refine (put_any _ _ _ _ _ _ _ _ HKp.out.ring).mono ?_
            rw [e1, e2, e3]
            clear e1 e2 e3
            rintro e w2 ⟨v2, rfl, ho2, hR2, hO2⟩
            have HO2 := Lib.hid hO2
            have HR2 := Lib.hid hR2
            have HS2 := Lib.hid (Slw.ofOwn ho2)
            have HOo := Lib.hid (HKp.out.own2.off hO2 HKp.out.off2)
            have hws : w.heap.size ≤ w2.heap.size := Nat.le_trans HKp.out.bel.size hO2.size
            have HP : Hid ((O ++ [] ++ allL nx row).Perm I) := by show (O ++ [] ++ allL nx row).Perm I; simpa using HKp.out.perm
            have hln : O.length + ([] : List Int).length < 100000000 := by simp; omega
            have HLn := Lib.hid hln
            clear ho2 hR2 hO2 hln
            go_wp2_with (at_builtin; refine appX Try.underlying25 Glob.info3 w.heap.size _ rfl _ _ rfl u7 O v2 _ rfl rfl HOo.out HS2.out hws HLn.out ?_; intro vo' w3 hA; have HK3 := Lib.hid (Kp.goes HKp.out.bel HKp.out.ring HKp.out.own1 HKp.out.own2 HKp.out.off1 HKp.out.off2 HKp.out.ne HKp.out.lb HKp.out.lg HR2.out HO2.out hA HP.out); clear hA)
            go_roundw
            case rel => exact ⟨k + 1, _, _, _, _, by omega, by go_num, by omega, HK3.out⟩
            case measure => simp [intOf]; omega
        · by_cases hx : 0 < x
          · have hdx : decide (0 < x) = true := by simpa using hx
            have hln1 : I.length + [x].length < 100000000 := by simp; omega
            have HLn1 := Lib.hid hln1
            have hws0 : w.heap.size ≤ (wr.alloc (.cells #[.int .i64 kind, .int .i64 x, .slice au lu cu] 37)).heap.size := size_lit HK.out.bel.size
            have HKp : Hid (Kp w (wr.alloc (.cells #[.int .i64 kind, .int .i64 x, .slice au lu cu] 37)) (w.heap.size + 1) w.heap.size m nx row u6 u7 I O) := HK.out.below (below_alloc (Below.refl _ _) _)
            have HBk : Hid (Blk (wr.alloc (.cells #[.int .i64 kind, .int .i64 x, .slice au lu cu] 37)) wr.heap.size #[.int .i64 kind, .int .i64 x, .slice au lu cu] 37) := Blk.new _ _ _
            have HP0 := Lib.hid (put_perm m nx row x true (by omega) hnx)
            have HT1 : Hid (Slw ((wr.alloc (.cells #[.int .i64 kind, .int .i64 x, .slice au lu cu] 37)).alloc (.cells #[.int .i64 x] 3)) (.slice (some ⟨wr.heap.size + 1, 0, none⟩) 1 1) [x]) := by
              have := Slw.new1 (wr.alloc (.cells #[.int .i64 kind, .int .i64 x, .slice au lu cu] 37)) x
              rwa [World.size_alloc] at this
            clear hln1
            go_wp2_with (at_builtin; refine appX Try.underlying25 Glob.info3 w.heap.size _ rfl _ _ rfl u6 I _ [x] rfl rfl (HKp.out.own1.alloc _) HT1.out (size_lit hws0) HLn1.out ?_; intro vi' w2 hA; obtain ⟨hR2, hI2, hO2, hf2, hn2, hb2⟩ := HKp.out.comes hA; have hbk := (HBk.out.alloc _).kept hA.2.1 (fun e => by have := (HK.out.own1.lt _ e.symm).2; omega); have q0 := hbk.cell 0; have q1 := hbk.cell 1; simp only [List.getElem?_toArray, List.getElem?_cons_zero, List.getElem?_cons_succ] at q0 q1; have HR2 := Lib.hid hR2; have HI2 := Lib.hid hI2; have HO2 := Lib.hid hO2; have HF2 := Lib.hid hf2; have HN2 := Lib.hid hn2; have HB2 := Lib.hid hb2; clear hA hR2 hI2 hO2 hf2 hn2 hb2 hbk)
            refine (put_any _ _ _ _ _ _ _ _ HR2.out).mono ?_
            rintro e w3 ⟨v3, rfl, ho3, hR3, hO3⟩
            have HO3 := Lib.hid hO3
            have HR3 := Lib.hid hR3
            have HS3 := Lib.hid (Slw.ofOwn ho3)
            have HOo := Lib.hid (HO2.out.off hO3 HK.out.off2)
            have hws : w.heap.size ≤ w3.heap.size := Nat.le_trans HB2.out.size hO3.size
            have HP : Hid ((O ++ putO m nx row x true ++ allL (putN nx x true) (putR m nx row x true)).Perm (I ++ [x])) := by
              show (O ++ putO m nx row x true ++ allL (putN nx x true) (putR m nx row x true)).Perm (I ++ [x])
              rw [List.append_assoc]
              refine (List.Perm.append_left O HP0.out).trans ?_
              rw [← List.append_assoc]
              exact List.Perm.append_right [x] HK.out.perm
            have hln : O.length + (putO m nx row x true).length < 100000000 := by have := HP.out.length_eq; simp at this; omega
            have HLn := Lib.hid hln
            clear ho3 hR3 hO3 hln
            go_wp2_with (at_builtin; refine appX Try.underlying25 Glob.info3 w.heap.size _ rfl _ _ rfl u7 O v3 _ rfl rfl HOo.out HS3.out hws HLn.out ?_; intro vo' w4 hA; have HK3 := Lib.hid (Kp.goes HB2.out HR2.out HI2.out HO2.out HF2.out HK.out.off2 HN2.out HK.out.lb HK.out.lg HR3.out HO3.out hA HP.out); clear hA)
            go_roundw
            case rel => exact ⟨k + 1, _, _, _, _, by omega, by go_num, by simp; omega, HK3.out⟩
            case measure => simp [intOf]; omega
          · have hdx : decide (0 < x) = false := by simpa using hx
            obtain ⟨e1, e2, e3⟩ := put_low m nx row x true (by omega)
            go_wp2_with fail
            obtain ⟨wp, hwp⟩ : ∃ wp, wp = wr.alloc (.cells #[.int .i64 kind, .int .i64 x, .slice au lu cu] 37) := ⟨_, rfl⟩
            have HKp : Hid (Kp w wp (w.heap.size + 1) w.heap.size m nx row u6 u7 I O) := by rw [hwp]; exact HK.out.below (below_alloc (Below.refl _ _) _)
            rw [← hwp]
            clear hwp
            refine (put_any _ _ _ _ _ _ _ _ HKp.out.ring).mono ?_
            rw [e1, e2, e3]
            clear e1 e2 e3
            rintro e w2 ⟨v2, rfl, ho2, hR2, hO2⟩
            have HO2 := Lib.hid hO2
            have HR2 := Lib.hid hR2
            have HS2 := Lib.hid (Slw.ofOwn ho2)
            have HOo := Lib.hid (HKp.out.own2.off hO2 HKp.out.off2)
            have hws : w.heap.size ≤ w2.heap.size := Nat.le_trans HKp.out.bel.size hO2.size
            have HP : Hid ((O ++ [] ++ allL nx row).Perm I) := by show (O ++ [] ++ allL nx row).Perm I; simpa using HKp.out.perm
            have hln : O.length + ([] : List Int).length < 100000000 := by simp; omega
            have HLn := Lib.hid hln
            clear ho2 hR2 hO2 hln
            go_wp2_with (at_builtin; refine appX Try.underlying25 Glob.info3 w.heap.size _ rfl _ _ rfl u7 O v2 _ rfl rfl HOo.out HS2.out hws HLn.out ?_; intro vo' w3 hA; have HK3 := Lib.hid (Kp.goes HKp.out.bel HKp.out.ring HKp.out.own1 HKp.out.own2 HKp.out.off1 HKp.out.off2 HKp.out.ne HKp.out.lb HKp.out.lg HR2.out HO2.out hA HP.out); clear hA)
            go_roundw
            case rel => exact ⟨k + 1, _, _, _, _, by omega, by go_num, by omega, HK3.out⟩
            case measure => simp [intOf]; omega
    · have HK := Lib.hid hK
      clear hK
      go_wp2_with fail
      refine (list_any _ _ _ _ _ _ HK.out.ring).mono ?_
      rintro e w2 ⟨v2, rfl, ho2, hb2⟩
      have HK2 := Lib.hid (HK.out.below hb2)
      have HS2 := Lib.hid (Slw.ofOwn ho2)
      have hws : w.heap.size ≤ w2.heap.size := HK2.out.bel.size
      have hln : O.length + (allL nx row).length < 100000000 := by omega
      have HLn := Lib.hid hln
      clear ho2 hb2 hln
      go_wp2_with (at_builtin; refine appX Try.underlying25 Glob.info3 w.heap.size _ rfl _ _ rfl u7 O v2 (allL nx row) rfl rfl HK2.out.own2 HS2.out hws HLn.out ?_; intro vo' w3 hA; obtain ⟨hI3, hO3, hB3⟩ := HK2.out.last hA; have HI3 := Lib.hid hI3; have HO3 := Lib.hid hO3; have HB3 := Lib.hid hB3; clear hA hI3 hO3 hB3)
      refine (Ref.sorted_any _ _ _ (Slw.ofOwn HI3.out) (by omega)).mono ?_
      rintro e w4 ⟨v4, rfl, ho4, hb4⟩
      have HO4 := Lib.hid ho4
      have HO34 := Lib.hid (HO3.out.below hb4)
      have HB4 := Lib.hid (below_below HB3.out hb4)
      clear ho4 hb4
      go_wp2_with fail
      refine (Ref.sorted_any _ _ _ (Slw.ofOwn HO34.out) (by simp; omega)).mono ?_
      rintro e w5 ⟨v5, rfl, ho5, hb5⟩
      have hsame : insAll [] (O ++ allL nx row) = insAll [] I := insAll_perm HK.out.perm []
      rw [hsame] at ho5
      have HO5 := Lib.hid ho5
      have HO45 := Lib.hid (HO4.out.below hb5)
      have HB5 := Lib.hid (below_below HB4.out hb5)
      clear ho5 hb5 hsame
      go_wp2_with fail
      refine (Ref.same_yes _ _ _ _ (Sl.ofOwn HO45.out) (Sl.ofOwn HO5.out)).mono ?_
      rintro e w6 ⟨rfl, n6, rfl⟩
      go_wp2_with (go_at_call 22; refine (alive_any _).mono ?_; rintro e w' ⟨rfl, hb⟩)
      go_ret
      exact ⟨rfl, below_below (below_drewN HB5.out n6) hb⟩

set_option maxHeartbeats 1000000 in
theorem keeps (w : World) (n : Int) (_ : (Lit.int .i64 n).wf = true) (a : Option Addr) (len cap : Nat) (f : Nat → Nat → Int) (v : Nat → Value) (l : Nat → List Int) (hr : ARow w a len 2 f v l) :
    Calls Try.prog 5 #[.int .i64 n, .slice a len cap] w fun e w' => e = .returned (.bool true) ∧ Below w.heap.size w w' := by
  by_cases hc : len ≤ 100 ∧ ∀ i, i < len → (l i).length ≤ 30
  · have HL := Lib.hid (light_yes w a len cap f v l hr hc)
    by_cases hm : ringBad n
    · have HN := Lib.hid (new_bad n w hm)
      unfold ringBad at hm
      clear hr hc
      by_cases h1 : n < 2
      · clear hm
        go_enter Try.func5, Try.ntmps5
        go_wp2_with (first | (go_at_call 22; refine (alive_any _).mono ?_; rintro e w' ⟨rfl, hb⟩) | (go_at_call 21; refine HL.out.mono ?_; rintro e w' ⟨rfl, rfl⟩) | (go_at_call 23; refine HN.out.mono ?_; rintro e w' ⟨rfl, rfl⟩))
        go_ret
        exact ⟨rfl, hb⟩
      · have hd1 : decide (n < 2) = false := by simp; omega
        by_cases h2 : 256 < n
        · clear hm
          go_enter Try.func5, Try.ntmps5
          go_wp2_with (first | (go_at_call 22; refine (alive_any _).mono ?_; rintro e w' ⟨rfl, hb⟩) | (go_at_call 21; refine HL.out.mono ?_; rintro e w' ⟨rfl, rfl⟩) | (go_at_call 23; refine HN.out.mono ?_; rintro e w' ⟨rfl, rfl⟩))
          go_ret
          exact ⟨rfl, hb⟩
        · have hd2 : decide (256 < n) = false := by simp; omega
          have hd3 : (n % 2 == 1) = true := by rw [beq_iff_eq]; omega
          clear hm
          go_enter Try.func5, Try.ntmps5
          go_wp2_with (first | (go_at_call 22; refine (alive_any _).mono ?_; rintro e w' ⟨rfl, hb⟩) | (go_at_call 21; refine HL.out.mono ?_; rintro e w' ⟨rfl, rfl⟩) | (go_at_call 23; refine HN.out.mono ?_; rintro e w' ⟨rfl, rfl⟩))
          go_ret
          exact ⟨rfl, hb⟩
    · obtain ⟨m, rfl⟩ := Int.eq_ofNat_of_zero_le (show 0 ≤ n by unfold ringBad at hm; omega)
      exact keeps_good w m hm a len cap f v l hr hc.1 HL.out
  · have HL := Lib.hid (light_no w a len cap f v l hr hc)
    clear hr hc
    go_enter Try.func5, Try.ntmps5
    go_wp2_with (first | (go_at_call 22; refine (alive_any _).mono ?_; rintro e w' ⟨rfl, hb⟩) | (go_at_call 21; refine HL.out.mono ?_; rintro e w' ⟨rfl, rfl⟩))
    go_ret
    exact ⟨rfl, hb⟩

end Go.Proofs.Ytgahkcbkpnehfaa.Ring
