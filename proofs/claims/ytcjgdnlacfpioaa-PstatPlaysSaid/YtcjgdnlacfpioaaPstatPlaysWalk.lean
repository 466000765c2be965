/- Chapter 19: the walk of PstatPlays. -/
import Derived.Test.YtcjgdnlacfpioaaPstatLike
import Derived.Test.YtcjgdnlacfpioaaRefDo
import Derived.Test.YtcjgdnlacfpioaaPstatOnesA
namespace Go.Proofs.Ytcjgdnlacfpioaa.Pstat
open Go.RowKit Go.Esc
set_option linter.unusedVariables false

def wI (l : List Pr) : Prop := ∀ x ∈ l, -1 ≤ x.2
theorem wI_at {l : List Pr} (h : wI l) : ∀ i, i < l.length → -1 ≤ (l[i]?.getD pz).2 := fun i hi => by
  have : l[i]?.getD pz = l[i] := by simp [hi]
  rw [this]; exact h _ (List.getElem_mem hi)
theorem wI_set {l : List Pr} {i : Nat} {x : Pr} (h : wI l) (hx : -1 ≤ x.2) : wI (l.set i x) := fun y hy => by
  rcases List.mem_or_eq_of_mem_set hy with h' | h'
  · exact h y h'
  · rw [h']; exact hx
theorem act_m0 {l : List Pr} {p m : Int} : actL l 0 p m = l ∨ 0 ≤ m := by
  unfold actL
  rw [if_pos rfl]
  unfold byL
  by_cases h : (0 ≤ p ∧ p < l.length) ∧ mBad m
  · rw [if_pos h]; exact .inl rfl
  · rw [if_neg h]
    by_cases hp : 0 ≤ p ∧ p < l.length
    · right
      have : ¬ mBad m := fun hm => h ⟨hp, hm⟩
      unfold mBad at this
      omega
    · left; exact (turn_out hp).1
theorem wI_res {l : List Pr} (n : Nat) (h : wI l) : wI (resL l n) := by
  intro x hx
  unfold resL upto at hx
  rw [List.mem_mapIdx] at hx
  obtain ⟨i, hi, rfl⟩ := hx
  have hw : -1 ≤ ((wide l n)[i]).2 := by
    have hm : (wide l n)[i] ∈ wide l n := List.getElem_mem hi
    generalize (wide l n)[i] = y at *
    unfold wide at hm
    rw [List.mem_append] at hm
    rcases hm with hm | hm
    · exact h _ hm
    · rw [List.mem_replicate] at hm; rw [hm.2]; decide
  rw [if_pos hi]
  unfold stepR
  split
  · decide
  · split
    · decide
    · exact hw
theorem act_inv {l : List Pr} {kind p m : Int} (h : wI l) (hl : l.length ≤ 256) (hl0 : 0 < l.length) (hk : 0 ≤ kind ∧ kind ≤ 6) : wI (actL l kind p m) ∧ (actL l kind p m).length ≤ 256 ∧ 0 < (actL l kind p m).length := by
  by_cases k6 : kind = 6
  · subst k6
    unfold actL resAL
    simp only [Int.reduceEq, if_false]
    split
    · split
      · refine ⟨wI_res _ h, ?_, ?_⟩
        · unfold resL; rw [upto_len]; simp [wide]; omega
        · unfold resL; rw [upto_len]; simp [wide]; omega
      · exact ⟨h, hl, hl0⟩
    · exact ⟨h, hl, hl0⟩
  · rcases act_shape l kind p m (by omega) with e | ⟨i, x, rfl, hi, e, hx⟩
    · rw [e]; exact ⟨h, hl, hl0⟩
    · by_cases hk0 : kind = 0 ∧ ¬ 0 ≤ m
      · obtain ⟨rfl, hm⟩ := hk0
        rcases act_m0 (l := l) (p := (i : Int)) (m := m) with e' | e'
        · rw [e']; exact ⟨h, hl, hl0⟩
        · exact absurd e' hm
      · rw [e, List.length_set]
        refine ⟨wI_set h ?_, hl, hl0⟩
        rcases hx with hx | hx | ⟨hk0', hx⟩
        · omega
        · rw [hx]; exact wI_at h i hi
        · omega

/-- The table and the document's list side by side. -/
structure Sd (w wr : World) (t : Nat) (tv v : Value) (l : List Pr) : Prop where
  tb : Tb wr t tv l
  rp : Rp wr 0 v l
  off : Off (Tf t tv) v
  inv : wI l
  le : l.length ≤ 256
  pos : 0 < l.length
  bel : Below w.heap.size w wr
theorem Sd.act {w wr w1 w2 w3 : World} {t : Nat} {tv tv2 v v' : Value} {l : List Pr} {kind p m : Int} (h : Sd w wr t tv v l) (ht : w.heap.size ≤ t) (hk : 0 ≤ kind ∧ kind ≤ 6) (hb1 : Below wr.heap.size wr w1) (hv : (v' = v ∧ actL l kind p m = l) ∨ Rp w1 wr.heap.size v' (actL l kind p m)) (hg : Go t tv w1 tv2 (actL l kind p m) w2) (hb3 : Below w2.heap.size w2 w3) :
    Rp w2 0 v' (actL l kind p m) ∧ (actL l kind p m).length ≤ 256 ∧ 0 < (actL l kind p m).length ∧ Sd w w3 t tv2 v' (actL l kind p m) := by
  obtain ⟨hi, hle, hpos⟩ := act_inv (p := p) (m := m) h.inv h.le h.pos hk
  have hr1 : Rp w1 0 v' (actL l kind p m) := by
    rcases hv with ⟨rfl, e⟩ | hv
    · rw [e]; exact h.rp.below hb1
    · exact hv.mono (Nat.zero_le _)
  have hof : Off (Tf t tv) v' := by
    rcases hv with ⟨rfl, _⟩ | hv
    · exact h.off
    · intro j hj hs
      have h1 := (World.ownsRow.lt hv j hj).1
      have h2 := h.tb.lt hs
      omega
  have hr2 : Rp w2 0 v' (actL l kind p m) := hr1.only hg.only hof
  have hof2 : Off (Tf t tv2) v' := fun j hj hs => by
    rcases hg.gr j hs with h' | h'
    · exact hof j hj h'
    · have := (World.ownsRow.lt hr1 j hj).2; omega
  refine ⟨hr2, hle, hpos, hg.tb.below hb3, hr2.below hb3, hof2, hi, hle, hpos, below_below (below_only (below_below h.bel hb1) hg.only (fun j hj => ?_)) hb3⟩
  have := h.tb.ge hj
  omega

set_option maxRecDepth 100000 in
set_option maxHeartbeats 8000000 in
theorem plays (w : World) (n0 : Int) (_ : (Lit.int .i64 n0).wf = true) (a : Option Addr) (len cap : Nat) (f : Nat → Nat → Int) (hr : Row w a len 3 f) :
    Calls Try.prog 6 #[.int .i64 n0, .slice a len cap] w fun e w' => e = .returned (.bool true) ∧ Below w.heap.size w w' := by
  have HL := Lib.hid (light_any w a len cap f hr)
  have HRow := Lib.hid hr
  clear hr
  by_cases hn : ¬ (1 ≤ n0 ∧ n0 ≤ 256)
  · have HN := Lib.hid (new_bad n0 w hn)
    go_enter Try.func6, Try.ntmps6
    go_wp2_with fail
    refine HL.out.mono ?_
    rintro e w1 ⟨b, rfl, rfl, _⟩
    cases b with
    | false =>
      go_wp2_with fail
      refine (alive_any _).mono ?_
      rintro e w1 ⟨rfl, hB⟩
      have HB := Lib.hid hB
      clear hB
      go_wp2_with fail
      go_ret
      exact ⟨rfl, HB.out⟩
    | true =>
      go_wp2_with fail
      refine HN.out.mono ?_
      rintro e w1 ⟨rfl, rfl⟩
      by_cases h1 : n0 < 1
      · have d1 : decide (n0 < 1) = true := by simpa using h1
        go_wp2_with fail
        refine (alive_any _).mono ?_
        rintro e w1 ⟨rfl, hB⟩
        have HB := Lib.hid hB
        clear hB
        go_wp2_with fail
        go_ret
        exact ⟨rfl, HB.out⟩
      · have d1 : decide (n0 < 1) = false := by simpa using h1
        have d2 : decide (256 < n0) = true := by simp; omega
        go_wp2_with fail
        refine (alive_any _).mono ?_
        rintro e w1 ⟨rfl, hB⟩
        have HB := Lib.hid hB
        clear hB
        go_wp2_with fail
        go_ret
        exact ⟨rfl, HB.out⟩
  have hn' : 1 ≤ n0 ∧ n0 ≤ 256 := Decidable.not_not.1 hn
  clear hn
  obtain ⟨n, rfl⟩ := Int.eq_ofNat_of_zero_le (show 0 ≤ n0 by omega)
  have h1 : 1 ≤ n := by omega
  have h2 : n ≤ 256 := by omega
  clear hn'
  have d1 : decide ((n : Int) < 1) = false := by simp; omega
  have d2 : decide ((256 : Int) < (n : Int)) = false := by simp; omega
  have HN := Lib.hid (new_good n w h1 h2)
  go_enter Try.func6, Try.ntmps6
  go_wp2_with fail
  refine HL.out.mono ?_
  rintro e w1 ⟨b, rfl, rfl, hb⟩
  cases b with
  | false =>
    clear hb
    go_wp2_with fail
    refine (alive_any _).mono ?_
    rintro e w1 ⟨rfl, hB⟩
    have HB := Lib.hid hB
    clear hB
    go_wp2_with fail
    go_ret
    exact ⟨rfl, HB.out⟩
  | true =>
    obtain ⟨hlen, hkinds⟩ := hb rfl
    have HKi := Lib.hid hkinds
    clear hb hkinds
    go_wp2_with fail
    refine HN.out.mono ?_
    rintro e w1 ⟨rfl, tv0, hT0, hB0⟩
    have HB0 := Lib.hid hB0
    obtain ⟨t, HTt⟩ : ∃ t, Hid (w.heap.size = t) := ⟨_, rfl⟩
    have HT1 : Hid (Tb w1 t tv0 (List.replicate n (0, -1))) := by rw [← HTt.out]; exact hT0
    rw [show (⟨w.heap.size, 0, none⟩ : Addr) = ⟨t, 0, none⟩ by rw [HTt.out]]
    clear hT0 hB0
    go_wp2_with fail
    go_loopw [6, 7] (fun lv i wr => ∃ k : Nat, k ≤ n ∧ i = .int .i64 k ∧ wr.ownsRow w1.heap.size 51 2 lv k (ys (List.replicate k (0, -1))) ∧ Below w1.heap.size w1 wr) (fun _ i _ => n - (intOf i).toNat)
    case atStart => exact ⟨0, Nat.zero_le _, rfl, World.ownsRow_nil _ _ 51 2, Below.refl _ _⟩
    case round =>
      obtain ⟨k, hk, rfl, hRow, hB⟩ := hrel
      have HRw := Lib.hid hRow
      have HB := Lib.hid hB
      have hsz := hB.size
      by_cases hlt : k < n
      · have hd : decide (k < n) = true := by simpa using hlt
        have HSu : Hid (ys (List.replicate (k + 1) ((0, -1) : Pr)) = ys (List.replicate k (0, -1)) ++ [.int .i64 0, .int .i64 (-1)]) := by show _ = _; rw [List.replicate_succ', ys_append]; rfl
        clear hRow hB
        go_wp2_with (at_builtin; refine appV Try.underlying49 info51 rfl (by decide) (by decide) w1.heap.size _ rfl _ _ rfl u6 k (ys (List.replicate k (0, -1))) ⟨wr.heap.size, 0, none⟩ 1 [.int .i64 0, .int .i64 (-1)] rfl rfl (.inl (rowv_below HRw.out (below_alloc (Below.refl _ _) _))) rfl (new2 wr _ _ 51) (one2 _ _) (by simp; omega) (by omega) ?_; intro v' w2 hA; have HA := Lib.hid hA; clear hA)
        go_roundw
        case rel => exact ⟨k + 1, by omega, by go_num, by rw [HSu.out]; exact HA.out.1, below_grown (below_alloc HB.out _) HA.out.2.1 (fun q hq => (World.ownsRow.lt HRw.out q hq).1)⟩
        case measure => simp [intOf]; omega
      · have hd : decide (k < n) = false := by simpa using hlt
        obtain rfl : k = n := by omega
        have HS0 : Hid (Sd w wr t tv0 u6 (List.replicate k (0, -1))) := by
          refine ⟨HT1.out.below hB, ?_, fun j hj hs => ?_, fun x hx => ?_, by simpa using h2, by simp; omega, below_below HB0.out hB⟩
          · unfold Rp; rw [List.length_replicate]; exact rowv_mono hRow (Nat.zero_le _)
          · have e1 := (World.ownsRow.lt hRow j hj).1
            have e2 := HT1.out.lt hs
            omega
          · rw [List.mem_replicate] at hx; rw [hx.2]; decide
        clear hRow hB HRw HB
        go_wp2_with fail
        go_loopw [6, 8] (fun v6 i wr => ∃ (k : Nat) (tv : Value) (l : List Pr), k ≤ len ∧ i = .int .i64 k ∧ Sd w wr t tv v6 l) (fun _ i _ => len - (intOf i).toNat)
        case atStart => exact ⟨0, tv0, _, Nat.zero_le _, rfl, HS0.out⟩
        case round =>
          obtain ⟨q, tv, l, hq, rfl, hS⟩ := hrel
          have HS := Lib.hid hS
          clear HS0 HT1 HB0
          by_cases hlt2 : q < len
          · have hd2 : decide (q < len) = true := by simpa using hlt2
            rcases HRow.out with h0 | ⟨ba, off, rfl, hbl, hml, hcell, hwf⟩
            · omega
            have cA0 := (hS.bel.cell (p := ⟨ba, off + (q * 3 + 0), none⟩) hbl).trans (hcell q 0 hlt2 (by omega))
            have cA1 := (hS.bel.cell (p := ⟨ba, off + (q * 3 + 1), none⟩) hbl).trans (hcell q 1 hlt2 (by omega))
            have cA2 := (hS.bel.cell (p := ⟨ba, off + (q * 3 + 2), none⟩) hbl).trans (hcell q 2 hlt2 (by omega))
            have hk6 := HKi.out q hlt2
            rw [← Nat.add_assoc] at cA1 cA2
            simp only [Nat.add_zero] at cA0
            have hblr : ba < wr.heap.size := Nat.lt_of_lt_of_le hbl hS.bel.size
            generalize f q 0 = kind at *
            generalize f q 1 = pp at *
            generalize f q 2 = m at *
            clear hcell hwf
            have hki : (q : Int) < (len : Int) := by omega
            have HDo := Lib.hid (do_any 0 u6 l kind pp m wr hS.rp hS.le hS.pos hk6 (wI_at hS.inv))
            clear hS
            go_wp2_with fail
            refine HDo.out.mono ?_
            rintro e w2 ⟨v', rfl, hB2, hv⟩
            have HB2 := Lib.hid hB2
            have HV := Lib.hid hv
            have g0 := (hB2.cell (p := ⟨ba, off + q * 3, none⟩) hblr).trans cA0
            have g1 := (hB2.cell (p := ⟨ba, off + q * 3 + 1, none⟩) hblr).trans cA1
            have g2 := (hB2.cell (p := ⟨ba, off + q * 3 + 2, none⟩) hblr).trans cA2
            have HAc := Lib.hid (act_any t tv l kind pp m w2 (HS.out.tb.below hB2) HS.out.le)
            have ff : (actF l kind pp m != actF l kind pp m) = false := by simp
            generalize actF l kind pp m = fa at *
            clear hB2 hv cA0 cA1 cA2
            go_wp2_with fail
            refine HAc.out.mono ?_
            rintro e w3 ⟨rfl, tv2, hG⟩
            obtain ⟨hR3, hle3, hp3, _⟩ := HS.out.act (Nat.le_of_eq HTt.out) hk6 HB2.out HV.out hG (Below.refl _ _)
            have HLk := Lib.hid (like_any t tv2 0 v' _ w3 hG.tb hR3 hle3 hp3)
            have HG := Lib.hid hG
            clear hG hR3 hle3 hp3
            go_wp2_with fail
            refine HLk.out.mono ?_
            rintro e w4 ⟨rfl, hB4⟩
            have HS4 := Lib.hid (HS.out.act (Nat.le_of_eq HTt.out) hk6 HB2.out HV.out HG.out hB4).2.2.2
            clear hB4
            go_wp2_with fail
            go_roundw
            case rel => exact ⟨q + 1, tv2, _, by omega, by go_num, HS4.out⟩
            case measure => simp [intOf]; omega
          · have hd2 : decide (q < len) = false := by simpa using hlt2
            obtain rfl : q = len := by omega
            go_wp2_with fail
            refine (alive_any _).mono ?_
            rintro e w9 ⟨rfl, hB9⟩
            have HE := Lib.hid (below_below HS.out.bel hB9)
            clear hB9
            go_wp2_with fail
            go_ret
            exact ⟨rfl, HE.out⟩
end Go.Proofs.Ytcjgdnlacfpioaa.Pstat
