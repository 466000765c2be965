/- Chapter 16: the walk of GlobOrder. -/
import Derived.Test.YtgahkcbkpnehfaaGlobMany
import Derived.Test.YtgahkcbkpnehfaaQueueList
namespace Go.Proofs.Ytgahkcbkpnehfaa.Glob
open Go.RowKit Go.Esc

def PutOne (b : Nat) (S : Nat → Prop) (L : List Int) (w : World) (e : Ending) (w' : World) : Prop :=
  (∃ n, e = .returned (.int .i64 n)) ∧ ∃ S', Queue w' b S' L ∧ Only S w w' ∧ Gr S S' w
theorem put_one (w1 : World) (b : Nat) (S : Nat → Prop) (L : List Int) (x : Int) (h : Queue w1 b S L) (hl : L.length < 10000000) : Calls Try.prog 17 #[.pointer (some ⟨b, 0, none⟩), .slice (some ⟨w1.heap.size, 0, none⟩) 1 1] (w1.alloc (.cells #[.int .i64 x] 3)) (PutOne b S (L ++ right [x]) w1) := by
  refine (put_any b S L (.slice (some ⟨w1.heap.size, 0, none⟩) 1 1) [x] _ (h.below (below_alloc (Below.refl _ _) _)) (Slw.new1 w1 x) ?_ (by simp; omega)).mono ?_
  · intro j hj hb
    have := h.lt hb
    simp [Value.ownBlock] at hj
    omega
  · rintro e w2 ⟨rfl, S2, hQ, hO, hG⟩
    refine ⟨⟨_, rfl⟩, S2, hQ, ((Only.refl _ w1).alloc _).trans hO, fun j hj => (hG j hj).elim .inl (fun x => .inr ?_)⟩
    simp at x; omega

theorem right_snoc (L : List Int) (k : Nat) (h : k < L.length) : right (L.take (k + 1)) = right (L.take k) ++ right [L[k]?.getD 0] := by
  unfold right
  rw [List.take_succ_eq_append_getElem h, List.filter_append]
  simp [h]
theorem right_yes {x : Int} (h : 1 ≤ x) : right [x] = [x] := by simp [right, h]
theorem right_no {x : Int} (h : ¬ 1 ≤ x) : right [x] = [] := by simp [right, h]
theorem right_len (L : List Int) : (right L).length ≤ L.length := List.length_filter_le _ _

/-- The list that goes on, the queue beside it. -/
def St1 (w : World) (L : List Int) (v : Value) (wr : World) : Prop :=
  ∃ S, OwnI wr w.heap.size v L ∧ Queue wr w.heap.size S L ∧ Below w.heap.size w wr ∧ Off S v ∧ ∀ j, S j → w.heap.size ≤ j

theorem St1.app {w wr w1 : World} {L : List Int} {v v' : Value} {x : Int} {S : Nat → Prop} (ho : OwnI wr w.heap.size v L) (hQ : Queue wr w.heap.size S L) (hb : Below w.heap.size w wr) (hO : Off S v)
    (hA : Appd (wr.alloc (.cells #[.int .i64 x] 3)) w.heap.size v L [x] v' w1) : Queue w1 w.heap.size S L ∧ OwnI w1 w.heap.size v' (L ++ [x]) ∧ Below w.heap.size w w1 ∧ Off S v' := by
  refine ⟨Queue.app hO ho (Gr.refl _ _) hA hQ, hA.1, ?_, Off.app hO ho (Gr.refl _ _) hA hQ⟩
  exact below_grown (below_alloc hb _) hA.2.1 (fun j hj => (ho.lt j hj).1)

theorem St1.put {w w1 w2 : World} {L' : List Int} {v : Value} {S S2 : Nat → Prop} (hQ2 : Queue w2 w.heap.size S2 L') (hO2 : Only S w1 w2) (hG : Gr S S2 w1) (ho : OwnI w1 w.heap.size v L') (hb : Below w.heap.size w w1) (hO : Off S v) (hS : ∀ j, S j → w.heap.size ≤ j) : St1 w L' v w2 :=
  ⟨S2, ho.off hO2 hO, hQ2, below_only hb hO2 hS, Off.gr hO hG (fun j hj => (ho.lt j hj).2), fun j hj => (hG j hj).elim (hS j) (fun h => Nat.le_trans hb.size h)⟩

/-- The list, and what went of it, the queue with the rest. -/
def St2 (w : World) (L : List Int) (v u : Value) (wr : World) : Prop :=
  ∃ S D R, OwnI wr w.heap.size v L ∧ OwnI wr w.heap.size u D ∧ Queue wr w.heap.size S R ∧ D ++ R = L ∧ Below w.heap.size w wr ∧ Off S v ∧ Off S u ∧ (∀ j, S j → w.heap.size ≤ j) ∧ ∀ j, v.ownBlock = some j → u.ownBlock ≠ some j

theorem St2.batch {w wr w1 w2 : World} {L D R D2 R2 : List Int} {v u u' : Value} {S S2 : Nat → Prop} (hv : OwnI wr w.heap.size v L) (hu : OwnI wr w.heap.size u D) (hb : Below w.heap.size w wr) (hOv : Off S v) (hOu : Off S u) (hS : ∀ j, S j → w.heap.size ≤ j) (hne : ∀ j, v.ownBlock = some j → u.ownBlock ≠ some j)
    (hQ2 : Queue w1 w.heap.size S2 R2) (hO2 : Only S wr w1) (hG : Gr S S2 wr) (hA : Appd w1 w.heap.size u D D2 u' w2) (hl : D ++ R = L) (hl2 : D2 ++ R2 = R) : St2 w L v u' w2 := by
  have hv1 := hv.off hO2 hOv
  have hu1 := hu.off hO2 hOu
  have hOv2 : Off S2 v := Off.gr hOv hG (fun j hj => (hv.lt j hj).2)
  have hOu2 : Off S2 u := Off.gr hOu hG (fun j hj => (hu.lt j hj).2)
  have hS2 : ∀ j, S2 j → w.heap.size ≤ j := fun j hj => (hG j hj).elim (hS j) (fun h => Nat.le_trans hb.size h)
  obtain ⟨ho, hg, hx⟩ := hA
  refine ⟨S2, D ++ D2, R2, hv1.kept hg ?_, ho, ?_, by rw [List.append_assoc, hl2, hl], ?_, hOv2, ?_, hS2, ?_⟩
  · cases he : v.ownBlock with
    | none => exact .inl rfl
    | some j => exact .inr (fun e => hne j he e.symm)
  · refine hQ2.only (T := fun j => u.ownBlock = some j) ((Only.refl _ w1).grown hg (fun k hk => .inr hk)) ?_
    intro j hs hj
    exact hOu2 j hj hs
  · exact below_grown (below_only hb hO2 hS) hg (fun j hj => (hu.lt j hj).1)
  · intro j hj hs
    rcases hx j hj with h | h
    · exact hOu2 j h hs
    · have := hQ2.lt hs
      omega
  · intro j hj e
    rcases hx j e with h | h
    · exact hne j hj h
    · have := (hv1.lt j hj).2
      omega

theorem list_any (b : Nat) (S : Nat → Prop) (L : List Int) (w : World) (h : Queue w b S L) (hl : L.length < 10000000) : Calls Try.prog 19 #[.pointer (some ⟨b, 0, none⟩)] w (ListPost L w) := by
  obtain ⟨v1, v2, f, k, h, rfl, rfl⟩ := h
  exact list_q b v1 v2 f k w h (by simp at hl; omega)

set_option maxRecDepth 100000 in
set_option maxHeartbeats 4000000 in
theorem order (w : World) (a : Option Addr) (len cap : Nat) (f : Nat → Nat → Int) (hr : Row w a len 1 f) (a2 : Option Addr) (len2 cap2 : Nat) (f2 : Nat → Nat → Int) (hr2 : Row w a2 len2 1 f2) : Calls Try.prog 4 #[.slice a len cap, .slice a2 len2 cap2] w fun e w' => e = .returned (.bool true) ∧ Below w.heap.size w w' := by
  by_cases hbig : 200 < len
  · have hd : decide ((200 : Int) < (len : Int)) = true := by simp; omega
    go_enter Try.func4, Try.ntmps4
    go_wp2_with (go_at_call 15; refine (alive_any _).mono ?_; rintro e w' ⟨rfl, hb⟩)
    go_ret
    exact ⟨rfl, hb⟩
  have hlen : len ≤ 200 := by omega
  have hd : decide ((200 : Int) < (len : Int)) = false := by simp; omega
  clear hbig
  by_cases hbig : 200 < len2
  · have hd2 : decide ((200 : Int) < (len2 : Int)) = true := by simp; omega
    go_enter Try.func4, Try.ntmps4
    go_wp2_with (go_at_call 15; refine (alive_any _).mono ?_; rintro e w' ⟨rfl, hb⟩)
    go_ret
    exact ⟨rfl, hb⟩
  have hlen2 : len2 ≤ 200 := by omega
  have hd2 : decide ((200 : Int) < (len2 : Int)) = false := by simp; omega
  clear hbig
  have hsl := Sl.ofRow (cap := cap) hr
  have hsl2 := Sl.ofRow (cap := cap2) hr2
  obtain ⟨L, HL⟩ : ∃ L, Hid ((List.range len).map (fun i => f i 0) = L) := ⟨_, rfl⟩
  obtain ⟨M, HM⟩ : ∃ M, Hid ((List.range len2).map (fun i => f2 i 0) = M) := ⟨_, rfl⟩
  have hLl : L.length = len := by rw [← HL.out]; simp
  have hMl : M.length = len2 := by rw [← HM.out]; simp
  rw [HL.out] at hsl
  rw [HM.out] at hsl2
  have HSL := Lib.hid hsl
  have HSM := Lib.hid hsl2
  have HLl := Lib.hid hLl
  have HMl := Lib.hid hMl
  clear hsl hsl2 HL HM hr hr2 hLl hMl
  go_enter Try.func4, Try.ntmps4
  go_wp2_with fail
  refine (new_any w).mono ?_
  rintro e w1 ⟨rfl, hw1⟩
  have hst0 : St1 w [] (.slice none 0 0) w1 := by
    subst hw1
    exact ⟨_, OwnI.nil _ _, Queue.new w, below_alloc (Below.refl _ _) _, Off.nil _, fun j hj => by have : j = w.heap.size := hj; omega⟩
  have HST0 := Lib.hid hst0
  clear hst0 hw1
  go_wp2_with fail
  go_loopw [6, 8] (fun v i wr => ∃ k : Nat, k ≤ len ∧ i = .int .i64 k ∧ St1 w (right (L.take k)) v wr) (fun _ i _ => len - (intOf i).toNat)
  case atStart => exact ⟨0, Nat.zero_le _, rfl, HST0.out⟩
  case round =>
    clear HST0
    obtain ⟨k, hk, rfl, hst⟩ := hrel
    obtain ⟨S, ho, hQ, hb, hOff, hS⟩ := hst
    by_cases hlt : k < len
    · have hkL : k < L.length := by rw [HLl.out]; exact hlt
      have hs := HSL.out.below hb
      have HR := Lib.hid (right_snoc L k hkL)
      obtain ⟨a0, c0, he, _, h0 | ⟨bu, off, rfl, hbu, hcells⟩⟩ := hs
      · simp [h0] at hkL
      simp only [Value.slice.injEq] at he
      obtain ⟨rfl, hz, rfl⟩ := he
      clear hz
      have cu := hcells k hkL
      have hbu0 : bu < w.heap.size := by
        obtain ⟨a0, c0, he, _, h0 | ⟨bu', off', rfl, hbu', _⟩⟩ := HSL.out
        · simp [h0] at hkL
        · simp only [Value.slice.injEq] at he
          obtain ⟨he, _⟩ := he
          cases he
          exact hbu'
      generalize L[k]?.getD 0 = x at *
      have hrl : (right (L.take k)).length ≤ k := Nat.le_trans (right_len _) (List.length_take_le _ _)
      generalize right (L.take k) = l at *
      have HO := Lib.hid ho
      have HQ := Lib.hid hQ
      have HOff := Lib.hid hOff
      have HS := Lib.hid hS
      clear hcells ho hQ hOff hS
      have hbs := hb.size
      have hl2 : l.length + [x].length < 100000000 := by simp; omega
      have HLn := Lib.hid hl2
      have hl3 : l.length < 10000000 := by omega
      clear hl2
      by_cases hx : 1 ≤ x
      · rw [right_yes hx] at HR
        have hdx : decide (1 ≤ x) = true := by simpa using hx
        go_wp2_with (at_builtin; refine appX Try.underlying25 info3 w.heap.size _ rfl _ _ rfl _ _ _ [x] rfl rfl (HO.out.alloc _) (Slw.new1 wr x) (by simp; omega) HLn.out ?_; intro v' w3 hA; obtain ⟨hQ3, hO3, hb3, hOff3⟩ := St1.app HO.out HQ.out hb HOff.out hA; have cu3 := (hb3.cell (p := ⟨bu, off + k, none⟩) hbu0).trans ((hb.cell (p := ⟨bu, off + k, none⟩) hbu0).symm.trans cu); have HQ3 := Lib.hid hQ3; have HO3 := Lib.hid hO3; have HOff3 := Lib.hid hOff3; clear hQ3 hO3 hOff3 hA)
        refine (put_one _ _ _ _ _ HQ3.out hl3).mono ?_
        rintro e w4 ⟨⟨n, rfl⟩, S4, hQ4, hO4, hG4⟩
        rw [right_yes hx] at hQ4
        have HS4 := Lib.hid (St1.put hQ4 hO4 hG4 HO3.out hb3 HOff3.out HS.out)
        clear hQ4 hO4 hG4
        go_wp2_with fail
        go_roundw
        case rel => exact ⟨k + 1, by omega, by go_num, by rw [HR.out]; exact HS4.out⟩
        case measure => simp [intOf]; omega
      · rw [right_no hx, List.append_nil] at HR
        have hdx : decide (1 ≤ x) = false := by simpa using hx
        have HX := Lib.hid (right_no hx)
        clear hx
        go_wp2_with fail
        refine (put_one _ _ _ _ _ HQ.out hl3).mono ?_
        rintro e w4 ⟨⟨n, rfl⟩, S4, hQ4, hO4, hG4⟩
        rw [HX.out, List.append_nil] at hQ4
        have HS4 := Lib.hid (St1.put hQ4 hO4 hG4 HO.out hb HOff.out HS.out)
        clear hQ4 hO4 hG4
        go_wp2_with fail
        go_roundw
        case rel => exact ⟨k + 1, by omega, by go_num, by rw [HR.out]; exact HS4.out⟩
        case measure => simp [intOf]; omega
    · obtain rfl : k = len := by omega
      rw [show L.take k = L from by rw [← HLl.out, List.take_length]] at ho hQ
      have hrl : (right L).length ≤ 200 := by have := right_len L; have := HLl.out; omega
      generalize right L = l at *
      have HS2 : Hid (St2 w l u6 (.slice none 0 0) wr) := ⟨S, [], l, ho, OwnI.nil _ _, hQ, rfl, hb, hOff, Off.nil _, hS, by simp [Value.ownBlock]⟩
      clear ho hQ hOff hS HSL HLl
      go_wp2_with fail
      go_loopw [7, 9] (fun u i wq => ∃ q : Nat, q ≤ len2 ∧ i = .int .i64 q ∧ St2 w l u6 u wq) (fun _ i _ => len2 - (intOf i).toNat)
      case atStart => exact ⟨0, Nat.zero_le _, rfl, HS2.out⟩
      case round =>
        clear HS2 hb
        obtain ⟨q, hq, rfl, S, D, R, hv, hu, hQ, hDR, hb, hOv, hOu, hS, hne⟩ := hrel
        have hDl : D.length + R.length = l.length := by rw [← hDR]; simp
        have HDR := Lib.hid hDR
        have HV := Lib.hid hv
        have HU := Lib.hid hu
        have HQ := Lib.hid hQ
        have HOv := Lib.hid hOv
        have HOu := Lib.hid hOu
        have HS := Lib.hid hS
        have HNE := Lib.hid hne
        have hRl : R.length ≤ 200 := by omega
        have hDl2 : D.length ≤ 200 := by omega
        clear hDl hDR hv hu hQ hOv hOu hS hne
        have hbs := hb.size
        by_cases hlt2 : q < len2
        · have hqM : q < M.length := by rw [HMl.out]; exact hlt2
          have hs := HSM.out.below hb
          obtain ⟨a0, c0, he, _, h0 | ⟨bu, off, rfl, hbu, hcells⟩⟩ := hs
          · simp [h0] at hqM
          simp only [Value.slice.injEq] at he
          obtain ⟨rfl, hz, rfl⟩ := he
          clear hz
          have cu := hcells q hqM
          generalize M[q]?.getD 0 = x at *
          clear hcells
          go_wp2_with fail
          refine (batch_any _ _ _ _ _ _ HQ.out (by omega)).mono ?_
          generalize (manyZ (R.length : Int) 2 x).toNat = m
          rintro e w2 ⟨t, S2, rfl, ht, hQ2, hO2, hG2, hOt⟩
          have HU2 := Lib.hid (HU.out.off hO2 HOu.out)
          have HT := Lib.hid (Slw.ofOwn ht)
          have hml : D.length + (R.take m).length < 100000000 := by have := List.length_take_le m R; have := List.length_take_le' m R; omega
          have HML := Lib.hid hml
          have hws : w.heap.size ≤ w2.heap.size := by have := hO2.size; omega
          have HQ2 := Lib.hid hQ2
          have HO2 := Lib.hid hO2
          have HG2 := Lib.hid hG2
          clear hml ht hOt hQ2 hO2 hG2
          go_wp2_with (at_builtin; refine appX Try.underlying25 info3 w.heap.size _ rfl _ _ rfl _ _ _ _ rfl rfl HU2.out HT.out hws HML.out ?_; intro v' w3 hA)
          go_roundw
          case rel => exact ⟨q + 1, by omega, by go_num, St2.batch HV.out HU.out hb HOv.out HOu.out HS.out HNE.out HQ2.out HO2.out HG2.out hA HDR.out (List.take_append_drop _ _)⟩
          case measure => simp [intOf]; omega
        · clear HSM HMl
          go_wp2_with fail
          refine (list_any _ _ _ _ HQ.out (by omega)).mono ?_
          rintro e w2 ⟨t, rfl, ht, hb2⟩
          have HU2 := Lib.hid (HU.out.below hb2)
          have HV2 := Lib.hid (HV.out.below hb2)
          have HT := Lib.hid (Slw.ofOwn ht)
          have hml : D.length + R.length < 100000000 := by omega
          have HML := Lib.hid hml
          have hb2s := hb2.size
          have HB2 := Lib.hid (below_below hb hb2)
          clear hml ht hb2
          go_wp2_with (at_builtin; refine appX Try.underlying25 info3 w.heap.size _ rfl _ _ rfl _ _ _ _ rfl rfl HU2.out HT.out (by omega) HML.out ?_; intro v' w3 hA; have HA := Lib.hid hA; clear hA)
          have hv3 : OwnI w3 w.heap.size u6 l := HV2.out.kept HA.out.2.1 (by
            cases he : u6.ownBlock with
            | none => exact .inl rfl
            | some j => exact .inr (fun e => HNE.out j he e.symm))
          have hu3 : OwnI w3 w.heap.size v' l := by have := HA.out.1; rwa [HDR.out] at this
          have HB3 := Lib.hid (below_grown HB2.out HA.out.2.1 (fun j hj => (HU2.out.lt j hj).1))
          have HSm := Lib.hid (Ref.same_yes v' u6 l w3 (Sl.ofOwn hu3) (Sl.ofOwn hv3))
          clear hv3 hu3
          refine HSm.out.mono ?_
          rintro e w4 ⟨rfl, n4, rfl⟩
          go_wp2_with (go_at_call 15; refine (alive_any _).mono ?_; rintro e w' ⟨rfl, hb⟩)
          go_ret
          exact ⟨rfl, below_below (below_drewN HB3.out n4) hb⟩

end Go.Proofs.Ytgahkcbkpnehfaa.Glob
