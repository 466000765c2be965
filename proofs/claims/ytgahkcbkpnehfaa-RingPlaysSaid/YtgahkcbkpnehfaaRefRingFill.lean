/- Chapter 13: the document's ring: Fill. -/
import Derived.Test.YtgahkcbkpnehfaaRefRingPut
import Derived.Deep.RegionHeld3
import Derived.Deep.DrawnRows
import Derived.Deep.CutRange
namespace Go.Proofs.Ytgahkcbkpnehfaa.Ring
open Go.RowKit Go.Esc
set_option linter.unusedVariables false

theorem Slw.at {w : World} {bu o n cap : Nat} {l : List Int} {x : Int} (h : Slw w (.slice (some ⟨bu, o, none⟩) n cap) l) (k : Nat) (hk : k < l.length) (hx : l[k]?.getD 0 = x) : w.cell? ⟨bu, o + k, none⟩ = some (.int .i64 x) := by
  rcases h.open with ⟨_, h0⟩ | ⟨_, _, _, h0⟩ | ⟨bu', o', cap', he, _, _, _, hcells⟩
  · simp [h0] at hk
  · simp [h0] at hk
  simp only [Value.slice.injEq, Option.some.injEq, Addr.mk.injEq] at he
  obtain ⟨⟨rfl, rfl, _⟩, _⟩ := he
  rw [hcells k hk, hx]
theorem tmp_kept {W w2 : World} {t : Nat} {x : Int} {row : Option Nat} (h : Slw W (.slice (some ⟨t, 0, none⟩) 1 1) [x]) (hg : W.grownBy w2 row) (hne : row ≠ some t) : Slw w2 (.slice (some ⟨t, 0, none⟩) 1 1) [x] :=
  h.only (S := fun j => row = some j) ((Only.refl _ W).grown hg (fun k hk => .inr hk)) (fun j hj e => by simp [Value.ownBlock] at hj; subst hj; exact hne e)
theorem Slw.new1' (w : World) (x : Int) {b : Nat} (h : b = w.heap.size) : Slw (w.alloc (.cells #[.int .i64 x] 3)) (.slice (some ⟨b, 0, none⟩) 1 1) [x] := h ▸ Slw.new1 w x
theorem OwnI.lit' (w : World) (base : Nat) (h : base ≤ w.heap.size) {b : Nat} (hb : b = w.heap.size) : OwnI (w.alloc (.cells #[] 3)) base (.slice (some ⟨b, 0, none⟩) 0 0) [] := hb ▸ OwnI.lit w base h

attribute [local go_sem ↓] Go.wp_at_zero Go.wp_at_succ
set_option maxHeartbeats 4000000 in
theorem rfill_round (b off : Nat) (cs : Array Value) (t : TypeId) (size : Nat) (nx : Int) (v : Value) (row : List Int) (u : Value) (l : List Int) (w : World) (h : RefR w b off cs t size nx v row) (hu : Slw w u l) (ho : l ≠ [] → u.ownBlock ≠ some b) (hs : size ≤ 100000) (hl : row.length ≤ size) (hl2 : l.length < 100000)
    (hc : l.any (fun x => decide (x < 1)) = false) :
    Calls Try.prog 70 #[.pointer (some ⟨b, off, none⟩), u] w (RefPost b off cs t size v nx (row ++ l.take (size - row.length)) (l.drop (size - row.length)) w) := by
  obtain ⟨au, capu, rfl⟩ := hu.len
  have HU := Lib.hid hu
  have HO := Lib.hid ho
  have HC := Lib.hid hc
  have HH := Lib.hid h
  have hbl := h.blk.lt
  clear h hu ho hc
  go_enter Try.func70, Try.ntmps70
  go_wp2_with fail
  go_loop [5] (fun i => ∃ k : Nat, k ≤ l.length ∧ i = .int .i64 k) (fun i => l.length - (intOf i).toNat)
  case atStart => exact ⟨0, Nat.zero_le _, rfl⟩
  case round =>
    obtain ⟨k, hk, rfl⟩ := hrel
    by_cases hlt : k < l.length
    · rcases HU.out.open with ⟨_, h0⟩ | ⟨_, _, _, h0⟩ | ⟨bu, o, cap', he, _, hcap, hbu, hcells⟩
      · simp [h0] at hlt
      · simp [h0] at hlt
      simp only [Value.slice.injEq] at he
      obtain ⟨rfl, _, rfl⟩ := he
      have cu := hcells k hlt
      have hx : decide (l[k]?.getD 0 < 1) = false := by
        have h1 := HC.out
        rw [List.any_eq_false] at h1
        have := h1 l[k] (List.getElem_mem _)
        simpa [hlt] using this
      generalize l[k]?.getD 0 = x at *
      clear hcells
      go_wp2_with fail
      go_round
      case rel => exact ⟨k + 1, by omega, by go_num⟩
      case measure => simp [intOf]; omega
    · obtain rfl : k = l.length := by omega
      go_wp2_with fail
      clear hlt hk
      go_loopw [6] (fun i wr => ∃ (k : Nat) (cs' : Array Value) (v' : Value), k ≤ l.length ∧ row.length + k ≤ size ∧ i = .int .i64 k ∧ RefR wr b off cs' t size nx v' (row ++ l.take k) ∧ Turned b off cs cs' v v' w wr) (fun i _ => l.length - (intOf i).toNat)
      case atStart => exact ⟨0, _, _, Nat.zero_le _, by omega, rfl, by simpa using HH.out, Turned.refl _ _ _ _ _⟩
      case round =>
        obtain ⟨k, cs', v', hk, hks, rfl, hR, hT⟩ := hrel
        have hu2 := HU.out.only' hT.only (fun hn => off_self (HO.out hn))
        have hrlen : (row ++ l.take k).length = row.length + k := by simp; omega
        obtain ⟨rw', HRW⟩ : ∃ rw', Hid (row ++ l.take k = rw') := ⟨_, rfl⟩
        rw [HRW.out] at hR hrlen
        obtain ⟨p, HP⟩ : ∃ p, Hid (p = row.length + k) := ⟨_, rfl⟩
        rw [← HP.out] at hrlen
        have hps : p ≤ size := by rw [HP.out]; exact hks
        obtain ⟨a', cap', rfl⟩ := hR.rd.len
        rw [hrlen] at hR hT
        have d0 := hR.cell0
        have d1 := hR.cell1
        have d2 := hR.cell2
        have hb2 := hR.blk.lt
        have hf2 := hR.blk.free (off + 2)
        by_cases hlt2 : k < l.length
        · have hd1 : decide (k < l.length) = true := by simpa using hlt2
          by_cases hfull : p < size
          · have hd2 : decide (p < size) = true := by simpa using hfull
            have HU2 := Lib.hid hu2
            rcases hu2.open with ⟨_, h0⟩ | ⟨_, _, _, h0⟩ | ⟨bu, o, cap'', he, _, hcap, hbu, hcells⟩
            · simp [h0] at hlt2
            · simp [h0] at hlt2
            simp only [Value.slice.injEq] at he
            obtain ⟨rfl, _, rfl⟩ := he
            have cu := hcells k hlt2
            have HT := Lib.hid (fill_take l k hlt2)
            obtain ⟨x, HX⟩ : ∃ x, Hid (l[k]?.getD 0 = x) := ⟨_, rfl⟩
            rw [HX.out] at cu HT
            have HR := Lib.hid hR
            have HTu := Lib.hid hT
            have HSr := Lib.hid hR.rd
            have hlen1 : ([] : List Int).length + rw'.length < 100000000 := by rw [hrlen]; simp; omega
            have HLen1 := Lib.hid hlen1
            have hlen2 : ([] ++ rw').length + [x].length < 100000000 := by rw [List.nil_append, hrlen]; simp; omega
            have HLen2 := Lib.hid hlen2
            have hki : (k : Int) < (l.length : Int) := by omega
            clear hcells hu2 hR hT hlen1 hlen2 hrlen
            go_wp2_with fail
            go_quiet (fail)
            go_wp2_with fail
            obtain ⟨wq, hwq⟩ : ∃ wq, wq = wr.drewN nq := ⟨_, rfl⟩
            rw [← hwq]
            replace HR : Hid (RefR wq b off cs' t size nx (.slice a' p cap') rw') := by rw [hwq]; exact HR.out.drewN nq
            replace HSr := Lib.hid HR.out.rd
            replace HU2 : Hid (Slw wq (.slice (some ⟨bu, o, none⟩) l.length capu) l) := by rw [hwq]; exact HU2.out.drewN nq
            replace HTu : Hid (Turned b off cs cs' v (.slice a' p cap') w wq) := by rw [hwq]; exact HTu.out.below (below_drewN (Below.refl _ _) nq)
            replace cu := Slw.at HU2.out k hlt2 HX.out
            replace d2 := HR.out.cell2
            replace hb2 := HR.out.blk.lt
            replace hf2 := HR.out.blk.free (off + 2)
            clear hwq d0 d1 hbu
            have d2a : ∀ q, (wq.alloc q).cell? ⟨b, off + 2, none⟩ = some (.slice a' p cap') := fun q => (HR.out.below (below_alloc (Below.refl _ _) q)).cell2
            have cua : ∀ q, (wq.alloc q).cell? ⟨bu, o + k, none⟩ = some (.int .i64 x) := fun q => Slw.at (HU2.out.alloc q) k hlt2 HX.out
            go_cut [6] from 18 to 50 (fun s6 wx => s6 = .int .i64 k ∧ ∃ cs2 v2, RefR wx b off cs2 t size nx v2 (rw' ++ [x]) ∧ Turned b off cs cs2 v v2 w wx)
            case first =>
              go_region_law (first | (refine stepX Try.underlying25 Glob.info3 wq.heap.size _ rfl (.tmp 35) (.tmp 39) rfl (.slice (some ⟨wq.heap.size, 0, none⟩) 0 0) [] (.slice a' p cap') rw' (by simp [Act.eval]) (by simp [Act.eval]) (OwnI.lit wq.drew wq.heap.size (Nat.le_refl _)) (HSr.out.drew.alloc _) (size_lit (Nat.le_refl wq.heap.size)) HLen1.out ?_; intro va w2 hA; have hB2 : Below wq.heap.size wq w2 := below_grown (below_alloc (below_drewN (Below.refl _ _) 1) _) hA.2.1 (fun j hj => by simp [Value.ownBlock] at hj; omega); have HOw : Hid (OwnI w2 wq.heap.size va ([] ++ rw')) := hA.1; have HB2 := Lib.hid hB2; have hBs2 := hB2.size; have cu2 := Slw.at (HU2.out.below hB2) k hlt2 HX.out; clear hA hB2) | (refine stepX Try.underlying25 Glob.info3 wq.heap.size _ rfl (.tmp 35) (.tmp 39) rfl (.slice (some ⟨wq.heap.size, 0, none⟩) 0 0) [] (.slice a' p cap') rw' (by simp [Act.eval]) (by simp [Act.eval]) ((OwnI.lit wq.drew wq.heap.size (Nat.le_refl _)).alloc (.cells #[.int .i64 x] 3)) ((HSr.out.drew.alloc _).alloc _) (size_lit (size_lit (Nat.le_refl wq.heap.size))) HLen1.out ?_; intro va w2 hA; have hB2 : Below wq.heap.size wq w2 := below_grown (below_alloc (below_alloc (below_drewN (Below.refl _ _) 1) _) _) hA.2.1 (fun j hj => by simp [Value.ownBlock] at hj; omega); have HOw : Hid (OwnI w2 wq.heap.size va ([] ++ rw')) := hA.1; have HB2 := Lib.hid hB2; have hBs2 := hB2.size; have cu2 := Slw.at (HU2.out.below hB2) k hlt2 HX.out; have HTmp : Hid (Slw w2 (.slice (some ⟨wq.heap.size + 1, 0, none⟩) 1 1) [x]) := tmp_kept (Slw.new1' (wq.drew.alloc (.cells #[] 3)) x (by simp)) hA.2.1 (by simp [Value.ownBlock]); clear hA hB2) | (refine stepX Try.underlying25 Glob.info3 wq.heap.size _ rfl (.tmp 35) (.tmp 39) rfl (.slice (some ⟨wq.heap.size + 1, 0, none⟩) 0 0) [] (.slice a' p cap') rw' (by simp [Act.eval]) (by simp [Act.eval]) (OwnI.lit' (wq.drew.alloc (.cells #[.int .i64 x] 3)) wq.heap.size (size_lit (Nat.le_refl _)) (by simp)) ((HSr.out.drew.alloc _).alloc _) (size_lit (size_lit (Nat.le_refl wq.heap.size))) HLen1.out ?_; intro va w2 hA; have hB2 : Below wq.heap.size wq w2 := below_grown (below_alloc (below_alloc (below_drewN (Below.refl _ _) 1) _) _) hA.2.1 (fun j hj => by simp [Value.ownBlock] at hj; omega); have HOw : Hid (OwnI w2 wq.heap.size va ([] ++ rw')) := hA.1; have HB2 := Lib.hid hB2; have hBs2 := hB2.size; have cu2 := Slw.at (HU2.out.below hB2) k hlt2 HX.out; have HTmp : Hid (Slw w2 (.slice (some ⟨wq.heap.size, 0, none⟩) 1 1) [x]) := tmp_kept ((Slw.new1 wq.drew x).alloc _) hA.2.1 (by simp [Value.ownBlock]); clear hA hB2) | (refine stepX Try.underlying25 Glob.info3 wq.heap.size _ rfl (.tmp 40) (.tmp 45) rfl va ([] ++ rw') (.slice (some ⟨w2.heap.size, 0, none⟩) 1 1) [x] (by simp [Act.eval]) (by simp [Act.eval]) (HOw.out.alloc _) (Slw.new1 w2 x) (size_lit hBs2) HLen2.out ?_; intro v3 w3 hA; have hB3 : Below wq.heap.size wq w3 := below_grown (below_alloc HB2.out _) hA.2.1 (fun j hj => (HOw.out.lt j hj).1); have HB3 := Lib.hid hB3; have HO3 := Lib.hid hA.1; have h3 := HR.out.below hB3; have f3 := h3.blk.free (off + 2); have g2 := h3.cell2; have hb3 := h3.blk.lt; have HH3 := Lib.hid h3; obtain ⟨g', cap3, rfl⟩ := hA.some; clear hA hB3 h3) | (refine stepX Try.underlying25 Glob.info3 wq.heap.size _ rfl (.tmp 40) (.tmp 45) rfl va ([] ++ rw') _ [x] (by simp [Act.eval]) (by simp [Act.eval]) HOw.out HTmp.out hBs2 HLen2.out ?_; intro v3 w3 hA; have hB3 : Below wq.heap.size wq w3 := below_grown HB2.out hA.2.1 (fun j hj => (HOw.out.lt j hj).1); have HB3 := Lib.hid hB3; have HO3 := Lib.hid hA.1; have h3 := HR.out.below hB3; have f3 := h3.blk.free (off + 2); have g2 := h3.cell2; have hb3 := h3.blk.lt; have HH3 := Lib.hid h3; obtain ⟨g', cap3, rfl⟩ := hA.some; clear hA hB3 h3))
              all_goals
                go_wp2
                go_meet
                have hge : ∀ j, (Value.slice (some ⟨g', 0, none⟩) (([] ++ rw').length + 1) cap3).ownBlock = some j → wq.heap.size ≤ j := fun j hj => (HO3.out.lt j hj).1
                have hws := HTu.out.only.size
                have hR3 := HH3.out.setRow (Slw.ofOwn HO3.out) (fun _ e => by have := hge b e; omega)
                have hT3 := (HTu.out.below HB3.out).row (v' := .slice (some ⟨g', 0, none⟩) (([] ++ rw').length + 1) cap3) (fun j hj => .inr (Nat.le_trans hws (hge j hj)))
                exact ⟨rfl, _, _, hR3, ⟨⟨hT3.only.os, hT3.only.tape, hT3.only.output, hT3.only.size, hT3.only.block⟩, hT3.rest, hT3.grow⟩⟩
            case rest =>
              obtain ⟨rfl, cs2, v2, hR3, hT3⟩ := hcut
              have HR3 := Lib.hid hR3
              have HT3 := Lib.hid hT3
              clear hR3 hT3 d2 cu hb2 hf2 d2a cua
              go_wp2
              go_roundw
              case rel =>
                refine ⟨k + 1, _, _, by omega, by have := HP.out; omega, by go_num, ?_, HT3.out⟩
                rw [HT.out, ← List.append_assoc, HRW.out]
                exact HR3.out
              case measure => simp [intOf]; omega
          · have hd2 : decide (p < size) = false := by simpa using hfull
            have HE : Hid (k = size - row.length) := by have := HP.out; show k = size - row.length; omega
            rcases hu2.open with ⟨_, h0⟩ | ⟨_, _, _, h0⟩ | ⟨bu, o, cap'', he, _, hcap, hbu, hcells⟩
            · simp [h0] at hlt2
            · simp [h0] at hlt2
            simp only [Value.slice.injEq] at he
            obtain ⟨rfl, _, rfl⟩ := he
            have HSl := Lib.hid (hu2.drop (cap' := capu - k) k (by omega) rfl (by omega))
            have HR := Lib.hid hR
            have HTu := Lib.hid hT
            have hki : (k : Int) ≤ (l.length : Int) := by omega
            have hkc : (k : Int) ≤ (capu : Int) := by omega
            clear hcells hu2 hR hT hrlen
            go_wp2_with fail
            go_quiet (fail)
            go_wp2_with fail
            go_ret
            exact ⟨_, _, _, rfl, by rw [← HE.out]; exact HSl.out.drewN _, by rw [← HE.out, HRW.out]; exact HR.out.drewN _, HTu.out.below (below_drewN (Below.refl _ _) _)⟩
        · obtain rfl : k = l.length := by omega
          have hd1 : decide (l.length < l.length) = false := by simp
          have HE1 : Hid (l.take (size - row.length) = l) := List.take_of_length_le (by omega)
          have HE2 : Hid (l.drop (size - row.length) = []) := List.drop_eq_nil_of_le (by omega)
          rw [List.take_length] at HRW
          have HR := Lib.hid hR
          have HTu := Lib.hid hT
          clear hR hT hrlen hlt2
          rcases hu2.open with ⟨he, h0⟩ | ⟨ad, cap0, he, h0⟩ | ⟨bu, o, cap'', he, hne, hcap, hbu, hcells⟩
          · simp only [Value.slice.injEq] at he
            obtain ⟨rfl, _, rfl⟩ := he
            subst h0
            clear hu2
            simp only [List.length_nil] at *
            go_wp2_with fail
            go_quiet (fail)
            go_wp2_with fail
            go_ret
            exact ⟨_, _, _, rfl, by rw [HE2.out]; exact Slw.nil _, by rw [HE1.out, HRW.out]; exact HR.out.drewN _, HTu.out.below (below_drewN (Below.refl _ _) _)⟩
          · simp only [Value.slice.injEq] at he
            obtain ⟨rfl, _, rfl⟩ := he
            subst h0
            clear hu2
            simp only [List.length_nil] at *
            by_cases hcc : capu = 0
            · subst hcc
              go_wp2_with fail
              go_quiet (fail)
              go_wp2_with fail
              go_ret
              exact ⟨_, _, _, rfl, by rw [HE2.out]; exact Slw.none0 _ _ _, by rw [HE1.out, HRW.out]; exact HR.out.drewN _, HTu.out.below (below_drewN (Below.refl _ _) _)⟩
            · have hci : (0 : Int) ≤ (capu : Int) := by omega
              go_wp2_with fail
              go_quiet (fail)
              go_wp2_with fail
              go_ret
              exact ⟨_, _, _, rfl, by rw [HE2.out]; exact Slw.none0 _ _ _, by rw [HE1.out, HRW.out]; exact HR.out.drewN _, HTu.out.below (below_drewN (Below.refl _ _) _)⟩
          · simp only [Value.slice.injEq] at he
            obtain ⟨rfl, _, rfl⟩ := he
            clear hu2 hcells hne
            have hki : (l.length : Int) ≤ (capu : Int) := by omega
            by_cases hcc : l.length = capu
            · obtain rfl : capu = l.length := hcc.symm
              go_wp2_with fail
              go_quiet (fail)
              go_wp2_with fail
              go_ret
              exact ⟨_, _, _, rfl, by rw [HE2.out]; exact Slw.none0 _ _ _, by rw [HE1.out, HRW.out]; exact HR.out.drewN _, HTu.out.below (below_drewN (Below.refl _ _) _)⟩
            · go_wp2_with fail
              go_quiet (fail)
              go_wp2_with fail
              go_ret
              exact ⟨_, _, _, rfl, by rw [HE2.out]; exact Slw.none0 _ _ _, by rw [HE1.out, HRW.out]; exact HR.out.drewN _, HTu.out.below (below_drewN (Below.refl _ _) _)⟩

set_option maxHeartbeats 4000000 in
theorem rfill_none (b off : Nat) (cs : Array Value) (t : TypeId) (size : Nat) (nx : Int) (v : Value) (row : List Int) (u : Value) (l : List Int) (w : World) (h : RefR w b off cs t size nx v row) (hu : Slw w u l) (hl2 : l.length < 100000)
    (hc : l.any (fun x => decide (x < 1)) = true) :
    Calls Try.prog 70 #[.pointer (some ⟨b, off, none⟩), u] w (RefPost b off cs t size v nx row [] w) := by
  obtain ⟨au, capu, rfl⟩ := hu.len
  have HU := Lib.hid hu
  have HC := Lib.hid hc
  have HH := Lib.hid h
  clear h hu hc
  go_enter Try.func70, Try.ntmps70
  go_wp2_with fail
  go_loop [5] (fun i => ∃ k : Nat, k ≤ l.length ∧ i = .int .i64 k ∧ Hid ((l.take k).any (fun x => decide (x < 1)) = false)) (fun i => l.length - (intOf i).toNat)
  case atStart => exact ⟨0, Nat.zero_le _, rfl, by show _ = _; simp⟩
  case round =>
    obtain ⟨k, hk, rfl, HF⟩ := hrel
    by_cases hlt : k < l.length
    · rcases HU.out.open with ⟨_, h0⟩ | ⟨_, _, _, h0⟩ | ⟨bu, o, cap', he, _, hcap, hbu, hcells⟩
      · simp [h0] at hlt
      · simp [h0] at hlt
      simp only [Value.slice.injEq] at he
      obtain ⟨rfl, _, rfl⟩ := he
      have cu := hcells k hlt
      have HT := Lib.hid (any_take l k hlt)
      generalize l[k]?.getD 0 = x at *
      clear hcells
      by_cases hx : x < 1
      · have hdx : decide (x < 1) = true := by simpa using hx
        go_wp2_with fail
        go_ret
        exact ⟨_, _, _, rfl, Slw.nil _, HH.out, Turned.refl _ _ _ _ _⟩
      · have hdx : decide (x < 1) = false := by simpa using hx
        go_wp2_with fail
        go_round
        case rel => exact ⟨k + 1, by omega, by go_num, by show _ = _; rw [HT.out, HF.out, hdx]; rfl⟩
        case measure => simp [intOf]; omega
    · obtain rfl : k = l.length := by omega
      have := HF.out
      rw [List.take_length, HC.out] at this
      cases this

theorem rfill_any (b off : Nat) (cs : Array Value) (t : TypeId) (size : Nat) (nx : Int) (v : Value) (row : List Int) (u : Value) (l : List Int) (w : World) (h : RefR w b off cs t size nx v row) (hu : Slw w u l) (ho : l ≠ [] → u.ownBlock ≠ some b) (hs : size ≤ 100000) (hl : row.length ≤ size) (hl2 : l.length < 100000) :
    Calls Try.prog 70 #[.pointer (some ⟨b, off, none⟩), u] w (RefPost b off cs t size v nx (fillR size row l) (fillO size row l) w) := by
  unfold fillR fillO
  cases hc : l.any (fun x => decide (x < 1)) with
  | true =>
    rw [if_pos rfl, if_pos rfl]
    exact rfill_none b off cs t size nx v row u l w h hu hl2 hc
  | false =>
    rw [if_neg (by simp), if_neg (by simp)]
    exact rfill_round b off cs t size nx v row u l w h hu ho hs hl hl2 hc

end Go.Proofs.Ytgahkcbkpnehfaa.Ring
