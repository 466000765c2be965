/- Chapter 13: the document's ring: Put, Get, Grab, List. -/
import Derived.Test.YtgahkcbkpnehfaaRefRing
namespace Go.Proofs.Ytgahkcbkpnehfaa.Ring
open Go.RowKit Go.Esc
set_option linter.unusedVariables false

set_option maxHeartbeats 2000000 in
theorem rput_any (b off : Nat) (cs : Array Value) (t : TypeId) (size : Nat) (nx : Int) (v : Value) (row : List Int) (x : Int) (next : Bool) (w : World) (h : RefR w b off cs t size nx v row) (hs1 : 1 ≤ size) (hs : size ≤ 100000) (hl : row.length ≤ 100000) :
    Calls Try.prog 67 #[.pointer (some ⟨b, off, none⟩), .int .i64 x, .bool next] w (RefPost b off cs t size v (putN nx x next) (putR size nx row x next) (putO size nx row x next) w) := by
  unfold putN putR putO
  by_cases hx : x < 1
  · rw [if_pos hx, if_pos hx, if_pos hx]
    have hdx : decide (x < 1) = true := by simpa using hx
    have HH := Lib.hid h
    clear h
    go_enter Try.func67, Try.ntmps67
    go_wp2
    go_ret
    exact ⟨_, _, _, rfl, Slw.nil _, HH.out, Turned.refl _ _ _ _ _⟩
  · rw [if_neg hx, if_neg hx, if_neg hx]
    have hdx : decide (x < 1) = false := by simpa using hx
    cases next with
    | false =>
      rw [if_neg (by simp), if_neg (by simp), if_neg (by simp)]
      have HB := Lib.hid (rbehind_any b off cs t size nx v row x w h hs1 hs hl)
      clear h
      go_enter Try.func67, Try.ntmps67
      go_wp2_with fail
      refine HB.out.mono ?_
      rintro e w1 ⟨u, cs', v', rfl, hown, hR, hO⟩
      go_wp2_with fail
      go_ret
      exact ⟨_, _, _, rfl, hown, hR, hO⟩
    | true =>
      rw [if_pos rfl, if_pos rfl, if_pos rfl]
      have c1 := h.cell1
      have f1 := h.blk.free (off + 1)
      have hbl := h.blk.lt
      have HS := Lib.hid (h.setNx x)
      have HO := Lib.hid ((Turned.refl b off cs v w).nx (.int .i64 x))
      by_cases hn : nx = 0
      · subst hn
        rw [if_pos rfl, if_pos rfl]
        clear h
        go_enter Try.func67, Try.ntmps67
        go_wp2_with fail
        go_ret
        exact ⟨_, _, _, rfl, Slw.nil _, HS.out, HO.out⟩
      · rw [if_neg hn, if_neg hn]
        have hnb : (nx == 0) = false := by rw [beq_eq_false_iff_ne]; exact hn
        have HB := Lib.hid (rbehind_any b off _ t size x v row nx _ HS.out hs1 hs hl)
        clear h
        go_enter Try.func67, Try.ntmps67
        go_wp2_with fail
        refine HB.out.mono ?_
        rintro e w1 ⟨u, cs', v', rfl, hown, hR, hO⟩
        have HW := Lib.hid hown
        have HO1 := Lib.hid (HO.out.trans hO)
        have HR := Lib.hid hR
        clear hown hO hR
        go_wp2_with fail
        go_ret
        exact ⟨_, _, _, rfl, HW.out, HR.out, HO1.out⟩

def RefGetPost (b off : Nat) (cs : Array Value) (t : TypeId) (size : Nat) (v : Value) (nx : Int) (row : List Int) (w : World) (e : Ending) (w' : World) : Prop :=
  e = .returned (.tuple #[.int .i64 (getV nx row), .bool (getB nx row)]) ∧ ∃ cs' v', RefR w' b off cs' t size 0 v' (getR nx row) ∧ Turned b off cs cs' v v' w w'

theorem RefR.own {w : World} {b off : Nat} {cs : Array Value} {t : TypeId} {size : Nat} {nx : Int} {row : List Int} {bu o n cap o' n' cap' : Nat} (h : RefR w b off cs t size nx (.slice (some ⟨bu, o, none⟩) n cap) row) (hr : row ≠ []) : (Value.slice (some ⟨bu, o', none⟩) n' cap').ownBlock ≠ some b := h.ne hr

set_option maxHeartbeats 2000000 in
theorem rget_any (b off : Nat) (cs : Array Value) (t : TypeId) (size : Nat) (nx : Int) (v : Value) (row : List Int) (w : World) (h : RefR w b off cs t size nx v row) (hnx : 0 ≤ nx) (hl : row.length ≤ 100000) :
    Calls Try.prog 68 #[.pointer (some ⟨b, off, none⟩)] w (RefGetPost b off cs t size v nx row w) := by
  have c1 := h.cell1
  have c2 := h.cell2
  have f1 := h.blk.free (off + 1)
  have f2 := h.blk.free (off + 2)
  have hbl := h.blk.lt
  unfold RefGetPost getV getB getR
  by_cases hx : 0 < nx
  · rw [if_pos hx, if_pos hx, if_pos hx]
    have hdx : decide (0 < nx) = true := by simpa using hx
    have HS := Lib.hid (h.setNx 0)
    have HO := Lib.hid ((Turned.refl b off cs v w).nx (.int .i64 0))
    clear h
    go_enter Try.func68, Try.ntmps68
    go_wp2_with fail
    go_ret2
    exact ⟨rfl, _, _, HS.out, HO.out⟩
  · rw [if_neg hx, if_neg hx, if_neg hx]
    obtain rfl : nx = 0 := by omega
    cases row with
    | nil =>
      have HH := Lib.hid h
      obtain ⟨a, cap, rfl⟩ := h.rd.len
      clear h
      go_enter Try.func68, Try.ntmps68
      go_wp2_with fail
      go_ret2
      exact ⟨rfl, _, _, HH.out, Turned.refl _ _ _ _ _⟩
    | cons x r =>
      rcases h.rd.open with ⟨_, h0⟩ | ⟨_, _, _, h0⟩ | ⟨bu, o, cap, rfl, hne, hcap, hbu, hcells⟩
      · cases h0
      · cases h0
      have cx := hcells 0 (by simp)
      simp only [Nat.add_zero, List.getElem?_cons_zero, Option.getD_some] at cx
      have hll : (x :: r).length = r.length + 1 := by simp
      rw [hll] at hcap c2 h
      have hz : (((r.length : Int) + 1) == 0) = false := by rw [beq_eq_false_iff_ne]; omega
      have hlr : r.length ≤ 100000 := by simp at hl; omega
      by_cases hc1 : cap = 1
      · have hr0 : r = [] := by
          have : r.length = 0 := by omega
          exact List.length_eq_zero_iff.1 this
        subst hc1 hr0
        have HS := Lib.hid (h.setRow (v' := .slice (some ⟨bu, o, none⟩) 0 0) (row' := []) (Slw.none0 _ _ _) (fun h => absurd rfl h))
        have HO := Lib.hid ((Turned.refl b off cs (.slice (some ⟨bu, o, none⟩) (0 + 1) 1) w).row (v' := .slice (some ⟨bu, o, none⟩) 0 0) (fun j hj => .inl hj))
        clear h hcells hll hl
        simp only [List.length_nil, Nat.zero_add] at *
        go_enter Try.func68, Try.ntmps68
        go_wp2_with fail
        go_ret2
        exact ⟨rfl, _, _, HS.out, HO.out⟩
      · have hsl : Slw w (.slice (some ⟨bu, o + 1, none⟩) r.length (cap - 1)) r := by
          have := h.rd
          rw [← hll] at this
          exact this.drop 1 (by simp) (by simp) (by omega)
        have HS := Lib.hid (h.setRow hsl (fun _ => h.own hne))
        have HO := Lib.hid ((Turned.refl b off cs (.slice (some ⟨bu, o, none⟩) (r.length + 1) cap) w).row (v' := .slice (some ⟨bu, o + 1, none⟩) r.length (cap - 1)) (fun j hj => .inl hj))
        have hcc : (1 : Int) ≤ (cap : Int) := by omega
        clear h hcells hsl hll hl
        go_enter Try.func68, Try.ntmps68
        go_wp2_with fail
        go_ret2
        exact ⟨rfl, _, _, HS.out, HO.out⟩

set_option maxHeartbeats 4000000 in
theorem rgrab_any (b off : Nat) (cs : Array Value) (t : TypeId) (size : Nat) (nx : Int) (v : Value) (row : List Int) (w : World) (h : RefR w b off cs t size nx v row) (hnx : 0 ≤ nx) (hl : row.length ≤ 100000) :
    Calls Try.prog 69 #[.pointer (some ⟨b, off, none⟩)] w (RefPost b off cs t size v (grabN nx row) (grabR row) (grabO nx row) w) := by
  have c1 := h.cell1
  have c2 := h.cell2
  have f1 := h.blk.free (off + 1)
  have f2 := h.blk.free (off + 2)
  have hbl := h.blk.lt
  unfold grabN grabO grabR
  by_cases hr : row = []
  · subst hr
    rw [if_pos rfl, if_pos rfl]
    obtain ⟨a, cap, rfl⟩ := h.rd.len
    by_cases hx : nx = 0
    · subst hx
      rw [show allL 0 [] = [] from by decide]
      have HH := Lib.hid h
      clear h
      go_enter Try.func69, Try.ntmps69
      go_wp2_with fail
      go_ret
      exact ⟨_, _, _, rfl, Slw.nil _, HH.out, Turned.refl _ _ _ _ _⟩
    · have hall : allL nx [] = [nx] := by simp [allL]; omega
      rw [hall]
      have hnb : (nx == 0) = false := by rw [beq_eq_false_iff_ne]; exact hx
      have HS := Lib.hid (h.setNx 0)
      have HO := Lib.hid ((Turned.refl b off cs (.slice a ([] : List Int).length cap) w).nx (.int .i64 0))
      clear h hall
      go_enter Try.func69, Try.ntmps69
      go_wp2_with fail
      go_ret
      exact ⟨_, _, _, rfl, (by simpa using Slw.new (w.setCell ⟨b, off + 1, none⟩ (.int .i64 0)) [nx] (by simp [maxLen])), HS.out.below (below_alloc (Below.refl _ _) _), HO.out.below (below_alloc (Below.refl _ _) _)⟩
  · rw [if_neg hr, if_neg hr]
    rcases h.rd.open with ⟨_, h0⟩ | ⟨_, _, _, h0⟩ | ⟨bu, o, cap, rfl, hne, hcap, hbu, hcells⟩
    · exact absurd h0 hr
    · exact absurd h0 hr
    have hlp : 0 < row.length := List.length_pos_iff.2 hr
    have hz : ((row.length : Int) == 0) = false := by rw [beq_eq_false_iff_ne]; omega
    obtain ⟨q, HQ⟩ : ∃ q, Hid (q = row.length / 2) := ⟨_, rfl⟩
    obtain ⟨k, HK⟩ : ∃ k, Hid (k = row.length - row.length / 2) := ⟨_, rfl⟩
    have hq1 : (row.length : Int).tdiv 2 = (q : Int) := by rw [HQ.out]; norm_cast
    have hq3 : IntKind.i64.wrap (q : Int) = q := IntWalk.i64_in _ (by have := HQ.out; omega)
    have hq2 : IntKind.i64.wrap ((row.length : Int) - (q : Int)) = (k : Int) := by rw [IntWalk.i64_in _ (by have := HQ.out; omega)]; have := HQ.out; have := HK.out; omega
    have hk : k ≤ row.length := by rw [HK.out]; omega
    rw [← HK.out]
    have HH := Lib.hid h
    have HS1 := Lib.hid (h.rd.take k hk)
    have hlen1 : ([] : List Int).length + (row.take k).length < 100000000 := by simp; omega
    have HLen1 := Lib.hid hlen1
    obtain ⟨o', cap', HE, hsl⟩ : ∃ o' cap', Hid (o' = (if k = cap then o else o + k) ∧ cap' = cap - k) ∧ Slw w (.slice (some ⟨bu, o', none⟩) (row.length - k) cap') (row.drop k) := by
      by_cases hkc : k = cap
      · refine ⟨o, cap - k, ⟨by rw [if_pos hkc], rfl⟩, ?_⟩
        have e1 : row.length - k = 0 := by omega
        have e2 : row.drop k = [] := List.drop_eq_nil_of_le (by omega)
        rw [e1, e2]
        exact Slw.none0 _ _ _
      · exact ⟨o + k, cap - k, ⟨by rw [if_neg hkc], rfl⟩, h.rd.drop k hk rfl (by omega)⟩
    have HS2 := Lib.hid hsl
    generalize row.take k = l1 at *
    generalize row.drop k = l2 at *
    have hkl : (k : Int) ≤ (row.length : Int) := by omega
    have hkc : (k : Int) ≤ (cap : Int) := by omega
    have c2n : ∀ n, ((w.drewN n).alloc (.cells #[] 3)).cell? ⟨b, off + 2, none⟩ = some (.slice (some ⟨bu, o, none⟩) row.length cap) := fun n => ((HH.out.drewN n).below (below_alloc (Below.refl _ _) _)).cell2
    clear h hcells hlen1 hsl
    by_cases hkcap : k = cap
    · obtain rfl : o = o' := by have := HE.out.1; rw [if_pos hkcap] at this; exact this.symm
      obtain rfl : cap' = 0 := by have := HE.out.2; omega
      have hq := HQ.out
      have hkk := HK.out
      have hl1 : row.length = 1 := by omega
      obtain rfl : k = 1 := by omega
      obtain rfl : q = 0 := by omega
      subst hkcap
      clear HE HK HQ hq hkk hl
      generalize row.length = n at *
      subst hl1
      clear hq2 hq3 hq1
      go_enter Try.func69, Try.ntmps69
      go_wp2_with fail
      go_quiet (fail)
      go_wp2_with (at_builtin; refine appX Try.underlying25 Glob.info3 w.heap.size _ rfl _ _ rfl (.slice (some ⟨w.heap.size, 0, none⟩) 0 0) [] (.slice (some ⟨bu, o, none⟩) 1 1) l1 rfl rfl (OwnI.lit (w.drewN _) w.heap.size (Nat.le_refl _)) ((HS1.out.drewN _).alloc _) (by simp) HLen1.out ?_; intro v' w2 hA; have hB2 : Below w.heap.size w w2 := below_grown (below_alloc (below_drewN (Below.refl _ _) _) _) hA.2.1 (fun j hj => by simp [Value.ownBlock] at hj; omega); have HOw : Hid (OwnI w2 w.heap.size v' l1) := hA.1; have HB2 := Lib.hid hB2; have h2 := HH.out.below hB2; have f22 := h2.blk.free (off + 2); have d22 := h2.cell2; have hb2 := h2.blk.lt; have HH2 := Lib.hid h2; have HS3 := Lib.hid (HS2.out.below hB2); clear hA hB2 h2)
      go_ret
      have hb : ∀ u : Value, (∀ j, u.ownBlock = some j → w.heap.size ≤ j) → Off (fun j => j = b) u := fun u h j hj e => by have := h j hj; omega
      refine ⟨_, _, _, rfl, (Slw.ofOwn HOw.out).only ((Only.refl (fun j => j = b) w2).set (.inr rfl) _ _) (hb _ (fun j hj => (HOw.out.lt j hj).1)), HH2.out.setRow HS3.out (fun _ => HH.out.own hne), ((Turned.refl b off cs _ w).below HB2.out).row (fun j hj => .inl hj)⟩
    · obtain rfl : o' = o + k := by have := HE.out.1; rwa [if_neg hkcap] at this
      obtain rfl : cap' = cap - k := HE.out.2
      clear HE
      go_enter Try.func69, Try.ntmps69
      go_wp2_with fail
      go_quiet (fail)
      clear hq1 hq2 hq3
      go_wp2_with (at_builtin; refine appX Try.underlying25 Glob.info3 w.heap.size _ rfl _ _ rfl (.slice (some ⟨w.heap.size, 0, none⟩) 0 0) [] (.slice (some ⟨bu, o, none⟩) k cap) l1 rfl rfl (OwnI.lit (w.drewN _) w.heap.size (Nat.le_refl _)) ((HS1.out.drewN _).alloc _) (by simp) HLen1.out ?_; intro v' w2 hA; have hB2 : Below w.heap.size w w2 := below_grown (below_alloc (below_drewN (Below.refl _ _) _) _) hA.2.1 (fun j hj => by simp [Value.ownBlock] at hj; omega); have HOw : Hid (OwnI w2 w.heap.size v' l1) := hA.1; have HB2 := Lib.hid hB2; have h2 := HH.out.below hB2; have f22 := h2.blk.free (off + 2); have d22 := h2.cell2; have hb2 := h2.blk.lt; have HH2 := Lib.hid h2; have HS3 := Lib.hid (HS2.out.below hB2); clear hA hB2 h2)
      go_ret
      have hb : ∀ u : Value, (∀ j, u.ownBlock = some j → w.heap.size ≤ j) → Off (fun j => j = b) u := fun u h j hj e => by have := h j hj; omega
      refine ⟨_, _, _, rfl, (Slw.ofOwn HOw.out).only ((Only.refl (fun j => j = b) w2).set (.inr rfl) _ _) (hb _ (fun j hj => (HOw.out.lt j hj).1)), HH2.out.setRow HS3.out (fun _ => HH.out.own hne), ((Turned.refl b off cs _ w).below HB2.out).row (fun j hj => .inl hj)⟩

set_option maxHeartbeats 4000000 in
theorem rlist_any (b off : Nat) (cs : Array Value) (t : TypeId) (size : Nat) (nx : Int) (v : Value) (row : List Int) (w : World) (h : RefR w b off cs t size nx v row) (hnx : 0 ≤ nx) (hl : row.length ≤ 100000) :
    Calls Try.prog 37 #[.pointer (some ⟨b, off, none⟩)] w (ListPost (allL nx row) w) := by
  have c1 := h.cell1
  have c2 := h.cell2
  have hbl := h.blk.lt
  have HH := Lib.hid h
  have HS := Lib.hid h.rd
  obtain ⟨a, cap, rfl⟩ := h.rd.len
  clear h
  by_cases hx : nx = 0
  · subst hx
    rw [show allL 0 row = row from by simp [allL]]
    have hlen1 : ([] : List Int).length + row.length < 100000000 := by simp; omega
    have HLen1 := Lib.hid hlen1
    have c2n : (w.alloc (.cells #[] 3)).cell? ⟨b, off + 2, none⟩ = some (.slice a row.length cap) := (HH.out.below (below_alloc (Below.refl _ _) _)).cell2
    clear hlen1
    go_enter Try.func37, Try.ntmps37
    go_wp2_with (at_builtin; refine appX Try.underlying25 Glob.info3 w.heap.size _ rfl _ _ rfl (.slice (some ⟨w.heap.size, 0, none⟩) 0 0) [] (.slice a row.length cap) row rfl rfl (OwnI.lit w w.heap.size (Nat.le_refl _)) (HS.out.alloc _) (by simp) HLen1.out ?_; intro v' w2 hA; have hB2 : Below w.heap.size w w2 := below_grown (below_alloc (Below.refl _ _) _) hA.2.1 (fun j hj => by simp [Value.ownBlock] at hj; omega); have HOw : Hid (OwnI w2 w.heap.size v' row) := hA.1; have HB2 := Lib.hid hB2; clear hA hB2)
    go_ret
    exact ⟨_, rfl, HOw.out, HB2.out⟩
  · have hall : allL nx row = [nx] ++ row := by unfold allL; rw [if_pos (by omega)]
    rw [hall]
    have hnb : (nx == 0) = false := by rw [beq_eq_false_iff_ne]; exact hx
    have hlen1 : ([nx] : List Int).length + row.length < 100000000 := by simp; omega
    have HLen1 := Lib.hid hlen1
    clear hlen1 hall
    go_enter Try.func37, Try.ntmps37
    go_wp2_with fail
    go_region_law (refine stepX Try.underlying25 Glob.info3 w.heap.size _ rfl (.tmp 18) (.tmp 22) rfl (.slice (some ⟨w.heap.size, 0, none⟩) 1 1) [nx] (.slice a row.length cap) row (by simp [Act.eval]) (by simp [Act.eval]) (OwnI.new (w := w.drew) (l := [nx]) (by simp [maxLen])) (HS.out.drew.alloc _) (by simp) HLen1.out ?_; intro v' w2 hA; have hB2 : Below w.heap.size w w2 := below_grown (below_alloc (below_drewN (Below.refl _ _) 1) _) hA.2.1 (fun j hj => by simp [Value.ownBlock] at hj; omega); have HOw : Hid (OwnI w2 w.heap.size v' ([nx] ++ row)) := hA.1; have HB2 := Lib.hid hB2; clear hA hB2)
    all_goals
      go_wp2
      go_ret
      exact ⟨_, rfl, HOw.out, HB2.out⟩

end Go.Proofs.Ytgahkcbkpnehfaa.Ring
