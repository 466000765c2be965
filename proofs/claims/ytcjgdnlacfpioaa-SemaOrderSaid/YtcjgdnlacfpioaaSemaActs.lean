/- Chapter 22: the program's semaphore: Acquire, Release, Drop. -/
import Derived.Test.YtcjgdnlacfpioaaSema
namespace Go.Proofs.Ytcjgdnlacfpioaa.Sema
open Go.RowKit Go.Esc Go.Proofs.Ytcjgdnlacfpioaa.Ref
set_option linter.unusedVariables false

def acqO (ow g : Int) : Int := if g < 1 then ow else if ow = 0 then g else ow
def acqB (ow g : Int) : Bool := if g < 1 then false else if ow = 0 then true else decide (ow = g)
def acqF (g : Int) : Int := if g < 1 then 1 else 0
def acqL (ow : Int) (l : List Int) (g : Int) : List Int := if g < 1 then l else if ow = 0 then l else if ow = g then l else if g ∈ l then l else l ++ [g]
def AcqPost (b : Nat) (ow : Int) (v : Value) (l : List Int) (g : Int) (w : World) (e : Ending) (w' : World) : Prop :=
  e = .returned (.tuple #[.bool (acqB ow g), .int .i64 (acqF g)]) ∧ Sp b (acqO ow g) v (acqL ow l g) w w'

theorem Sp.same {b : Nat} {ow : Int} {v : Value} {l : List Int} {w w' : World} (h : Sm w' b ow v l) (o : Only (Sf b v) w w') : Sp b ow v l w w' := ⟨v, h, o, fun _ h => .inl h⟩

set_option maxHeartbeats 2000000 in
theorem acquire_any (b : Nat) (ow : Int) (v : Value) (l : List Int) (g : Int) (w : World) (h : Sm w b ow v l) (hl : l.length < 1000000) : Calls Try.prog 11 #[.pointer (some ⟨b, 0, none⟩), .int .i64 g] w (AcqPost b ow v l g w) := by
  have c0 := h.cell0
  have f0 := h.blk.free 0
  have hbl := h.blk.lt
  unfold AcqPost acqO acqB acqF acqL
  by_cases hg : g < 1
  · simp only [hg, if_true]
    have hd : decide (g < 1) = true := by simpa using hg
    have HH := Lib.hid h
    clear h
    go_enter Try.func11, Try.ntmps11
    go_wp2
    go_ret2
    exact ⟨rfl, Sp.same HH.out (Only.refl _ _)⟩
  have hd : decide (g < 1) = false := by simpa using hg
  simp only [hg, if_false]
  by_cases h0 : ow = 0
  · subst h0
    simp only [if_true]
    have HH := Lib.hid (h.setOw g)
    clear h hg
    go_enter Try.func11, Try.ntmps11
    go_wp2
    go_ret2
    exact ⟨rfl, Sp.same HH.out ((Only.refl (Sf b v) w).set (.inr (.inl rfl)) _ _)⟩
  have hb0 : (ow == 0) = false := by rw [beq_eq_false_iff_ne]; exact h0
  simp only [h0, if_false]
  by_cases h1 : ow = g
  · have hb1 : (ow == g) = true := by rw [beq_iff_eq]; exact h1
    simp only [h1, if_true, decide_true]
    have HH : Hid (Sm w b g v l) := by rw [← h1]; exact h
    clear h h1 h0 hg
    go_enter Try.func11, Try.ntmps11
    go_wp2
    go_ret2
    exact ⟨rfl, Sp.same HH.out (Only.refl _ _)⟩
  have hb1 : (ow == g) = false := by rw [beq_eq_false_iff_ne]; exact h1
  simp only [h1, if_false, decide_false]
  have HA := Lib.hid (ahead_any b ow v l g w h (by omega))
  have hm := idxZ_mem l g
  have HH := Lib.hid h
  by_cases hmem : g ∈ l
  · have hdi : decide (idxZ l g < 0) = false := by rw [decide_eq_false_iff_not, hm]; simpa using hmem
    simp only [hmem, if_true]
    clear h h1 h0 hg hm hmem
    generalize hidx : idxZ l g = ix at *
    unfold AheadPost at HA
    rw [hidx] at HA
    clear hidx
    go_enter Try.func11, Try.ntmps11
    go_wp2_with fail
    refine HA.out.mono ?_
    rintro e w2 ⟨rfl, hb2⟩
    have HB2 := Lib.hid hb2
    clear hb2
    go_wp2_with fail
    go_ret2
    exact ⟨rfl, Sp.same (HH.out.below HB2.out) ((Only.refl _ _).below HB2.out)⟩
  · have hdi : decide (idxZ l g < 0) = true := by rw [decide_eq_true_eq, hm]; exact hmem
    simp only [hmem, if_false]
    clear h h1 h0 hg hm hmem
    generalize hidx : idxZ l g = ix at *
    unfold AheadPost at HA
    rw [hidx] at HA
    clear hidx
    go_enter Try.func11, Try.ntmps11
    go_wp2_with fail
    refine HA.out.mono ?_
    rintro e w2 ⟨rfl, hb2⟩
    have HB2 := Lib.hid hb2
    have h2 := HH.out.below hb2
    have d1 := h2.cell1
    have hbl2 := h2.blk.lt
    have HR2 : Hid (Rwl (w2.alloc (.cells #[.int .i64 g] 3)) v l) := h2.row.off ((Only.refl (fun _ => False) w2).alloc _) (fun _ _ x => x)
    have HT : Hid ((w2.alloc (.cells #[.int .i64 g] 3)).cell? ⟨w2.heap.size, 0, none⟩ = some (.int .i64 g)) := (Blk.new w2 #[.int .i64 g] 3).cell 0
    have HH2 := Lib.hid h2
    clear hb2 h2
    go_wp2_with (at_builtin; refine appR Try.underlying22 info3 (w2.alloc (.cells #[.int .i64 g] 3)) rfl _ _ rfl v l g w2.heap.size rfl rfl HR2.out HT.out (by omega) ?_; intro v' w3 hO3 hG3 hX3 hV3; have hO3w : Only (fun j => v.ownBlock = some j) w2 w3 := ((Only.refl _ w2).alloc _).grown hG3 (fun j e => .inr e); have hb3 := HH2.out.blk.only hO3w (fun e => HH2.out.ne e); have e1 := hb3.cell 1; have ef := hb3.free 1; have hlt3 := hb3.lt; have hnb : v'.ownBlock ≠ some b := (fun e => by rcases hX3 b e with h' | h'; exact HH2.out.ne h'; simp at h'; omega); have HO3 := Lib.hid hO3; have HO3w := Lib.hid hO3w; have HX3 := Lib.hid hX3; have HB3 := Lib.hid hb3; have HNB := Lib.hid hnb; obtain ⟨g', cap', rfl⟩ := hV3; simp only [List.getElem?_toArray, List.getElem?_cons_zero, List.getElem?_cons_succ] at e1; clear hO3 hG3 hX3 hO3w hb3 hnb)
    go_ret2
    have hS3 : Only (Sf b v) w w3 := ((Only.refl (Sf b v) w).below HB2.out).andThen HO3w.out (fun j _ hj => .inr hj)
    refine ⟨rfl, _, ⟨HB3.out.set2_1, .inl (HO3.out.off ((Only.refl (fun j => j = b) w3).set (.inr rfl) _ _) (off_b HNB.out)), HNB.out, fun j hj => by have := (HO3.out.lt j hj).2; simpa [World.setCell] using this⟩, hS3.set (.inr (.inl rfl)) _ _, fun j hj => ?_⟩
    rcases HX3.out j hj with h' | h'
    · exact .inl h'
    · right
      have := HB2.out.size
      simp at h'
      omega

def relF (ow g : Int) : Int := if g < 1 then 9 else if ow = g then 0 else 9
def relV (ow : Int) (l : List Int) (g : Int) : Int := if g < 1 then 0 else if ow = g then l.headD 0 else 0
def relO (ow : Int) (l : List Int) (g : Int) : Int := if g < 1 then ow else if ow = g then l.headD 0 else ow
def relL (ow : Int) (l : List Int) (g : Int) : List Int := if g < 1 then l else if ow = g then l.tail else l
def RelPost (b : Nat) (ow : Int) (v : Value) (l : List Int) (g : Int) (w : World) (e : Ending) (w' : World) : Prop :=
  e = .returned (.tuple #[.int .i64 (relV ow l g), .int .i64 (relF ow g)]) ∧ Sp b (relO ow l g) v (relL ow l g) w w'

theorem Sp.cells {b : Nat} {ow x : Int} {v v' : Value} {l l' : List Int} {w : World} (h : Sm w b ow v l) (hr : Rwl w v' l') (hn : v'.ownBlock ≠ some b) (hg : ∀ j, v'.ownBlock = some j → v.ownBlock = some j) : Sp b x v l' w (((w.setCell ⟨b, 0, none⟩ (.int .i64 0)).setCell ⟨b, 0, none⟩ (.int .i64 x)).setCell ⟨b, 1, none⟩ v') := by
  have h1 := (h.setOw 0).setOw x
  refine ⟨v', h1.setRow (hr.off (((Only.refl (fun j => j = b) w).set (.inr rfl) _ _).set (.inr rfl) _ _) (off_b hn)) hn (fun j hj => by have := h.live j (hg j hj); simpa [World.setCell] using this), (((Only.refl (Sf b v) w).set (.inr (.inl rfl)) _ _).set (.inr (.inl rfl)) _ _).set (.inr (.inl rfl)) _ _, fun j hj => .inl (hg j hj)⟩

set_option maxHeartbeats 4000000 in
theorem release_any (b : Nat) (ow : Int) (v : Value) (l : List Int) (g : Int) (w : World) (h : Sm w b ow v l) (hl : l.length < 1000000) : Calls Try.prog 14 #[.pointer (some ⟨b, 0, none⟩), .int .i64 g] w (RelPost b ow v l g w) := by
  have c0 := h.cell0
  have c1 := h.cell1
  have f0 := h.blk.free 0
  have f1 := h.blk.free 1
  have hbl := h.blk.lt
  unfold RelPost relO relV relF relL
  by_cases hg : g < 1
  · simp only [hg, if_true]
    have hd : decide (g < 1) = true := by simpa using hg
    have HH := Lib.hid h
    clear h
    go_enter Try.func14, Try.ntmps14
    go_wp2
    go_ret2
    exact ⟨rfl, Sp.same HH.out (Only.refl _ _)⟩
  have hd : decide (g < 1) = false := by simpa using hg
  simp only [hg, if_false]
  by_cases h1 : ow = g
  · subst h1
    have hb1 : (ow != ow) = false := by simp
    simp only [if_true]
    cases l with
    | nil =>
      obtain ⟨a, cap, rfl⟩ := h.row.slw.len
      have HH := Lib.hid (h.setOw 0)
      clear h hg
      go_enter Try.func14, Try.ntmps14
      go_wp2
      go_ret2
      exact ⟨rfl, Sp.same HH.out ((Only.refl (Sf b _) w).set (.inr (.inl rfl)) _ _)⟩
    | cons x r =>
      rcases h.row.slw.open with ⟨_, h0⟩ | ⟨_, _, _, h0⟩ | ⟨bu, o, cap, rfl, hne, hcap, hbu, hcells⟩
      · cases h0
      · cases h0
      have cx := hcells 0 (by simp)
      simp only [Nat.add_zero, List.getElem?_cons_zero, Option.getD_some] at cx
      have hll : (x :: r).length = r.length + 1 := by simp
      have hbb : bu ≠ b := fun e => h.ne (by rw [e]; rfl)
      have hbb2 : ¬ b = bu := fun e => hbb e.symm
      rw [hll] at hcap c1 hl
      have hsl := h.row.slw
      rw [hll] at h
      have hd2 : decide ((0 : Int) < (r.length : Int) + 1) = true := by rw [decide_eq_true_eq]; omega
      have q1 : (1 : Int) ≤ (r.length : Int) + 1 := by omega
      have q2 : (r.length : Int) + 1 ≤ (cap : Int) := by omega
      have q3 : (1 : Int) ≤ (cap : Int) := by omega
      have q4 : r.length + 1 ≤ cap := by omega
      have q5 : (0 : Int) < (r.length : Int) + 1 := by omega
      by_cases hr0 : r = []
      · subst hr0
        have HS := Lib.hid (Sp.cells (x := x) (v' := .slice (some ⟨bu, o, none⟩) 0 0) (l' := []) h (.inr ⟨Slw.none0 _ _ _, _, rfl⟩) h.ne (fun j hj => hj))
        clear h hcells hsl hll hg hne
        simp only [List.length_nil, Nat.zero_add] at *
        go_enter Try.func14, Try.ntmps14
        go_wp2_with fail
        go_region
        all_goals
          go_wp2
          go_ret2
          obtain ⟨v', s1, s2, s3⟩ := HS.out
          exact ⟨rfl, v', ⟨s1.blk, s1.row, s1.ne, s1.live⟩, ⟨s2.os, s2.tape, s2.output, s2.size, s2.block⟩, s3⟩
      · have hrp : 0 < r.length := List.length_pos_iff.2 hr0
        have hsl2 : Slw w (.slice (some ⟨bu, o + 1, none⟩) r.length r.length) r := hsl.drop 1 (by simp) (by simp) (Nat.le_refl _)
        have HS := Lib.hid (Sp.cells (x := x) (v' := .slice (some ⟨bu, o + 1, none⟩) r.length r.length) (l' := r) h (.inr ⟨hsl2, _, rfl⟩) h.ne (fun j hj => hj))
        have hrz : ¬ r.length = 0 := by omega
        clear h hcells hsl hll hg hne hsl2 hr0
        go_enter Try.func14, Try.ntmps14
        go_wp2_with fail
        go_region
        all_goals
          go_wp2
          go_ret2
          obtain ⟨v', s1, s2, s3⟩ := HS.out
          exact ⟨rfl, v', ⟨s1.blk, s1.row, s1.ne, s1.live⟩, ⟨s2.os, s2.tape, s2.output, s2.size, s2.block⟩, s3⟩
  · have hb1 : (ow != g) = true := by simpa using h1
    simp only [h1, if_false]
    have HH := Lib.hid h
    clear h h1 hg
    go_enter Try.func14, Try.ntmps14
    go_wp2
    go_ret2
    exact ⟨rfl, Sp.same HH.out (Only.refl _ _)⟩

def DropPost (b : Nat) (ow : Int) (v : Value) (l : List Int) (g : Int) (w : World) (e : Ending) (w' : World) : Prop :=
  e = .returned (.bool (decide (g ∈ l))) ∧ Sp b ow v (l.erase g) w w'

set_option maxHeartbeats 2000000 in
theorem drop_any (b : Nat) (ow : Int) (v : Value) (l : List Int) (g : Int) (w : World) (h : Sm w b ow v l) (hl : l.length < 1000000) : Calls Try.prog 19 #[.pointer (some ⟨b, 0, none⟩), .int .i64 g] w (DropPost b ow v l g w) := by
  have HA := Lib.hid (ahead_any b ow v l g w h (by omega))
  have hm := idxZ_mem l g
  have HH := Lib.hid h
  have hbl := h.blk.lt
  unfold DropPost
  by_cases hmem : g ∈ l
  · have hge : 0 ≤ idxZ l g := by
      have : ¬ idxZ l g < 0 := fun e => (hm.1 e) hmem
      omega
    obtain ⟨k, hk⟩ := Int.eq_ofNat_of_zero_le hge
    obtain ⟨he1, he2, _⟩ := idxZ_erase l g k hk
    have HE := Lib.hid he1
    rw [decide_eq_true hmem]
    unfold AheadPost at HA
    rw [hk] at HA
    obtain ⟨p, hp⟩ : ∃ p, l.length = p + 1 := ⟨l.length - 1, by omega⟩
    have HP := Lib.hid hp
    have hkp : k ≤ p := by omega
    have hpl : p < 1000000 := by omega
    clear h hm hge hk he1 hmem hp he2
    have hkd : decide ((k : Int) < 0) = false := by simp
    go_enter Try.func19, Try.ntmps19
    go_wp2_with fail
    refine HA.out.mono ?_
    rintro e w2 ⟨rfl, hb2⟩
    have HB2 := Lib.hid hb2
    have h2 := HH.out.below hb2
    have d1 := h2.cell1
    have HH2 := Lib.hid h2
    have HC := Lib.hid (clone_any v l w2 h2.row.slw (by omega))
    clear hb2 h2
    go_wp2_with fail
    refine HC.out.mono ?_
    rintro e w3 ⟨v3, rfl, ho3, hb3⟩
    obtain ⟨g3, cap3, rfl, hg3, hg3l⟩ : ∃ g3 cap3, v3 = .slice (some ⟨g3, 0, none⟩) (p + 1) cap3 ∧ w2.heap.size ≤ g3 ∧ g3 < w3.heap.size := by
      rcases ho3.open with ⟨_, h0⟩ | ⟨g3, cap3, he, h1, h2, _⟩
      · have := HP.out; rw [h0] at this; simp at this
      · exact ⟨g3, cap3, by rw [he, HP.out], h1, h2⟩
    have HO3 := Lib.hid ho3
    have HB3 := Lib.hid hb3
    have hs2 := HB2.out.size
    clear ho3 hb3
    go_wp2_with fail
    refine (delete_at g3 cap3 w2.heap.size k p l w3 HO3.out hkp (by omega)).mono ?_
    rintro e w4 ⟨v4, rfl, ho4, hv4, hg4⟩
    have h3 := HH2.out.below HB3.out
    have hO4 : Only (fun j => j = g3) w3 w4 := (Only.refl _ w3).grown hg4 (fun j e => .inr (by simpa using e.symm))
    have hbl2 := HH2.out.blk.lt
    have hb4 := h3.blk.only hO4 (fun (e : b = g3) => by omega)
    have e1 := hb4.cell 1
    have ef := hb4.free 1
    have hlt4 := hb4.lt
    simp only [List.getElem?_toArray, List.getElem?_cons_zero, List.getElem?_cons_succ] at e1
    have HB4 := Lib.hid hb4
    have HO4 := Lib.hid ho4
    have HV4 := Lib.hid hv4
    have HOn : Hid (Only (Sf b v) w w4) := (((Only.refl (Sf b v) w).below HB2.out).below HB3.out).andThen hO4 (fun j hj e => by have e' : j = g3 := e; omega)
    obtain ⟨a4, c4, rfl⟩ : ∃ a4 c4, v4 = .slice a4 (l.take k ++ l.drop (k + 1)).length c4 := by
      obtain ⟨a, c, he, _⟩ := Sl.ofOwn ho4; exact ⟨a, c, he⟩
    clear ho4 hv4 hg4 h3 hO4 hb4
    generalize (l.take k ++ l.drop (k + 1)).length = n4 at *
    go_wp2_with fail
    go_ret
    have hnb : (Value.slice a4 n4 c4).ownBlock ≠ some b := by rw [HV4.out]; simp; omega
    refine ⟨rfl, _, ⟨HB4.out.set2_1, .inl ?_, hnb, fun j hj => by have := (HO4.out.lt j hj).2; simpa [World.setCell] using this⟩, HOn.out.set (.inr (.inl rfl)) _ _, fun j hj => ?_⟩
    · rw [← HE.out]
      exact (HO4.out.mono (Nat.zero_le _)).off ((Only.refl (fun j => j = b) w4).set (.inr rfl) _ _) (off_b hnb)
    · right
      rw [HV4.out] at hj
      simp at hj
      omega
  · have hlt : idxZ l g < 0 := hm.2 hmem
    rw [decide_eq_false hmem]
    have HE : Hid (l.erase g = l) := List.erase_of_not_mem hmem
    unfold AheadPost at HA
    generalize idxZ l g = ix at *
    clear h hm hmem
    go_enter Try.func19, Try.ntmps19
    go_wp2_with fail
    refine HA.out.mono ?_
    rintro e w2 ⟨rfl, hb2⟩
    have HB2 := Lib.hid hb2
    clear hb2
    go_wp2_with fail
    go_ret
    exact ⟨rfl, by rw [HE.out]; exact Sp.same (HH.out.below HB2.out) ((Only.refl _ _).below HB2.out)⟩
end Go.Proofs.Ytcjgdnlacfpioaa.Sema
