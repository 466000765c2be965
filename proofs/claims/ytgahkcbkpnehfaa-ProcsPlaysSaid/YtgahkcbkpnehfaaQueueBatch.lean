/- Chapter 16: the contracts of Get and Batch; the example; the walk of GlobManies. -/
import Derived.Test.YtgahkcbkpnehfaaQueueGet
namespace Go.Proofs.Ytgahkcbkpnehfaa.Glob
open Go.RowKit Go.Esc

def TurnAny (b : Nat) (v1 v2 : Value) (L : List Int) (w : World) (e : Ending) (w' : World) : Prop :=
  (∃ v, e = .returned v) ∧ ∃ v1' v2' f' k', Q w' b v1' v2' f' k' ∧ f'.reverse ++ k' = L ∧ f' ≠ [] ∧ Only (Qf b v1 v2) w w' ∧ Gr (Qf b v1 v2) (Qf b v1' v2') w

set_option maxHeartbeats 1000000 in
theorem turn_skip (b : Nat) (v1 v2 : Value) (f k : List Int) (w : World) (h : Q w b v1 v2 f k) (hf : f ≠ []) :
    Calls Try.prog 64 #[.pointer (some ⟨b, 0, none⟩)] w fun e w' => (∃ v, e = .returned v) ∧ w = w' := by
  have c0 := h.1.cell 0
  simp only [List.getElem?_toArray, List.getElem?_cons_zero] at c0
  obtain ⟨a1, p1, rfl⟩ := own_len h.2.1
  have hfl : 0 < f.length := List.length_pos_iff.2 hf
  have hd : decide ((0 : Int) < (f.length : Int)) = true := by rw [decide_eq_true_eq]; omega
  clear h hf
  go_enter Try.func64, Try.ntmps64
  go_wp2
  go_step3
  go_wp2
  try rw [Exit.noGoto_ret]
  refine bodyPost_ret (results_none rfl _ _ _) rfl ?_
  exact ⟨⟨_, rfl⟩, rfl⟩

theorem turn_any (b : Nat) (v1 v2 : Value) (f k : List Int) (w : World) (h : Q w b v1 v2 f k) (hl : k.length < 10000000) (hne : f.reverse ++ k ≠ []) :
    Calls Try.prog 64 #[.pointer (some ⟨b, 0, none⟩)] w (TurnAny b v1 v2 (f.reverse ++ k) w) := by
  by_cases hf : f = []
  · subst hf
    refine (turn_q b v1 v2 k w h hl).mono ?_
    rintro e w' ⟨he, v1', v2', hQ, hO, hG⟩
    exact ⟨he, v1', v2', _, _, hQ, by simp, by simpa using hne, hO, hG⟩
  · refine (turn_skip b v1 v2 f k w h hf).mono ?_
    rintro e w' ⟨he, rfl⟩
    exact ⟨he, v1, v2, f, k, h, rfl, hf, Only.refl _ _, Gr.refl _ _⟩

def GetPost (b : Nat) (S : Nat → Prop) (L : List Int) (w : World) (e : Ending) (w' : World) : Prop :=
  e = .returned (.tuple #[.int .i64 (L.headD 0), .bool (!L.isEmpty)]) ∧ ∃ S', Queue w' b S' L.tail ∧ Only S w w' ∧ Gr S S' w

theorem snoc_of {f : List Int} (h : f ≠ []) : ∃ p x, f = p ++ [x] ∧ f.length = p.length + 1 := by
  rcases List.eq_nil_or_concat f with h' | ⟨p, x, rfl⟩
  · exact absurd h' h
  · exact ⟨p, x, by simp, by simp⟩

set_option maxHeartbeats 2000000 in
theorem get_any (b : Nat) (S : Nat → Prop) (L : List Int) (w : World) (h : Queue w b S L) (hl : L.length < 10000000) : Calls Try.prog 33 #[.pointer (some ⟨b, 0, none⟩)] w (GetPost b S L w) := by
  by_cases hL : L = []
  · subst hL
    have HLen := Lib.hid (len_any b S [] w h (by simp))
    have HQ := Lib.hid h
    clear h
    go_enter Try.func33, Try.ntmps33
    go_wp2_with fail
    refine HLen.out.mono ?_
    rintro e w1 ⟨rfl, n, rfl⟩
    go_wp2_with fail
    go_ret2
    exact ⟨rfl, S, HQ.out.drewN n, (Only.refl _ _).drewN n, Gr.refl _ _⟩
  · have HLen := Lib.hid (len_any b S L w h (by omega))
    have hlp : 0 < L.length := List.length_pos_iff.2 hL
    have hlb : ((L.length : Int) == 0) = false := by rw [beq_eq_false_iff_ne]; omega
    obtain ⟨v1, v2, f, k, hQ, rfl, rfl⟩ := h
    have hkl : k.length < 10000000 := by simp at hl; omega
    have HT := Lib.hid (fun n => turn_any b v1 v2 f k _ (hQ.drewN n) hkl hL)
    generalize hLL : f.reverse ++ k = L at *
    have HLL := Lib.hid hLL
    clear hLL hQ
    go_enter Try.func33, Try.ntmps33
    go_wp2_with fail
    refine HLen.out.mono ?_
    rintro e w1 ⟨rfl, n, rfl⟩
    go_wp2_with fail
    refine (HT.out n).mono ?_
    rintro e w2 ⟨⟨v, rfl⟩, v1', v2', f', k', hQ2, hfk, hf2, hO2, hG2⟩
    obtain ⟨p, x, hfp, hfl⟩ := snoc_of hf2
    have d0 := hQ2.1.cell 0
    have f0 := hQ2.1.free 0
    have hbl := hQ2.1.lt
    simp only [List.getElem?_toArray, List.getElem?_cons_zero] at d0
    rcases hQ2.2.1.open with ⟨_, h0⟩ | ⟨g, cap, rfl, _, hg, hcap, hcells⟩
    · exact absurd h0 hf2
    rw [hfl] at d0 hcap hcells hQ2
    have cx := hcells p.length (by omega)
    rw [hfp] at cx
    rw [List.getElem?_append_right (Nat.le_refl _)] at cx
    simp only [Nat.sub_self, List.getElem?_cons_zero, Option.getD_some] at cx
    have hfl2 : p.length ≤ f'.length := by omega
    have HQc := Lib.hid (hQ2.cutFront (n := p.length) hfl2)
    have hpt : f'.take p.length = p := by rw [hfp]; simp
    rw [hpt] at HQc
    have HL : Hid (L = x :: (p.reverse ++ k')) := by show _ = _; rw [← hfk, hfp]; simp
    have hO2' : Only (Qf b v1 v2) w w2 := ⟨hO2.os, hO2.tape, hO2.output, hO2.size, hO2.block⟩
    have HO := Lib.hid (hO2'.set (.inr (.inl rfl)) 0 (.slice (some ⟨g, 0, none⟩) p.length cap))
    have HG := Lib.hid hG2
    have hpl2 : (p.length : Int) < (p.length : Int) + 1 := by omega
    have hpb : p.length < 10000000 := by have h4 := congrArg List.length HL.out; simp at h4; omega
    clear hcells hQ2 hfk hf2 hO2 hG2 hfl hfl2 hpt hfp hO2'
    go_wp2_with fail
    go_ret2
    refine ⟨by rw [HL.out]; rfl, Qf b (.slice (some ⟨g, 0, none⟩) p.length cap) v2', ⟨_, _, p, k', HQc.out, by rw [HL.out]; rfl, rfl⟩, HO.out, ?_⟩
    intro j hj
    refine (HG.out j ?_).elim .inl (fun h => .inr h)
    rcases hj with h4 | h4 | h4
    · exact .inl h4
    · exact .inr (.inl h4)
    · exact .inr (.inr h4)

def BatchPost (b : Nat) (S : Nat → Prop) (L : List Int) (n : Nat) (w : World) (e : Ending) (w' : World) : Prop :=
  ∃ v S', e = .returned v ∧ OwnI w' w.heap.size v (L.take n) ∧ Queue w' b S' (L.drop n) ∧ Only S w w' ∧ Gr S S' w ∧ Off S' v

theorem take_head (L : List Int) (i : Nat) (h : i < L.length) : L.take (i + 1) = L.take i ++ [(L.drop i).headD 0] := by
  rw [List.drop_eq_getElem_cons h, List.take_succ_eq_append_getElem h]; rfl
theorem Off.app {S S2 : Nat → Prop} {wr w2 w3 : World} {base : Nat} {v v' : Value} {l m M : List Int} {b : Nat} {o : Obj} (hOff : Off S v) (hown : OwnI wr base v l) (hg : Gr S S2 wr) (hA : Appd (w2.alloc o) base v l m v' w3) (hQ : Queue w2 b S2 M) : Off S2 v' := by
  intro j hj hs
  rcases hA.2.2 j hj with h | h
  · exact Off.gr hOff hg (fun j hj => (hown.lt j hj).2) j h hs
  · have := hQ.lt hs
    simp at h; omega
theorem Queue.app {S S2 : Nat → Prop} {wr w2 w3 : World} {base : Nat} {v v' : Value} {l m M : List Int} {b : Nat} {o : Obj} (hOff : Off S v) (hown : OwnI wr base v l) (hg : Gr S S2 wr) (hA : Appd (w2.alloc o) base v l m v' w3) (hQ : Queue w2 b S2 M) : Queue w3 b S2 M := by
  refine hQ.only (T := fun j => v.ownBlock = some j) (((Only.refl _ w2).alloc o).grown hA.2.1 (fun k hk => .inr hk)) ?_
  intro j hs hj
  exact Off.gr hOff hg (fun j hj => (hown.lt j hj).2) j hj hs

set_option maxHeartbeats 2000000 in
theorem batch_any (b : Nat) (S : Nat → Prop) (L : List Int) (p m : Int) (w : World) (h : Queue w b S L) (hl : L.length < 10000000) : Calls Try.prog 18 #[.pointer (some ⟨b, 0, none⟩), .int .i64 p, .int .i64 m] w (BatchPost b S L (manyZ L.length p m).toNat w) := by
  have HLen := Lib.hid (len_any b S L w h (by omega))
  have hm := many_le L.length p m (by omega)
  obtain ⟨n, HN⟩ := Int.eq_ofNat_of_zero_le hm.1
  have HMany := Lib.hid (fun w => many_any L.length p m w (by omega))
  rw [HN] at HMany hm ⊢
  clear HN
  simp only [Int.toNat_natCast]
  have hn : n ≤ L.length := by omega
  have HQ := Lib.hid h
  clear h
  go_enter Try.func18, Try.ntmps18
  go_wp2_with fail
  refine HLen.out.mono ?_
  rintro e w1 ⟨rfl, d, rfl⟩
  go_wp2_with fail
  refine (HMany.out _).mono ?_
  rintro e w1 ⟨rfl, rfl⟩
  go_wp2_with fail
  go_loopw [6, 17] (fun v i wr => ∃ (q : Nat) (S' : Nat → Prop), q ≤ n ∧ i = .int .i64 q ∧ OwnI wr w.heap.size v (L.take q) ∧ Queue wr b S' (L.drop q) ∧ Only S w wr ∧ Gr S S' w ∧ Off S' v) (fun _ i _ => n - (intOf i).toNat)
  case atStart => exact ⟨0, S, Nat.zero_le _, rfl, by simpa using OwnI.nil _ _, by simpa using HQ.out.drewN d, (Only.refl _ _).drewN d, Gr.refl _ _, Off.nil _⟩
  case round =>
    obtain ⟨q, S', hq, rfl, hown, hQ, hO, hG, hOff⟩ := hrel
    by_cases hlt : q < n
    · have hql : q < L.length := by omega
      have HT := Lib.hid (take_head L q hql)
      have HD : Hid ((L.drop q).tail = L.drop (q + 1)) := by show _ = _; rw [List.tail_drop]
      have hdl : (L.drop q).length < 10000000 := by rw [List.length_drop]; omega
      have HGet := Lib.hid (get_any b S' (L.drop q) wr hQ hdl)
      have hcl : (L.take q).length ≤ q := List.length_take_le _ _
      have HOwn := Lib.hid hown
      have HOff := Lib.hid hOff
      have hlen2 : (L.take q).length + [(L.drop q).headD 0].length < 100000000 := by simp; omega
      have HLn := Lib.hid hlen2
      have hE : (L.drop q).isEmpty = false := by rw [List.drop_eq_getElem_cons hql]; rfl
      unfold GetPost at HGet
      rw [hE] at HGet
      generalize (L.drop q).headD 0 = x at *
      have hwr := hO.size
      clear hQ hlen2 hown hOff hcl hdl hE
      go_wp2_with fail
      refine HGet.out.mono ?_
      rintro e w2 ⟨rfl, S2, hQ2, hO2, hG2⟩
      rw [HD.out] at hQ2
      have HQ2 := Lib.hid hQ2
      clear hQ2
      go_wp2_with (at_builtin; refine appX Try.underlying25 info3 w.heap.size _ rfl _ _ rfl _ _ _ [x] rfl rfl ((HOwn.out.off hO2 HOff.out).alloc _) (Slw.new1 w2 x) (by have := hO2.size; simp; omega) HLn.out ?_; intro v' w3 hA)
      go_roundw
      case rel => exact ⟨q + 1, S2, by omega, by go_num, by rw [HT.out]; exact hA.1, Queue.app HOff.out HOwn.out hG2 hA HQ2.out, ((hO.andThen hO2 (fun j hj hs => (hG j hs).elim id (fun x => by omega))).alloc _).grown hA.2.1 (fun j hj => .inl (HOwn.out.lt j hj).1), hG.trans hG2 hO.size, Off.app HOff.out HOwn.out hG2 hA HQ2.out⟩
      case measure => simp [intOf]; omega
    · obtain rfl : q = n := by omega
      go_wp2
      go_ret
      exact ⟨_, S', rfl, hown, hQ, hO, hG, hOff⟩

end Go.Proofs.Ytgahkcbkpnehfaa.Glob
