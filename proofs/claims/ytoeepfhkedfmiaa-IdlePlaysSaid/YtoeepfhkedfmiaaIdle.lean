/- Chapter 20: the contracts of idle. -/
import Derived.Test.YtoeepfhkedfmiaaIdlePlain
import Derived.Test.YtoeepfhkedfmiaaRows
import Derived.Test.YtoeepfhkedfmiaaDealOncePlain
import Derived.WalkLawsBesides
import Derived.Outline
import Derived.BigGuard
import Derived.RegionTactic
import Derived.BigRegion
import Derived.ChangeAlike
import Derived.WalkMore
import Derived.Deep.QuietTactic
import Derived.BigQuiet
namespace Go.Proofs.Ytoeepfhkedfmiaa.Idle
open Go.RowKit Go.Esc

/-- The list in memory: x, the last one first. -/
def St (w : World) (b g m : Nat) (x : List Int) : Prop :=
  Blk w b #[.int .i64 (x.headD (-1)), .slice (some ⟨g, 0, none⟩) m m, .int .i64 x.length] 74 ∧ Cells w g m 3 (fun i => .int .i64 (link x i)) ∧ x.Nodup ∧ (∀ y ∈ x, 0 ≤ y ∧ y < (m : Int)) ∧ b ≠ g ∧ m ≤ 1024

theorem St.len {w : World} {b g m : Nat} {x : List Int} (h : St w b g m x) : x.length ≤ 1024 := Nat.le_trans (pigeon m x h.2.2.1 h.2.2.2.1) h.2.2.2.2.2
theorem St.only {S : Nat → Prop} {w w' : World} {b g m : Nat} {x : List Int} (h : St w b g m x) (k : Only S w w') (hb : ¬ S b) (hg : ¬ S g) : St w' b g m x :=
  ⟨h.1.only k hb, h.2.1.only k hg, h.2.2⟩
theorem St.below {w w' : World} {b g m : Nat} {x : List Int} (h : St w b g m x) (hb : Below w.heap.size w w') : St w' b g m x :=
  h.only (S := fun _ => False) ((Only.refl _ w).below hb) (fun x => x) (fun x => x)

theorem St.drew {w : World} {b g m : Nat} {x : List Int} (h : St w b g m x) : St w.drew b g m x := h
theorem St.drewN {w : World} {b g m : Nat} {x : List Int} (h : St w b g m x) (n : Nat) : St (w.drewN n) b g m x := h

set_option maxHeartbeats 1000000 in
theorem len_any (b g m : Nat) (x : List Int) (w : World) (h : St w b g m x) : Calls Try.prog 41 #[.pointer (some ⟨b, 0, none⟩)] w fun e w' => e = .returned (.int .i64 x.length) ∧ w = w' := by
  have c2 := h.1.cell 2
  simp at c2
  clear h
  go_enter Try.func41, Try.ntmps41
  go_wp2
  go_ret
  exact ⟨rfl, rfl⟩

set_option maxHeartbeats 1000000 in
theorem has_any (b g m : Nat) (x : List Int) (id : Int) (w : World) (h : St w b g m x) : Calls Try.prog 40 #[.pointer (some ⟨b, 0, none⟩), .int .i64 id] w fun e w' => e = .returned (.bool (decide (id ∈ x))) ∧ w = w' := by
  obtain ⟨hb, hc, hn, hr, hne, hm⟩ := h
  have c1 := hb.cell 1
  simp at c1
  clear hb
  by_cases h0 : id < 0
  · rw [decide_eq_false (fun hx => by have := hr id hx; omega)]
    have hd : decide (0 ≤ id) = false := by simp; omega
    go_enter Try.func40, Try.ntmps40
    go_wp2
    go_ret
    exact ⟨rfl, rfl⟩
  · obtain ⟨n, rfl⟩ := Int.eq_ofNat_of_zero_le (show 0 ≤ id by omega)
    by_cases h1 : m ≤ n
    · rw [decide_eq_false (fun hx => by have := hr _ hx; omega)]
      have hd : decide (0 ≤ (n : Int)) = true := by simp
      have hd2 : decide ((n : Int) < (m : Int)) = false := by simp; omega
      go_enter Try.func40, Try.ntmps40
      go_wp2
      go_ret
      exact ⟨rfl, rfl⟩
    · have cn := hc.cell (i := n) (by omega)
      have HL := Lib.hid (link_has (x := x) (i := n) (fun y hy => (hr y hy).1))
      rw [← HL.out]
      clear HL hc hr hn
      have hd : decide (0 ≤ (n : Int)) = true := by simp
      have hd2 : decide ((n : Int) < (m : Int)) = true := by simp; omega
      generalize link x n = y at *
      go_enter Try.func40, Try.ntmps40
      go_wp2
      go_ret
      exact ⟨rfl, rfl⟩

set_option maxHeartbeats 1000000 in
theorem peek_nil (b g m : Nat) (w : World) (h : St w b g m []) : Calls Try.prog 46 #[.pointer (some ⟨b, 0, none⟩)] w fun e w' => e = .returned (.tuple #[.int .i64 0, .bool false]) ∧ w = w' := by
  have c2 := h.1.cell 2
  simp at c2
  clear h
  go_enter Try.func46, Try.ntmps46
  go_wp2
  go_ret2
  exact ⟨rfl, rfl⟩

set_option maxHeartbeats 1000000 in
theorem peek_cons (b g m : Nat) (a : Int) (x : List Int) (w : World) (h : St w b g m (a :: x)) : Calls Try.prog 46 #[.pointer (some ⟨b, 0, none⟩)] w fun e w' => e = .returned (.tuple #[.int .i64 a, .bool true]) ∧ w = w' := by
  have c2 := h.1.cell 2
  have c0 := h.1.cell 0
  have hl := h.len
  simp at c0 c2 hl
  have hb : (((x.length : Int) + 1) == 0) = false := by rw [beq_eq_false_iff_ne]; omega
  clear h
  go_enter Try.func46, Try.ntmps46
  go_wp2
  go_ret2
  exact ⟨rfl, rfl⟩

def TwoOf (b g : Nat) (k : Nat) : Prop := k = b ∨ k = g

theorem put_st {w : World} {b g m n : Nat} {x : List Int} (h : St w b g m x) (hn : n < m) (hx : (n : Int) ∉ x) :
    St (((w.setCell ⟨g, n, none⟩ (.int .i64 (x.headD (-1)))).setCell ⟨b, 0, none⟩ (.int .i64 n)).setCell ⟨b, 2, none⟩ (.int .i64 ((x.length : Int) + 1))) b g m ((n : Int) :: x) := by
  obtain ⟨hb, hc, hnd, hr, hne, hm⟩ := h
  refine ⟨?_, ?_, List.nodup_cons.2 ⟨hx, hnd⟩, ?_, hne, hm⟩
  · exact (((hb.setOther (c := g) (i := n) hne (.int .i64 (x.headD (-1)))).set 0 (.int .i64 n)).set 2 (.int .i64 ((x.length : Int) + 1)))
  · refine (((hc.set hn (.int .i64 (x.headD (-1)))).setOther (c := b) (i := 0) (Ne.symm hne) (.int .i64 n)).setOther (c := b) (i := 2) (Ne.symm hne) (.int .i64 ((x.length : Int) + 1))).congr fun i _ => ?_
    rw [link]
    by_cases hi : i = n
    · subst hi; simp
    · rw [if_neg hi, if_neg (by omega)]
  · intro y hy
    rcases List.mem_cons.1 hy with rfl | hy
    · omega
    · exact hr y hy

def BoolPost (b g m : Nat) (x' : List Int) (r : Bool) (w : World) (e : Ending) (w' : World) : Prop := e = .returned (.bool r) ∧ St w' b g m x' ∧ Only (TwoOf b g) w w'

set_option maxHeartbeats 1000000 in
theorem put_no (b g m : Nat) (x : List Int) (id : Int) (w : World) (h : St w b g m x) (hid : id < 0 ∨ (m : Int) ≤ id ∨ id ∈ x) : Calls Try.prog 38 #[.pointer (some ⟨b, 0, none⟩), .int .i64 id] w (BoolPost b g m x false w) := by
  have hS := h
  have HH := Lib.hid (has_any b g m x id w h)
  obtain ⟨hb, hc, hn, hr, hne, hm⟩ := h
  have c1 := hb.cell 1
  simp at c1
  clear hb hc hn
  by_cases h0 : id < 0
  · have hd : decide (0 ≤ id) = false := by simp; omega
    clear hid hr
    go_enter Try.func38, Try.ntmps38
    go_wp2
    go_ret
    exact ⟨rfl, hS, Only.refl _ _⟩
  · by_cases h1 : (m : Int) ≤ id
    · have hd : decide (0 ≤ id) = true := by simp; omega
      have hd2 : decide (id < (m : Int)) = false := by simp; omega
      clear hid hr
      go_enter Try.func38, Try.ntmps38
      go_wp2
      go_ret
      exact ⟨rfl, hS, Only.refl _ _⟩
    · have hx : id ∈ x := (hid.resolve_left h0).resolve_left h1
      have hd : decide (0 ≤ id) = true := by simp; omega
      have hd2 : decide (id < (m : Int)) = true := by simp; omega
      have HX := Lib.hid (decide_eq_true hx)
      rw [HX.out] at HH
      clear hid hr hx
      go_enter Try.func38, Try.ntmps38
      go_wp2_with (first | (go_at_call 40; refine HH.out.mono ?_; rintro e w' ⟨rfl, rfl⟩) | (go_at_call 55; go_in))
      go_ret
      exact ⟨rfl, hS, Only.refl _ _⟩

set_option maxHeartbeats 2000000 in
theorem put_yes (b g m n : Nat) (x : List Int) (w : World) (h : St w b g m x) (hnm : n < m) (hx : (n : Int) ∉ x) : Calls Try.prog 38 #[.pointer (some ⟨b, 0, none⟩), .int .i64 n] w (BoolPost b g m ((n : Int) :: x) true w) := by
  have HS := Lib.hid (put_st h hnm hx)
  have HH := Lib.hid (has_any b g m x n w h)
  rw [decide_eq_false hx] at HH
  have hl := h.len
  obtain ⟨hb, hc, hn, hr, hne, hm⟩ := h
  have c0 := hb.cell 0
  have c1 := hb.cell 1
  have c2 := hb.cell 2
  have f0 := hb.free 0
  have f2 := hb.free 2
  have cn := hc.cell hnm
  have fn := hc.free n
  have hbl := hb.lt
  have hgl := hc.lt
  simp only [List.getElem?_toArray, List.getElem?_cons_zero, List.getElem?_cons_succ] at c0 c1 c2
  generalize x.headD (-1) = hd0 at *
  generalize link x n = y at *
  have hne' : g ≠ b := Ne.symm hne
  have hd : decide (0 ≤ (n : Int)) = true := by simp
  have hd2 : decide ((n : Int) < (m : Int)) = true := by simp; omega
  clear hb hc hr hn hx
  go_enter Try.func38, Try.ntmps38
  go_wp2_with (first | (go_at_call 40; refine HH.out.mono ?_; rintro e w' ⟨rfl, rfl⟩) | (go_at_call 55; go_in))
  go_region
  go_wp2
  go_ret
  exact ⟨rfl, HS.out.drew, ((((Only.refl _ w).set (.inr (.inr rfl)) _ _).set (.inr (.inl rfl)) _ _).set (.inr (.inl rfl)) _ _).drew⟩

/-- One is taken out: the cell that held it now holds who came ahead of it. -/
theorem drop_first {w : World} {b g m n : Nat} {r : List Int} (h : St w b g m ((n : Int) :: r)) (hn : n < m) :
    St (((w.setCell ⟨b, 0, none⟩ (.int .i64 (r.headD (-1)))).setCell ⟨g, n, none⟩ (.int .i64 (-2))).setCell ⟨b, 2, none⟩ (.int .i64 r.length)) b g m r := by
  obtain ⟨hb, hc, hnd, hr, hne, hm⟩ := h
  obtain ⟨hx, hnd'⟩ := List.nodup_cons.1 hnd
  refine ⟨?_, ?_, hnd', fun y hy => hr y (by simp [hy]), hne, hm⟩
  · exact (((hb.set 0 (.int .i64 (r.headD (-1)))).setOther (c := g) (i := n) hne (.int .i64 (-2))).set 2 (.int .i64 r.length))
  · refine (((hc.setOther (c := b) (i := 0) (Ne.symm hne) (.int .i64 (r.headD (-1)))).set hn (.int .i64 (-2))).setOther (c := b) (i := 2) (Ne.symm hne) (.int .i64 r.length)).congr fun i _ => ?_
    by_cases hi : i = n
    · subst hi; rw [if_pos rfl, link_no hx]
    · rw [if_neg hi, link, if_neg (by omega)]

theorem drop_later {w : World} {b g m n q : Nat} {p r : List Int} (h : St w b g m (p ++ (q : Int) :: (n : Int) :: r)) (hn : n < m) (hq : q < m) :
    St (((w.setCell ⟨g, q, none⟩ (.int .i64 (r.headD (-1)))).setCell ⟨g, n, none⟩ (.int .i64 (-2))).setCell ⟨b, 2, none⟩ (.int .i64 (p ++ (q : Int) :: r).length)) b g m (p ++ (q : Int) :: r) := by
  obtain ⟨hb, hc, hnd, hr, hne, hm⟩ := h
  have e : p ++ (q : Int) :: (n : Int) :: r = (p ++ [(q : Int)]) ++ (n : Int) :: r := by simp
  have e' : p ++ (q : Int) :: r = (p ++ [(q : Int)]) ++ r := by simp
  have hsub : List.Sublist (p ++ (q : Int) :: r) (p ++ (q : Int) :: (n : Int) :: r) := by
    apply List.Sublist.append_left
    exact List.Sublist.cons_cons _ (List.sublist_cons_self _ _)
  have hnd' := hnd.sublist hsub
  have hqp : (q : Int) ∉ p := by
    intro hm'
    have := (List.nodup_append.1 hnd).2.2 _ hm' (q : Int) (by simp)
    exact this rfl
  have hnn : (n : Int) ∉ p ++ (q : Int) :: r := by
    rw [e] at hnd
    have h1 := (List.nodup_append.1 hnd).2.2
    have h2 := (List.nodup_append.1 hnd).2.1
    rw [e']
    intro hm'
    rcases List.mem_append.1 hm' with h3 | h3
    · exact h1 _ h3 (n : Int) (by simp) rfl
    · exact (List.nodup_cons.1 h2).1 h3
  refine ⟨?_, ?_, hnd', fun y hy => hr y (hsub.subset hy), hne, hm⟩
  · have hd : (p ++ (q : Int) :: (n : Int) :: r).headD (-1) = (p ++ (q : Int) :: r).headD (-1) := by cases p <;> simp
    rw [hd] at hb
    exact (((hb.setOther (c := g) (i := q) hne (.int .i64 (r.headD (-1)))).setOther (c := g) (i := n) hne (.int .i64 (-2))).set 2 (.int .i64 (p ++ (q : Int) :: r).length))
  · refine (((hc.set hq (.int .i64 (r.headD (-1)))).set hn (.int .i64 (-2))).setOther (c := b) (i := 2) (Ne.symm hne) (.int .i64 (p ++ (q : Int) :: r).length)).congr fun i _ => ?_
    by_cases hi : i = n
    · subst hi; rw [if_pos rfl, link_no hnn]
    · rw [if_neg hi]
      by_cases hiq : i = q
      · subst hiq; rw [if_pos rfl, link_at p _ _ hqp]
      · rw [if_neg hiq, e, e']
        congr 1
        exact (link_other (p ++ [(q : Int)]) n r i (by omega) (fun p0 q0 e0 => by
          have := List.append_inj_right' e0 rfl
          simp at this
          omega)).symm

end Go.Proofs.Ytoeepfhkedfmiaa.Idle
