/- Chapter 20: the contracts of Drop, Get, All and New. -/
import Derived.Test.YtoeepfhkedfmiaaIdle
import Derived.Deep.LoopGhost
namespace Go.Proofs.Ytoeepfhkedfmiaa.Idle
open Go.RowKit Go.Esc

theorem link_get : ∀ (x : List Int) (k : Nat), x.Nodup → k + 1 < x.length → link x (x[k]?.getD 0) = x[k + 1]?.getD 0
  | a :: r, 0, _, h => by
    simp only [link, List.getElem?_cons_zero, Option.getD_some, List.getElem?_cons_succ]
    rw [if_pos trivial]
    cases r with
    | nil => simp at h
    | cons b r => simp
  | a :: r, k + 1, hn, h => by
    obtain ⟨ha, hr⟩ := List.nodup_cons.1 hn
    have h' : k + 1 < r.length := by simp at h; omega
    have hk : k < r.length := by omega
    simp only [List.getElem?_cons_succ, link]
    rw [if_neg (fun e => ha (by rw [← e]; simp [hk]))]
    exact link_get r k hr h'

set_option maxHeartbeats 1000000 in
theorem drop_no (b g m : Nat) (x : List Int) (id : Int) (w : World) (h : St w b g m x) (hx : id ∉ x) : Calls Try.prog 49 #[.pointer (some ⟨b, 0, none⟩), .int .i64 id] w (BoolPost b g m x false w) := by
  have HS := Lib.hid h
  have HH := Lib.hid (has_any b g m x id w h)
  rw [decide_eq_false hx] at HH
  clear h hx
  go_enter Try.func49, Try.ntmps49
  go_wp2
  go_step3
  go_wp2_with (go_at_call 40; refine HH.out.mono ?_; rintro e w' ⟨rfl, rfl⟩)
  try rw [Exit.noGoto_ret]
  go_ret
  exact ⟨rfl, HS.out, Only.refl _ _⟩

/-- Where the k-th one is written. -/
def At (b g : Nat) (x : List Int) : Nat → Addr
  | 0 => ⟨b, 0, none⟩
  | k + 1 => ⟨g, (x[k]?.getD 0).toNat, none⟩

theorem at_cell {w : World} {b g m : Nat} {x : List Int} (h : St w b g m x) (k : Nat) (hk : k < x.length) : w.cell? (At b g x k) = some (.int .i64 (x[k]?.getD 0)) := by
  obtain ⟨hb, hc, hnd, hr, hne, hm⟩ := h
  cases k with
  | zero =>
    rw [At, hb.cell]
    cases x with
    | nil => simp at hk
    | cons a r => simp
  | succ k =>
    have h1 := hr (x[k]?.getD 0) (by have : k < x.length := by omega
                                     simp [this])
    rw [At, hc.cell (by omega)]
    rw [show (((x[k]?.getD 0).toNat : Nat) : Int) = x[k]?.getD 0 by omega, link_get x k hnd hk]

set_option maxHeartbeats 2000000 in
theorem drop_loop (b g m n P : Nat) (x : List Int) (w : World) (h : St w b g m x) (hP : P < x.length) (hx : x[P]?.getD 0 = n) (hfr : ∀ k, k < P → x[k]?.getD 0 ≠ n) (hnm : n < m)
    (hdec : (P = 0 ∧ ∃ r, x = (n : Int) :: r) ∨ ∃ p q r, P = p.length + 1 ∧ q < m ∧ x = p ++ ((q : Nat) : Int) :: (n : Int) :: r) :
    Calls Try.prog 49 #[.pointer (some ⟨b, 0, none⟩), .int .i64 n] w (BoolPost b g m (x.erase n) true w) := by
  have HSt := Lib.hid h
  have HD := Lib.hid hdec
  clear hdec
  have HA := Lib.hid (at_cell h)
  have HH := Lib.hid (has_any b g m x n w h)
  have HX := Lib.hid hx
  have HF := Lib.hid hfr
  have hxm : (n : Int) ∈ x := by rw [← hx]; simp [hP]
  rw [decide_eq_true hxm] at HH
  have HR := Lib.hid h.2.2.2.1
  have c1 := h.1.cell 1
  have c2 := h.1.cell 2
  have f0 := h.1.free 0
  have f2 := h.1.free 2
  have cn := h.2.1.cell hnm
  have fa := h.2.1.free
  have fn := fa n
  have hbl := h.1.lt
  have hgl := h.2.1.lt
  have hl := h.len
  have hne := h.2.2.2.2.1
  have hne' : g ≠ b := Ne.symm hne
  have hm := h.2.2.2.2.2
  simp only [List.getElem?_toArray, List.getElem?_cons_zero, List.getElem?_cons_succ] at c1 c2
  have HFa := Lib.hid fa
  clear hx hfr hxm h fa
  go_enter Try.func49, Try.ntmps49
  go_wp2
  go_step3
  go_wp2_with (go_at_call 40; refine HH.out.mono ?_; rintro e w' ⟨rfl, rfl⟩)
  go_step3
  go_wp2
  go_loopg [5] P (fun gk t wr => ∃ k nn : Nat, k ≤ P ∧ gk = P - k ∧ t = .pointer (some (At b g x k)) ∧ wr = w.drewN nn)
  case atStart => exact ⟨0, 0, Nat.zero_le _, rfl, rfl, rfl⟩
  case round =>
    obtain ⟨k, nn, hk, hgk, rfl, rfl⟩ := hrel
    have HG := Lib.hid hgk
    clear hgk
    have c0 := HA.out k (by omega)
    by_cases hkP : k = P
    · subst hkP
      rw [HX.out] at c0
      clear HA HF HR
      rcases HD.out with ⟨rfl, r, hxr⟩ | ⟨p, q, r, hkp, hq, hxr⟩
      · have HS := HSt.out
        rw [hxr] at HS
        have HL : Hid (link x n = r.headD (-1)) := by show _ = _; rw [hxr, link, if_pos rfl]
        have HE : Hid (x.erase n = r) := by show _ = _; rw [hxr]; simp
        have hlen : x.length = r.length + 1 := by rw [hxr]; rfl
        have HFin := Lib.hid (drop_first (HS.drewN nn) hnm)
        rw [HL.out] at cn
        rw [hlen] at c2 hl
        generalize r.headD (-1) = z at *
        rw [At] at c0 ⊢
        clear HX HD HSt hxr HL hlen HS hP
        go_wp2
        go_region
        go_wp2
        rw [Exit.noGoto_ret]
        go_ret
        exact ⟨rfl, by rw [HE.out]; exact HFin.out.drew, ((((((Only.refl _ w).drewN nn).set (.inr (.inl rfl)) _ _).set (.inr (.inr rfl)) _ _).set (.inr (.inl rfl)) _ _)).drew⟩
      · have HS := HSt.out
        rw [hxr] at HS
        have hndx := HS.2.2.1
        have hnp : (n : Int) ∉ p ++ [(q : Int)] := by
          intro hm'
          have e : p ++ (q : Int) :: (n : Int) :: r = (p ++ [(q : Int)]) ++ (n : Int) :: r := by simp
          rw [e] at hndx
          exact (List.nodup_append.1 hndx).2.2 _ hm' (n : Int) (by simp) rfl
        have HL : Hid (link x n = r.headD (-1)) := by
          show _ = _
          rw [hxr, show p ++ (q : Int) :: (n : Int) :: r = (p ++ [(q : Int)]) ++ (n : Int) :: r by simp]
          exact link_at _ _ _ hnp
        have HE : Hid (x.erase n = p ++ (q : Int) :: r) := by
          show _ = _
          rw [hxr, show p ++ (q : Int) :: (n : Int) :: r = (p ++ [(q : Int)]) ++ (n : Int) :: r by simp, erase_split hnp]
          simp
        have hlen : x.length = (p ++ (q : Int) :: r).length + 1 := by rw [hxr]; simp; omega
        have HFin := Lib.hid (drop_later (HS.drewN nn) hnm hq)
        have hat : At b g x k = ⟨g, q, none⟩ := by rw [hkp, At, hxr]; simp
        have hqn : q ≠ n := by rintro rfl; exact hnp (by simp)
        have hnq : n ≠ q := Ne.symm hqn
        have fq := HFa.out q
        rw [HL.out] at cn
        rw [hlen] at c2 hl
        rw [hat] at c0 ⊢
        generalize r.headD (-1) = z at *
        generalize p ++ (q : Int) :: r = xx at *
        clear HX HD HSt hxr HL hlen HS hP hndx hnp hat hkp
        go_wp2
        go_region
        go_wp2
        rw [Exit.noGoto_ret]
        go_ret
        exact ⟨rfl, by rw [HE.out]; exact HFin.out.drew, ((((((Only.refl _ w).drewN nn).set (.inr (.inr rfl)) _ _).set (.inr (.inr rfl)) _ _).set (.inr (.inl rfl)) _ _)).drew⟩
    · have hklt : k < P := by omega
      have hne := HF.out k hklt
      have hr := HR.out (x[k]?.getD 0) (by have : k < x.length := by omega
                                           simp [this])
      obtain ⟨y, HY⟩ := Int.eq_ofNat_of_zero_le hr.1
      rw [HY] at c0 hne hr
      have hyn : ((y : Int) != (n : Int)) = true := by simp; omega
      have hym : y < m := by omega
      have hat : Hid (At b g x (k + 1) = ⟨g, y, none⟩) := by show _ = _; rw [At, HY]; simp
      clear HY hr hne
      generalize At b g x k = ad at *
      go_wp2
      go_quiet (fail)
      go_wp2
      go_roundg (P - (k + 1))
      case rel => exact ⟨k + 1, _, by omega, rfl, by rw [hat.out], World.drewN_drewN _ _ _⟩
      case measure => have := HG.out; omega

end Go.Proofs.Ytoeepfhkedfmiaa.Idle
