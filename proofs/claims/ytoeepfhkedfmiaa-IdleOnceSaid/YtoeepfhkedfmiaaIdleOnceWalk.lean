/- Chapter 20: the walk of IdleOnce. -/
import Derived.Test.YtoeepfhkedfmiaaIdleMore
import Derived.Test.YtoeepfhkedfmiaaRefOne
namespace Go.Proofs.Ytoeepfhkedfmiaa.Idle
open Go.RowKit Go.Esc

/-- How many of the numbers below k are there. -/
def cin (x : List Int) : Nat → Nat
  | 0 => 0
  | k + 1 => cin x k + if (k : Int) ∈ x then 1 else 0
theorem cin_nil : ∀ k, cin [] k = 0
  | 0 => rfl
  | k + 1 => by rw [cin, cin_nil k]; simp
theorem cin_cons (a : Nat) (r : List Int) (h : (a : Int) ∉ r) : ∀ k, cin ((a : Int) :: r) k = cin r k + if a < k then 1 else 0
  | 0 => rfl
  | k + 1 => by
    rw [cin, cin, cin_cons a r h k]
    by_cases hk : k = a
    · subst hk; simp [h]
    · have : ((k : Int) ∈ (a : Int) :: r) ↔ (k : Int) ∈ r := by simp; omega
      by_cases hm : (k : Int) ∈ r
      · rw [if_pos (this.2 hm), if_pos hm]
        by_cases h1 : a < k
        · rw [if_pos h1, if_pos (by omega)]
        · rw [if_neg h1, if_neg (by omega)]
      · rw [if_neg (fun h2 => hm (this.1 h2)), if_neg hm]
        by_cases h1 : a < k
        · rw [if_pos h1, if_pos (by omega)]
        · rw [if_neg h1, if_neg (by omega)]
theorem cin_all (m : Nat) : ∀ x : List Int, x.Nodup → (∀ y ∈ x, 0 ≤ y ∧ y < (m : Int)) → cin x m = x.length
  | [], _, _ => cin_nil m
  | a :: r, hn, h => by
    obtain ⟨ha, hr⟩ := List.nodup_cons.1 hn
    have h1 := h a (by simp)
    obtain ⟨n, rfl⟩ := Int.eq_ofNat_of_zero_le h1.1
    rw [cin_cons n r ha, if_pos (by omega), cin_all m r hr (fun y hy => h y (by simp [hy]))]
    simp
theorem cin_le (x : List Int) : ∀ k, cin x k ≤ k
  | 0 => Nat.le_refl _
  | k + 1 => by have := cin_le x k; rw [cin]; split <;> omega

theorem infoBool : (Try.prog.info? 4).map (fun i => (i.zero, i.size, i.bytes)) = some (some (.bool false), 1, 1) := by kernel_rfl
theorem makeBools64 (w : World) : (Instr.makeSlice 53 (.int .i64 64) (.int .i64 64)).run Try.prog w = .ok (.slice (some ⟨w.heap.size, 0, none⟩) 64 64) (w.alloc (.cells (madeCells #[.bool false] 64) 4)) :=
  run_make_row' 53 4 (.bool false) 1 Try.underlying53 infoBool rfl .i64 .i64 64 (by omega) (by omega) w

theorem has_same (b g m : Nat) (x : List Int) (id : Int) (w : World) (h : St w b g m x) : Calls Try.prog 40 #[.pointer (some ⟨b, 0, none⟩), .int .i64 id] w fun e w' => e = .returned (.bool (decide (id ∈ x))) ∧ w' = w :=
  (has_any b g m x id w h).mono fun _ _ ⟨h1, h2⟩ => ⟨h1, h2.symm⟩

theorem has_at (b g m : Nat) (x : List Int) (id : Int) (r : Bool) (w : World) (h : St w b g m x) (hr : decide (id ∈ x) = r) : Calls Try.prog 40 #[.pointer (some ⟨b, 0, none⟩), .int .i64 id] w fun e w' => e = .returned (.bool r) ∧ w' = w := by
  rw [← hr]; exact has_same b g m x id w h

def There (w : World) (t : Nat) (x : List Int) : Prop := Cells w t 64 4 (fun i => .bool (decide ((i : Int) ∈ x)))

theorem There.put {w : World} {t n : Nat} {x : List Int} (h : There w t x) (hn : n < 64) : There (w.setCell ⟨t, n, none⟩ (.bool true)) t (putL 64 x n) := by
  refine (h.set hn (.bool true)).congr fun i hi => ?_
  unfold putL
  by_cases hin : i = n
  · subst hin
    rw [if_pos rfl]
    by_cases hx : (i : Int) < 0 ∨ ((64 : Nat) : Int) ≤ (i : Int) ∨ (i : Int) ∈ x
    · rw [if_pos hx, decide_eq_true ((hx.resolve_left (by omega)).resolve_left (by omega))]
    · rw [if_neg hx, decide_eq_true (by simp)]
  · rw [if_neg hin]
    by_cases hx : (n : Int) < 0 ∨ ((64 : Nat) : Int) ≤ (n : Int) ∨ (n : Int) ∈ x
    · rw [if_pos hx]
    · rw [if_neg hx]
      congr 1
      apply decide_eq_decide.2
      simp
      omega
theorem There.get {w : World} {t n : Nat} {r : List Int} (h : There w t ((n : Int) :: r)) (hn : n < 64) (hr : (n : Int) ∉ r) : There (w.setCell ⟨t, n, none⟩ (.bool false)) t r := by
  refine (h.set hn (.bool false)).congr fun i hi => ?_
  by_cases hin : i = n
  · subst hin; rw [if_pos rfl, decide_eq_false hr]
  · rw [if_neg hin]
    congr 1
    apply decide_eq_decide.2
    simp
    omega

set_option maxRecDepth 100000 in
set_option maxHeartbeats 2000000 in
theorem once (w : World) (a : Option Addr) (len cap : Nat) (f : Nat → Nat → Int) (hr : Row w a len 2 f) : Calls Try.prog 9 #[.slice a len cap] w fun e w' => e = .returned (.bool true) ∧ Below w.heap.size w w' := by
  by_cases hbig : 100 < len
  · go_enter Try.func9, Try.ntmps9
    go_wp2_with (go_at_call 36; refine (alive_any _).mono ?_; rintro e w' ⟨rfl, hb⟩)
    go_ret
    exact ⟨rfl, hb⟩
  have hlen : len ≤ 100 := by omega
  clear hbig
  have hd : decide ((100 : Int) < (len : Int)) = false := by simp; omega
  have hmk := makeBools64
  go_enter Try.func9, Try.ntmps9
  go_wp2_with fail
  refine (new_good 64 _ (by decide)).mono ?_
  rintro e w1 ⟨rfl, hs1, hb1⟩
  have hsz := hs1.1.lt
  go_wp2_with fail
  go_loopw [5] (fun i wr => ∃ (k : Nat) (x : List Int), k ≤ len ∧ i = .int .i64 k ∧ St wr (w.heap.size + 1) w.heap.size 64 x ∧ There wr w1.heap.size x ∧ Below w.heap.size w wr)
    (fun i _ => len - (intOf i).toNat)
  case atStart =>
    refine ⟨0, [], Nat.zero_le _, rfl, hs1.below (below_alloc (Below.refl _ _) _), (Cells.made w1 64 4 (.bool false)).congr fun i _ => by simp, below_alloc hb1 _⟩
  case round =>
    obtain ⟨k, x, hk, rfl, hst, hth, hbel⟩ := hrel
    have hwr := hth.lt
    by_cases hlt : k < len
    · rcases hr with h0 | ⟨b, off, rfl, hbl, hml, hcell, hwf⟩
      · omega
      have c0 : wr.cell? ⟨b, off + k * 2, none⟩ = some (.int .i64 (f k 0)) := (hbel.cell (p := ⟨b, off + k * 2, none⟩) hbl).trans (hcell k 0 hlt (by omega))
      have c1 : wr.cell? ⟨b, off + k * 2 + 1, none⟩ = some (.int .i64 (f k 1)) := (hbel.cell (p := ⟨b, off + k * 2 + 1, none⟩) hbl).trans (hcell k 1 hlt (by omega))
      generalize f k 1 = id at *
      generalize f k 0 = k0 at *
      clear hcell hwf
      have hbl' : b < wr.heap.size := by omega
      have hst2 := hst.below (below_alloc (Below.refl _ wr) (.cells #[.int .i64 k0, .int .i64 id] 58))
      have hth2 : There _ w1.heap.size x := hth.alloc (.cells #[.int .i64 k0, .int .i64 id] 58)
      have hbel2 := below_alloc hbel (.cells #[.int .i64 k0, .int .i64 id] 58)
      have hblk := Blk.new wr #[.int .i64 k0, .int .i64 id] 58
      have HST := Lib.hid hst2
      have HTH := Lib.hid hth2
      have HBL := Lib.hid hbel2
      have HBK := Lib.hid hblk
      clear hst hth hst2 hth2 hbel2 hblk
      by_cases hk0 : k0 = 0
      · subst hk0
        by_cases hin : 0 ≤ id ∧ id < 64
        · obtain ⟨n, rfl⟩ := Int.eq_ofNat_of_zero_le hin.1
          have hn : n < 64 := by omega
          have hd0 : decide (0 ≤ (n : Int)) = true := by simp
          have hd1 : decide ((n : Int) < 64) = true := by simp; omega
          go_wp2_with fail
          refine (put_any _ _ _ _ _ _ HST.out).mono ?_
          rintro e w2 ⟨rfl, hs2, ho2⟩
          have hb2 := HBK.out.only ho2 (by rintro (h | h) <;> omega)
          have ht2 : There w2 w1.heap.size x := HTH.out.only ho2 (by rintro (h | h) <;> omega)
          have hbel2 := below_only HBL.out ho2 (by rintro k (h | h) <;> omega)
          have y0 := hb2.cell 0
          have y1 := hb2.cell 1
          simp only [List.getElem?_toArray, List.getElem?_cons_zero, List.getElem?_cons_succ] at y0 y1
          have tn := ht2.cell hn
          have tf := ht2.free n
          have htl := ht2.lt
          have hpb : putB 64 x n = !decide ((n : Int) ∈ x) := by unfold putB; congr 1; apply decide_eq_decide.2; exact ⟨fun h => (h.resolve_left (by omega)).resolve_left (by omega), fun h => .inr (.inr h)⟩
          rw [hpb]
          have HT2 := Lib.hid (ht2.put hn)
          have HS2 := Lib.hid hs2
          clear ht2 hpb hs2 hb2
          cases hm : decide ((n : Int) ∈ x)
          · rw [hm] at tn
            go_wp2_with fail
            refine (Ref.refmod_any _ _ _ (by decide)).mono ?_
            rw [show modZ n 64 = n from by unfold modZ; rw [if_neg (by decide)]; omega]
            rintro e w3 ⟨rfl, rfl⟩
            go_wp2_with fail
            go_roundw
            case rel => exact ⟨k + 1, _, by omega, by go_num, HS2.out.only ((Only.refl (fun k => k = w1.heap.size) w2).set (.inr rfl) n (.bool true)) (by omega) (by omega), HT2.out, below_set hbel2 (by omega) _ _⟩
            case measure => simp [intOf]; omega
          · rw [hm] at tn
            go_wp2_with fail
            refine (Ref.refmod_any _ _ _ (by decide)).mono ?_
            rw [show modZ n 64 = n from by unfold modZ; rw [if_neg (by decide)]; omega]
            rintro e w3 ⟨rfl, rfl⟩
            go_wp2_with fail
            go_roundw
            case rel => exact ⟨k + 1, _, by omega, by go_num, HS2.out.only ((Only.refl (fun k => k = w1.heap.size) w2).set (.inr rfl) n (.bool true)) (by omega) (by omega), HT2.out, below_set hbel2 (by omega) _ _⟩
            case measure => simp [intOf]; omega
        · have hpl : putL 64 x id = x := by unfold putL; rw [if_pos (by omega)]
          have hpb : putB 64 x id = false := by unfold putB; rw [decide_eq_true (by omega)]; rfl
          have HP := Lib.hid (put_any _ _ _ _ id _ HST.out)
          rw [hpl, hpb] at HP
          clear hpl hpb
          by_cases h0 : 0 ≤ id
          · have h1 : 64 ≤ id := by omega
            have hd0 : decide (0 ≤ id) = true := by simp; omega
            have hd1 : decide (id < 64) = false := by simp; omega
            clear hin
            go_wp2_with fail
            refine HP.out.mono ?_
            rintro e w2 ⟨rfl, hs2, ho2⟩
            go_wp2_with fail
            go_roundw
            case rel => exact ⟨k + 1, _, by omega, by go_num, hs2, HTH.out.only ho2 (by rintro (h | h) <;> omega), below_only HBL.out ho2 (by rintro k (h | h) <;> omega)⟩
            case measure => simp [intOf]; omega
          · have h1 : id < 0 := by omega
            have hd0 : decide (0 ≤ id) = false := by simp; omega
            clear hin
            go_wp2_with fail
            refine HP.out.mono ?_
            rintro e w2 ⟨rfl, hs2, ho2⟩
            go_wp2_with fail
            go_roundw
            case rel => exact ⟨k + 1, _, by omega, by go_num, hs2, HTH.out.only ho2 (by rintro (h | h) <;> omega), below_only HBL.out ho2 (by rintro k (h | h) <;> omega)⟩
            case measure => simp [intOf]; omega
      · have hk0b : (k0 == 0) = false := by simp [hk0]
        by_cases hk1 : k0 = 1
        · subst hk1
          clear hk0
          cases x with
          | nil =>
            go_wp2_with fail
            refine (get_any _ _ _ _ _ HST.out).mono ?_
            rintro e w2 ⟨rfl, hs2, ho2⟩
            go_wp2_with fail
            go_roundw
            case rel => exact ⟨k + 1, _, by omega, by go_num, hs2, HTH.out.only ho2 (by rintro (h | h) <;> omega), below_only HBL.out ho2 (by rintro k (h | h) <;> omega)⟩
            case measure => simp [intOf]; omega
          | cons y r =>
            have hry := HST.out.2.2.2.1 y (by simp)
            obtain ⟨n, rfl⟩ := Int.eq_ofNat_of_zero_le hry.1
            have hn : n < 64 := by omega
            have hnr := (List.nodup_cons.1 HST.out.2.2.1).1
            have HNR := Lib.hid hnr
            clear hnr hry
            go_wp2_with fail
            refine (get_any _ _ _ _ _ HST.out).mono ?_
            rintro e w2 ⟨rfl, hs2, ho2⟩
            have ht2 : There w2 w1.heap.size ((n : Int) :: r) := HTH.out.only ho2 (by rintro (h | h) <;> omega)
            have hbel2 := below_only HBL.out ho2 (by rintro k (h | h) <;> omega)
            have tn := ht2.cell hn
            have tf := ht2.free n
            have htl := ht2.lt
            rw [decide_eq_true (by simp)] at tn
            have HT2 := Lib.hid (ht2.get hn HNR.out)
            have HS2 := Lib.hid hs2
            clear ht2 hs2
            have hd0 : decide ((n : Int) < 0) = false := by simp
            have hd1 : decide ((64 : Int) ≤ (n : Int)) = false := by simp; omega
            go_wp2_with fail
            go_roundw
            case rel => exact ⟨k + 1, _, by omega, by go_num, HS2.out.only ((Only.refl (fun k => k = w1.heap.size) w2).set (.inr rfl) n (.bool false)) (by omega) (by omega), HT2.out, below_set hbel2 (by omega) _ _⟩
            case measure => simp [intOf]; omega
        · have hk1b : (k0 == 1) = false := by simp [hk1]
          clear hk0 hk1
          go_wp2_with fail
          go_roundw
          case rel => exact ⟨k + 1, _, by omega, by go_num, HST.out, HTH.out, HBL.out⟩
          case measure => simp [intOf]; omega
    · have HCA := Lib.hid (cin_all 64 x hst.2.2.1 hst.2.2.2.1)
      have hxl := hst.len
      have HST := Lib.hid hst
      have HTH := Lib.hid hth
      clear hst hth
      go_wp2_with fail
      go_loopw [10, 11] (fun c i wq => ∃ q : Nat, q ≤ 64 ∧ i = .int .i64 q ∧ c = .int .i64 (cin x q : Nat) ∧ St wq (w.heap.size + 1) w.heap.size 64 x ∧ There wq w1.heap.size x ∧ Below w.heap.size w wq) (fun _ i _ => 64 - (intOf i).toNat)
      case atStart => exact ⟨0, Nat.zero_le _, rfl, rfl, HST.out, HTH.out, hbel⟩
      case round =>
        clear HST HTH
        obtain ⟨q, hq, rfl, rfl, hst, hth, hbel4⟩ := hrel
        have hcl := cin_le x q
        by_cases hq64 : q < 64
        · have tq := hth.cell hq64
          have HC : Hid (cin x (q + 1) = cin x q + if (q : Int) ∈ x then 1 else 0) := rfl
          have HST := Lib.hid hst
          have HTH := Lib.hid hth
          clear hst hth
          cases hm : decide ((q : Int) ∈ x)
          · rw [hm] at tq
            have HM := Lib.hid hm
            have hm' : (q : Int) ∉ x := of_decide_eq_false hm
            rw [if_neg hm', Nat.add_zero] at HC
            clear hm hm'
            go_wp2_with fail
            go_quiet ((go_at_call 40; exact Calls.quiet_of_same (has_at _ _ _ _ _ _ _ HST.out HM.out)))
            go_wp2_with fail
            go_roundw
            case rel => exact ⟨q + 1, by omega, by go_num, by rw [HC.out, Nat.add_zero], HST.out, HTH.out, below_drewN hbel4 _⟩
            case measure => simp [intOf]; omega
          · rw [hm] at tq
            have HM := Lib.hid hm
            have hm' : (q : Int) ∈ x := of_decide_eq_true hm
            rw [if_pos hm'] at HC
            clear hm hm'
            go_wp2_with fail
            go_quiet ((go_at_call 40; exact Calls.quiet_of_same (has_at _ _ _ _ _ _ _ HST.out HM.out)))
            go_wp2_with fail
            go_roundw
            case rel => exact ⟨q + 1, by omega, by go_num, by rw [HC.out]; go_num, HST.out, HTH.out, below_drewN hbel4 _⟩
            case measure => simp [intOf]; omega
        · obtain rfl : q = 64 := by omega
          rw [HCA.out]
          have HL2 := Lib.hid (len_any _ _ _ _ _ hst)
          clear hst hth
          go_wp2_with (first | (go_at_call 36; refine (alive_any _).mono ?_; rintro e w' ⟨rfl, hb⟩) | (go_at_call 41; refine HL2.out.mono ?_; rintro e w' ⟨rfl, rfl⟩))
          go_ret
          exact ⟨rfl, below_below hbel4 hb⟩

end Go.Proofs.Ytoeepfhkedfmiaa.Idle
