/- Chapter 16: GlobPlays, the walk. -/
import Derived.Test.YtgahkcbkpnehfaaGlobActC
import Derived.Test.YtgahkcbkpnehfaaGlobLight
namespace Go.Proofs.Ytgahkcbkpnehfaa.Glob
open Go.RowKit Go.Esc
set_option linter.unusedVariables false

theorem act_batch (w0 w : World) (b : Nat) (lv : Value) (L : List Int) (S : Nat → Prop) (A B : Int) (u : Value) (h : St w0 w b lv L S) (hl : L.length < 10000) :
    Calls Try.prog 31 #[.pointer (some ⟨b, 0, none⟩), lv, .agg #[.int .i64 3, .int .i64 A, .int .i64 B, u]] w (ActP w0 b (L.drop (manyZ L.length A B).toNat)) := by
  have h' := h.below (below_alloc (Below.refl _ w) (.cells #[.int .i64 3, .int .i64 A, .int .i64 B, u] 48))
  have hS : ¬ S w.heap.size := fun hs => Nat.lt_irrefl _ (h.queue.lt hs)
  have hm := many_le L.length A B (by omega)
  obtain ⟨N, hN⟩ := Int.eq_ofNat_of_zero_le hm.1
  have hle : N ≤ L.length := by omega
  rw [hN, Int.toNat_natCast]
  clear h hm
  rcases h'.lst.open with ⟨rfl, rfl⟩ | ⟨ad, cap, rfl, rfl⟩ | ⟨bu, o, cap, rfl, hne, hcap, hbu, hcells⟩
  · obtain rfl : N = 0 := by simpa using hle
    exact batch_nil w0 w b [] S A B u hN rfl ⟨h', Slw.nil _, Slw.nil _, fun h => absurd rfl h, fun h => absurd rfl h⟩ hl hS
  · obtain rfl : N = 0 := by simpa using hle
    by_cases hc : cap = 0
    · subst hc
      exact batch_none w0 w b ad [] S A B u hN rfl ⟨h', Slw.none0 _ _ _, Slw.none0 _ _ _, fun h => absurd rfl h, fun h => absurd rfl h⟩ hl hS
    · exact batch_some w0 w b ad cap [] S A B u hN rfl ⟨h', Slw.none0 _ _ _, Slw.none0 _ _ _, fun h => absurd rfl h, fun h => absurd rfl h⟩ hl hS hc
  · have ho := h'.off hne
    have hpos : 0 < L.length := List.length_pos_iff.2 hne
    by_cases hc : cap = N
    · have hLN : L.length = N := by omega
      have hd : L.drop N = [] := List.drop_eq_nil_of_le (by omega)
      have ht : L.take N = L := List.take_of_length_le (by omega)
      have hl' := h'.lst
      subst hc
      rw [hLN] at h' hN hl' ho ⊢
      exact batch_whole w0 w b bu o cap L S A B u hN hLN ⟨h', by rw [hd]; exact Slw.none0 _ _ _, by rw [ht]; exact hl', fun h => absurd hd h, fun _ => ho⟩ hl hS (by omega)
    · exact batch_cut w0 w b bu o cap L.length N L S A B u hN rfl ⟨h', h'.lst.drop N hle rfl (by omega), h'.lst.take N hle, fun _ => ho, fun _ => ho⟩ hl hS hle hcap hc (by omega)

def actL (kind A B : Int) (l L : List Int) : List Int := if kind = 0 then L ++ right l else if kind = 1 then right l ++ L else if kind = 2 then L.tail else if kind = 3 then L.drop (manyZ L.length A B).toNat else L.erase A
theorem actL_len (kind A B : Int) (l L : List Int) : (actL kind A B l L).length ≤ L.length + l.length := by
  have hr := right_len l
  unfold actL
  split
  · simp; omega
  · split
    · simp; omega
    · split
      · simp; omega
      · split
        · simp; omega
        · have := List.length_erase_le (a := A) (l := L); omega
theorem act_any (w0 w : World) (b : Nat) (lv : Value) (L : List Int) (S : Nat → Prop) (kind A B : Int) (u : Value) (l : List Int) (h : St w0 w b lv L S) (hu : Slw w0 u l) (hl : L.length + l.length < 10000) :
    Calls Try.prog 31 #[.pointer (some ⟨b, 0, none⟩), lv, .agg #[.int .i64 kind, .int .i64 A, .int .i64 B, u]] w (ActP w0 b (actL kind A B l L)) := by
  unfold actL
  by_cases k0 : kind = 0
  · subst k0; exact act_put w0 w b lv L S A B u l h hu hl
  rw [if_neg k0]
  by_cases k1 : kind = 1
  · subst k1; exact act_front w0 w b lv L S A B u l h hu hl
  rw [if_neg k1]
  by_cases k2 : kind = 2
  · subst k2; exact act_get w0 w b lv L S A B u h (by omega)
  rw [if_neg k2]
  by_cases k3 : kind = 3
  · subst k3; exact act_batch w0 w b lv L S A B u h (by omega)
  rw [if_neg k3]
  exact act_rem w0 w b lv L S kind A B u h (by omega) (by omega)

theorem St.start (w : World) : St w (w.alloc (.cells #[.slice none 0 0, .slice none 0 0] 75)) w.heap.size (.slice none 0 0) [] (fun j => j = w.heap.size) :=
  ⟨Queue.new w, Slw.nil _, fun h => absurd rfl h, fun j hj => by have : j = w.heap.size := hj; omega, below_alloc (Below.refl _ _) _⟩

set_option maxRecDepth 100000 in
set_option maxHeartbeats 4000000 in
theorem plays (w : World) (a : Option Addr) (len cap : Nat) (f : Nat → Nat → Int) (v : Nat → Value) (l : Nat → List Int) (hr : ARow w a len 3 f v l) :
    Calls Try.prog 6 #[.slice a len cap] w fun e w' => e = .returned (.bool true) ∧ Below w.heap.size w w' := by
  by_cases hc : len ≤ 60 ∧ ∀ i, i < len → (l i).length ≤ 30
  · have HL := Lib.hid (light_yes w a len cap f v l hr hc)
    obtain ⟨hlen, hll⟩ := hc
    have HLL := Lib.hid hll
    have HRow := Lib.hid hr
    clear hll hr
    go_enter Try.func6, Try.ntmps6
    go_wp2_with fail
    refine HL.out.mono ?_
    rintro e w1 ⟨rfl, rfl⟩
    go_wp2_with fail
    refine (new_any w).mono ?_
    rintro e w1 ⟨rfl, hw1⟩
    have HS := Lib.hid (St.start w)
    rw [hw1] at HS
    obtain ⟨b, hb⟩ : ∃ b, b = w.heap.size := ⟨_, rfl⟩
    rw [← hb] at HS ⊢
    generalize (fun j => j = b : Nat → Prop) = S0 at *
    clear hb hw1 HL
    go_wp2_with fail
    go_loopw [4, 5] (fun lv i wr => ∃ (k : Nat) (L : List Int) (S : Nat → Prop), k ≤ len ∧ i = .int .i64 k ∧ St w wr b lv L S ∧ L.length ≤ 30 * k) (fun _ i _ => len - (intOf i).toNat)
    case atStart => exact ⟨0, [], S0, Nat.zero_le _, rfl, HS.out, by simp⟩
    case round =>
      obtain ⟨k, L, S, hk, rfl, hB, hLl⟩ := hrel
      clear HS
      by_cases hlt : k < len
      · rcases HRow.out with h0 | ⟨ba, off, rfl, hbl, hml, hcell, hwf, hs⟩
        · omega
        have cA0 := (hB.bel.cell (p := ⟨ba, off + (k * (3 + 1) + 0), none⟩) hbl).trans (hcell k 0 hlt (by omega))
        have cA1 := (hB.bel.cell (p := ⟨ba, off + (k * (3 + 1) + 1), none⟩) hbl).trans (hcell k 1 hlt (by omega))
        have cA2 := (hB.bel.cell (p := ⟨ba, off + (k * (3 + 1) + 2), none⟩) hbl).trans (hcell k 2 hlt (by omega))
        obtain ⟨cA3, hsl⟩ := hs k hlt
        replace cA3 := (hB.bel.cell (p := ⟨ba, off + (k * (3 + 1) + 3), none⟩) hbl).trans cA3
        have hlk := HLL.out k hlt
        rw [← Nat.add_assoc] at cA1 cA2 cA3
        simp only [Nat.reduceAdd, Nat.add_zero] at cA0 cA1 cA2 cA3
        have HSl := Lib.hid hsl
        generalize f k 0 = x0 at *
        generalize f k 1 = x1 at *
        generalize f k 2 = x2 at *
        generalize v k = u at *
        generalize l k = l0 at *
        have hal := actL_len x0 x1 x2 l0 L
        have HA := Lib.hid (act_any w wr b _ L S x0 x1 x2 u l0 hB hsl (by omega))
        generalize actL x0 x1 x2 l0 L = M at *
        clear hB hs hcell hwf hsl
        have hki : (k : Int) < (len : Int) := by omega
        go_wp2_with fail
        refine HA.out.mono ?_
        rintro e w2 ⟨lv2, S2, rfl, hB2⟩
        obtain ⟨a2, c2, rfl⟩ := hB2.lst.len
        have HB2 := Lib.hid hB2
        have hnn : ((M.length : Int) != (M.length : Int)) = false := by simp
        have hMl : M.length < 100000 := by omega
        have HLen := Lib.hid (len_any b S2 M w2 hB2.queue (by omega))
        clear hB2
        go_wp2_with fail
        refine HLen.out.mono ?_
        rintro e w3 ⟨rfl, n3, rfl⟩
        go_wp2_with fail
        refine (list_any b S2 M _ (HB2.out.queue.drewN n3) (by omega)).mono ?_
        rintro e w4 ⟨v4, rfl, ho4, hb4⟩
        have HF := Lib.hid ((HB2.out.drewN n3).below hb4)
        have HO4 := Lib.hid ho4
        clear ho4 hb4
        go_wp2_with fail
        refine (Ref.same_yes _ _ _ _ (Sl.ofOwn HO4.out) HF.out.lst.sl).mono ?_
        rintro e w5 ⟨rfl, n5, rfl⟩
        go_wp2_with fail
        go_roundw
        case rel => exact ⟨k + 1, M, S2, by omega, by go_num, HF.out.drewN n5, by omega⟩
        case measure => simp [intOf]; omega
      · obtain rfl : k = len := by omega
        have HB := Lib.hid hB
        clear hB
        go_wp2_with fail
        refine (alive_any _).mono ?_
        rintro e w5 ⟨rfl, hb5⟩
        go_wp2_with fail
        go_ret
        exact ⟨rfl, below_below HB.out.bel hb5⟩
  · have HL := Lib.hid (light_no w a len cap f v l hr hc)
    clear hr hc
    go_enter Try.func6, Try.ntmps6
    go_wp2_with (first | (go_at_call 30; refine HL.out.mono ?_; rintro e w' ⟨rfl, rfl⟩) | (go_at_call 15; refine (alive_any _).mono ?_; rintro e w' ⟨rfl, hb⟩))
    go_ret
    exact ⟨rfl, hb⟩
end Go.Proofs.Ytgahkcbkpnehfaa.Glob
