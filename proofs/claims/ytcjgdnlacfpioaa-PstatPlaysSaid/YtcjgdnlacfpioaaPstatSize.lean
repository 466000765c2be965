/- Chapter 19: the contracts of New and Resize. -/
import Derived.Test.YtcjgdnlacfpioaaPstatTurn
import Derived.Deep.LoopGhost
namespace Go.Proofs.Ytcjgdnlacfpioaa.Pstat
open Go.RowKit Go.Esc
set_option linter.unusedVariables false

theorem info74 : (Try.prog.info? 74).map (fun i => (i.zero, i.size, i.bytes)) = some (some (.agg #[.int .i64 0, .int .i64 0]), 2, 16) := by kernel_rfl
theorem new2 (w : World) (x y : Value) (t : TypeId) : ∀ (j : Nat) (u : Value), [x, y][j]? = some u → (w.alloc (.cells #[x, y] t)).cell? ((⟨w.heap.size, 0, none⟩ : Addr).add j) = some u := by
  intro j u hj
  have hj0 : j < 2 := by have := (List.getElem?_eq_some_iff.1 hj).1; simpa using this
  rw [Go.WideShapes.add_plain, (Blk.new w #[x, y] t).cell, Nat.zero_add]
  simpa using hj
theorem one2 (a b : Int) : ∀ x ∈ ([.int .i64 a, .int .i64 b] : List Value), x.oneCell' = true := by
  intro x hx
  simp at hx
  rcases hx with rfl | rfl <;> rfl
theorem Tb.more {w w' : World} {t : Nat} {tv tv' : Value} {l : List Pr} {a b : Int} {tmp : Obj} (h : Tb w t tv l) (hA : AppdV (w.alloc tmp) (t + 1) 74 2 tv l.length (ys l) [.int .i64 a, .int .i64 b] tv' w') :
    Blk w' t #[tv] 72 ∧ Tb (w'.setCell ⟨t, 0, none⟩ tv') t tv' (l ++ [(a, b)]) ∧ Only (Tf t tv) w (w'.setCell ⟨t, 0, none⟩ tv') ∧ ∀ j, Tf t tv' j → Tf t tv j ∨ w.heap.size ≤ j := by
  obtain ⟨ho, hg, hx⟩ := hA
  have hb : Blk w' t #[tv] 72 := (h.blk.alloc tmp).kept hg (fun e => h.off e.symm)
  have hne : tv'.ownBlock ≠ some t := fun e => by have := (World.ownsRow.lt ho t e).1; omega
  refine ⟨hb, ⟨hb.set 0 tv', ?_⟩, (((Only.refl (Tf t tv) w).alloc tmp).grown hg (fun k e => .inr (.inr e))).set (.inr (.inl rfl)) _ _, fun j hj => ?_⟩
  · have := World.ownsRow.kept ho (grown_set w' t 0 tv') (.inr hne)
    rw [List.length_append, ys_append]
    exact this
  · rcases hj with hj | hj
    · exact .inl (.inl hj)
    · rcases hx j hj with h' | h'
      · exact .inl (.inr h')
      · exact .inr (by simp at h'; omega)

def NewT (m : Nat) (w : World) (e : Ending) (w' : World) : Prop := e = .returned (.pointer (some ⟨w.heap.size, 0, none⟩)) ∧ ∃ tv, Tb w' w.heap.size tv (List.replicate m (0, -1)) ∧ Below w.heap.size w w'
set_option maxHeartbeats 2000000 in
theorem new_good (m : Nat) (w : World) (h1 : 1 ≤ m) (h2 : m ≤ 256) : Calls Try.prog 25 #[.int .i64 m] w (NewT m w) := by
  have HI := Lib.hid (is_any m w)
  rw [decide_eq_true ⟨by omega, by omega⟩] at HI
  have HT0 : Hid (Tb (w.alloc (.cells #[.slice none 0 0] 72)) w.heap.size (.slice none 0 0) []) := ⟨Blk.new w _ 72, World.ownsRow_nil _ _ 74 2⟩
  go_enter Try.func25, Try.ntmps25
  go_wp2_with fail
  refine HI.out.mono ?_
  rintro e w1 ⟨rfl, rfl⟩
  go_wp2_with fail
  go_loopw [10] (fun i wr => ∃ (k : Nat) (tv : Value), k ≤ m ∧ i = .int .i64 k ∧ Tb wr w.heap.size tv (List.replicate k (0, -1)) ∧ Below w.heap.size w wr) (fun i _ => m - (intOf i).toNat)
  case atStart => exact ⟨0, _, Nat.zero_le _, rfl, HT0.out, below_alloc (Below.refl _ _) _⟩
  case round =>
    obtain ⟨k, tv, hk, rfl, hT, hB⟩ := hrel
    have c0 := hT.blk.cell 0
    have hbl := hT.blk.lt
    simp only [List.getElem?_toArray, List.getElem?_cons_zero] at c0
    have HT := Lib.hid hT
    have HB := Lib.hid hB
    clear hT hB HT0
    by_cases hlt : k < m
    · have hd : decide (k < m) = true := by simpa using hlt
      have HLen : Hid ((List.replicate k ((0, -1) : Pr)).length = k) := List.length_replicate
      have HOwn : Hid (Rdv (wr.alloc (.cells #[.int .i64 0, .int .i64 (-1)] 74)) (w.heap.size + 1) 74 2 tv (List.replicate k ((0, -1) : Pr)).length (ys (List.replicate k (0, -1)))) := .inl (rowv_below HT.out.own (below_alloc (Below.refl _ _) _))
      go_wp2_with (at_builtin; refine appV Try.underlying70 info74 rfl (by decide) (by decide) (w.heap.size + 1) _ rfl _ _ rfl tv _ _ ⟨wr.heap.size, 0, none⟩ 1 [.int .i64 0, .int .i64 (-1)] rfl rfl HOwn.out rfl (new2 wr _ _ 74) (one2 _ _) (by simp; omega) (by rw [HLen.out]; omega) ?_; intro v' w' hA; obtain ⟨g', cap', rfl⟩ := hA.some; obtain ⟨hb', hT', hO', hG'⟩ := HT.out.more hA; have q0 := hb'.cell 0; have qf := hb'.free 0; have hql := hb'.lt; simp only [List.getElem?_toArray, List.getElem?_cons_zero] at q0; rw [HLen.out] at hT' hO'; have HT' := Lib.hid hT'; have HO' := Lib.hid hO'; clear hA hb' hT' hO' hG')
      go_roundw
      case rel =>
        refine ⟨k + 1, .slice (some ⟨g', 0, none⟩) (k + 1) cap', by omega, by go_num, ?_, ?_⟩
        · rw [List.replicate_succ']; exact HT'.out
        · exact below_only HB.out HO'.out (fun j hj => HT.out.ge hj)
      case measure => simp [intOf]; omega
    · have hd : decide (k < m) = false := by simpa using hlt
      obtain rfl : k = m := by omega
      go_wp2
      go_ret
      exact ⟨rfl, tv, HT.out, HB.out⟩
theorem new_bad (n : Int) (w : World) (h : ¬ (1 ≤ n ∧ n ≤ 256)) : Calls Try.prog 25 #[.int .i64 n] w fun e w' => e = .returned (.pointer none) ∧ w = w' := by
  have HI := Lib.hid (is_any n w)
  rw [decide_eq_false h] at HI
  clear h
  go_enter Try.func25, Try.ntmps25
  go_wp2_with fail
  refine HI.out.mono ?_
  rintro e w1 ⟨rfl, rfl⟩
  go_wp2_with fail
  go_ret
  exact ⟨rfl, rfl⟩

/-- What Resize makes of a table. -/
def stepR (n : Nat) (i : Nat) (x : Pr) : Pr := if n ≤ i then (4, -1) else if x.1 = 4 then (3, -1) else x
def upto (n k : Nat) (l : List Pr) : List Pr := l.mapIdx (fun i x => if i < k then stepR n i x else x)
def wide (l : List Pr) (n : Nat) : List Pr := l ++ List.replicate (n - l.length) (4, -1)
def resL (l : List Pr) (n : Nat) : List Pr := upto n (wide l n).length (wide l n)
theorem upto_zero (n : Nat) (l : List Pr) : upto n 0 l = l := by
  apply List.ext_getElem?
  intro i
  simp [upto]
theorem upto_len (n k : Nat) (l : List Pr) : (upto n k l).length = l.length := by simp [upto]
theorem upto_at (n k : Nat) (l : List Pr) (i : Nat) (h : k ≤ i) : (upto n k l)[i]?.getD pz = l[i]?.getD pz := by
  simp only [upto, List.getElem?_mapIdx]
  cases l[i]? with
  | none => rfl
  | some x => simp [show ¬ i < k by omega]
theorem upto_succ (n k : Nat) (l : List Pr) (h : k < l.length) : upto n (k + 1) l = (upto n k l).set k (stepR n k (l[k]?.getD pz)) := by
  apply List.ext_getElem?
  intro i
  rw [List.getElem?_set]
  simp only [upto, List.getElem?_mapIdx, List.length_mapIdx]
  by_cases e : k = i
  · subst e
    simp [h]
  · rw [if_neg e]
    cases hl : l[i]? with
    | none => rfl
    | some x =>
      simp only [Option.map_some]
      by_cases e2 : i < k
      · rw [if_pos e2, if_pos (by omega)]
      · rw [if_neg e2, if_neg (by omega)]
theorem set_self (l : List Pr) (k : Nat) (h : k < l.length) : l.set k (l[k]?.getD pz) = l := by
  apply List.ext_getElem?
  intro i
  rw [List.getElem?_set]
  by_cases e : k = i
  · subst e; simp [h]
  · rw [if_neg e]

/-- May the table come to have another length? -/
def resOk (l : List Pr) : Prop := (cnt 3 l : Int) = lenT l
instance (l : List Pr) : Decidable (resOk l) := by unfold resOk; infer_instance
/-- How the table is, and what has turned. -/
structure Go (t : Nat) (tv : Value) (w : World) (tv' : Value) (l' : List Pr) (w' : World) : Prop where
  tb : Tb w' t tv' l'
  only : Only (Tf t tv) w w'
  gr : ∀ j, Tf t tv' j → Tf t tv j ∨ w.heap.size ≤ j
theorem Go.refl {t : Nat} {tv : Value} {w : World} {l : List Pr} (h : Tb w t tv l) : Go t tv w tv l w := ⟨h, Only.refl _ _, fun j hj => .inl hj⟩
theorem Go.below {t : Nat} {tv tv' : Value} {w w' w'' : World} {l' : List Pr} (h : Go t tv w tv' l' w') (hb : Below w'.heap.size w' w'') : Go t tv w tv' l' w'' := ⟨h.tb.below hb, h.only.below hb, h.gr⟩
theorem Go.trans {t : Nat} {tv tv' tv'' : Value} {w w' w'' : World} {l' l'' : List Pr} (h : Go t tv w tv' l' w') (ht : Tb w'' t tv'' l'') (ho : Only (Tf t tv') w' w'') (hg : ∀ j, Tf t tv'' j → Tf t tv' j ∨ w'.heap.size ≤ j) : Go t tv w tv'' l'' w'' :=
  ⟨ht, h.only.andThen ho (fun j hj hs => (h.gr j hs).elim id (fun x => by omega)), fun j hj => (hg j hj).elim (h.gr j) (fun x => .inr (Nat.le_trans h.only.size x))⟩
theorem Go.put {t g n cap : Nat} {tv : Value} {w w' : World} {l' : List Pr} (h : Go t tv w (.slice (some ⟨g, 0, none⟩) n cap) l' w') (i : Nat) (hi : i < l'.length) (x : Pr) :
    Go t tv w (.slice (some ⟨g, 0, none⟩) n cap) (l'.set i x) ((w'.setCell ⟨g, i * 2, none⟩ (.int .i64 x.1)).setCell ⟨g, i * 2 + 1, none⟩ (.int .i64 x.2)) :=
  h.trans (h.tb.put i hi x) (((Only.refl (Tf t (.slice (some ⟨g, 0, none⟩) n cap)) w').set (.inr (.inr rfl)) _ _).set (.inr (.inr rfl)) _ _) (fun j hj => .inl hj)

def GoP (t : Nat) (tv : Value) (l' : List Pr) (f : Int) (w : World) (e : Ending) (w' : World) : Prop := e = .returned (.int .i64 f) ∧ ∃ tv', Go t tv w tv' l' w'

theorem resize_nil (n : Int) (w : World) : Calls Try.prog 48 #[.pointer none, .int .i64 n] w fun e w' => e = .returned (.int .i64 1) ∧ w = w' := by
  go_enter Try.func48, Try.ntmps48
  go_wp2
  go_ret
  exact ⟨rfl, rfl⟩
theorem resize_bad (n : Int) (t : Nat) (w : World) (h : ¬ (1 ≤ n ∧ n ≤ 256)) : Calls Try.prog 48 #[.pointer (some ⟨t, 0, none⟩), .int .i64 n] w fun e w' => e = .returned (.int .i64 2) ∧ w = w' := by
  have HI := Lib.hid (is_any n w)
  rw [decide_eq_false h] at HI
  clear h
  go_enter Try.func48, Try.ntmps48
  go_wp2_with fail
  refine HI.out.mono ?_
  rintro e w1 ⟨rfl, rfl⟩
  go_wp2_with fail
  go_ret
  exact ⟨rfl, rfl⟩

set_option maxRecDepth 100000 in
set_option maxHeartbeats 4000000 in
theorem resize_any (t : Nat) (tv : Value) (l : List Pr) (n : Nat) (w : World) (h : Tb w t tv l) (h1 : 1 ≤ n) (h2 : n ≤ 256) (hl : l.length ≤ 256) :
    Calls Try.prog 48 #[.pointer (some ⟨t, 0, none⟩), .int .i64 n] w (GoP t tv (if resOk l then resL l n else l) (if resOk l then 0 else 9) w) := by
  have HI := Lib.hid (is_any n w)
  rw [decide_eq_true ⟨by omega, by omega⟩] at HI
  have HC : Hid (Calls Try.prog 32 #[.pointer (some ⟨t, 0, none⟩), .int .i64 3] w (CntP (cnt 3 l) w)) := count_any t tv l 3 w h (by omega)
  have HH := Lib.hid h
  clear h
  by_cases hok : resOk l
  · rw [if_pos hok, if_pos hok]
    have HOk : Hid ((cnt 3 l : Int) = lenT l) := hok
    clear hok
    go_enter Try.func48, Try.ntmps48
    go_wp2_with fail
    refine HI.out.mono ?_
    rintro e w1 ⟨rfl, rfl⟩
    go_wp2_with fail
    refine HC.out.mono ?_
    rintro e w1 ⟨rfl, hb1⟩
    have HG1 := Lib.hid ((Go.refl HH.out).below hb1)
    have HLn := Lib.hid (len_any t tv l w1 HG1.out.tb (by omega))
    rw [HOk.out]
    generalize lenT l = z at *
    have hzz : (z != z) = false := by simp
    clear hb1
    go_wp2_with fail
    refine HLn.out.mono ?_
    rintro e w2 ⟨rfl, hb2⟩
    have HG2 := Lib.hid (HG1.out.below hb2)
    clear hb2
    go_wp2_with fail
    go_loopg [20] (n - l.length) (fun gk _ wr => ∃ tv' l', Go t tv w tv' l' wr ∧ l' = l ++ List.replicate (n - l.length - gk) (4, -1) ∧ gk ≤ n - l.length)
    case atStart => exact ⟨tv, l, HG2.out, by simp, Nat.le_refl _⟩
    case round =>
      obtain ⟨tv1, l1, hG, hl1, hgk⟩ := hrel
      have hll : l1.length = l.length + (n - l.length - gk) := by rw [hl1]; simp
      obtain ⟨a, cap, rfl⟩ := hG.tb.slice
      have c0 := hG.tb.blk.cell 0
      have hbl := hG.tb.blk.lt
      simp only [List.getElem?_toArray, List.getElem?_cons_zero] at c0
      have HG := Lib.hid hG
      have HL1 := Lib.hid hl1
      cases gk with
      | succ j =>
        have hd : decide (l1.length < n) = true := by simp; omega
        have HOwn : Hid (Rdv (wr.alloc (.cells #[.int .i64 4, .int .i64 (-1)] 74)) (t + 1) 74 2 (.slice a l1.length cap) l1.length (ys l1)) := .inl (rowv_below HG.out.tb.own (below_alloc (Below.refl _ _) _))
        have HLn : Hid (l1.length < 100000000) := by show _ < _; omega
        have HNl : Hid (l1 ++ [(4, -1)] = l ++ List.replicate (n - l.length - j) (4, -1)) := by
          show _ = _
          rw [hl1, show n - l.length - j = (n - l.length - (j + 1)) + 1 by omega, List.replicate_succ', List.append_assoc]
        obtain ⟨nn, HNn⟩ : ∃ nn, Hid (l1.length = nn) := ⟨_, rfl⟩
        have htw : t + 1 ≤ wr.heap.size := by omega
        rw [HNn.out] at c0 hd HOwn HG HLn
        clear hG hl1 hll
        go_wp2_with (at_builtin; refine appV Try.underlying70 info74 rfl (by decide) (by decide) (t + 1) _ rfl _ _ rfl (.slice a nn cap) nn (ys l1) ⟨wr.heap.size, 0, none⟩ 1 [.int .i64 4, .int .i64 (-1)] rfl rfl HOwn.out rfl (new2 wr _ _ 74) (one2 _ _) (by simp; omega) HLn.out ?_; intro v' w' hA; rw [← HNn.out] at hA; obtain ⟨g', cap', rfl⟩ := hA.some; obtain ⟨hb', hT', hO', hG'⟩ := Tb.more (by rw [HNn.out]; exact HG.out.tb) hA; rw [HNn.out] at hb' hT' hO' hG'; have q0 := hb'.cell 0; have qf := hb'.free 0; have hql := hb'.lt; simp only [List.getElem?_toArray, List.getElem?_cons_zero] at q0; have HG' := Lib.hid (HG.out.trans hT' hO' hG'); rw [HNn.out]; clear hA hb' hT' hO' hG')
        go_roundg j
        case rel => exact ⟨_, _, HG'.out, HNl.out, by omega⟩
        case measure => omega
      | zero =>
        have hd : decide (l1.length < n) = false := by simp; omega
        have HWd : Hid (wide l n = l1) := by show _ = _; rw [hl1]; simp [wide]
        have hn1 : n ≤ l1.length := by omega
        have hl1b : l1.length ≤ 256 := by omega
        clear hG hl1 hll
        go_wp2_with fail
        go_loopw [42] (fun i wr => ∃ (k : Nat) (cap2 : Nat) (g2 : Nat), k ≤ l1.length ∧ i = .int .i64 k ∧ Go t tv w (.slice (some ⟨g2, 0, none⟩) l1.length cap2) (upto n k l1) wr) (fun i _ => l1.length - (intOf i).toNat)
        case atStart =>
          obtain ⟨g, ha⟩ : ∃ g, a = some ⟨g, 0, none⟩ := by obtain ⟨_, g, ha, _⟩ := HG.out.tb.at 0 (by omega); exact ⟨g, ha⟩
          subst ha
          exact ⟨0, cap, g, Nat.zero_le _, rfl, by rw [upto_zero]; exact HG.out⟩
        case round =>
          obtain ⟨k, cap2, g2, hk, rfl, hG2⟩ := hrel
          by_cases hlt : k < l1.length
          · have hd2 : decide (k < l1.length) = true := by simpa using hlt
            have hkl : k < (upto n k l1).length := by rw [upto_len]; exact hlt
            have y0 := hG2.tb.blk.cell 0
            have hyl := hG2.tb.blk.lt
            simp only [List.getElem?_toArray, List.getElem?_cons_zero] at y0
            obtain ⟨ez, g3, eg, z0, z1⟩ := hG2.tb.at k hkl
            simp only [Option.some.injEq, Addr.mk.injEq] at eg
            obtain ⟨rfl, _⟩ := eg
            rw [upto_at n k l1 k (Nat.le_refl _)] at z0 z1
            have hf0 := (hG2.tb.free (k * 2)).1
            have hf1 := (hG2.tb.free (k * 2 + 1)).1
            have hgl := (hG2.tb.free 0).2
            have HSu := Lib.hid (upto_succ n k l1 hlt)
            have HSs := Lib.hid (set_self (upto n k l1) k hkl)
            rw [upto_at n k l1 k (Nat.le_refl _)] at HSs
            have HG3 := Lib.hid hG2
            have HPut := Lib.hid (fun x => hG2.put k hkl x)
            have hki : (k : Int) < (l1.length : Int) := by omega
            clear hG2 ez hkl
            by_cases hkn : n ≤ k
            · have hd3 : decide (n ≤ k) = true := by simpa using hkn
              have HSt : Hid (stepR n k (l1[k]?.getD pz) = (4, -1)) := by show _ = _; unfold stepR; rw [if_pos hkn]
              rw [HSt.out] at HSu
              generalize l1.length = ll at *
              go_wp2_with fail
              go_roundw
              case rel => exact ⟨k + 1, cap2, g2, by omega, by go_num, by rw [HSu.out]; exact HPut.out (4, -1)⟩
              case measure => simp [intOf]; omega
            · have hd3 : decide (n ≤ k) = false := by simpa using hkn
              have HSt : Hid (stepR n k (l1[k]?.getD pz) = if (l1[k]?.getD pz).1 = 4 then (3, -1) else l1[k]?.getD pz) := by show _ = _; unfold stepR; rw [if_neg hkn]
              rw [HSt.out] at HSu
              by_cases h4 : (l1[k]?.getD pz).1 = 4
              · rw [if_pos h4] at HSu
                rw [h4] at z0
                clear h4 HSt HSs
                generalize (l1[k]?.getD pz).2 = yy at *
                generalize l1.length = ll at *
                go_wp2_with fail
                go_roundw
                case rel => exact ⟨k + 1, cap2, g2, by omega, by go_num, by rw [HSu.out]; exact HPut.out (3, -1)⟩
                case measure => simp [intOf]; omega
              · rw [if_neg h4, HSs.out] at HSu
                have hb4 : ((l1[k]?.getD pz).1 == 4) = false := by rw [beq_eq_false_iff_ne]; exact h4
                clear h4 HSt HSs
                generalize (l1[k]?.getD pz).1 = y1 at *
                generalize (l1[k]?.getD pz).2 = y2 at *
                generalize l1.length = ll at *
                go_wp2_with fail
                go_roundw
                case rel => exact ⟨k + 1, cap2, g2, by omega, by go_num, by rw [HSu.out]; exact HG3.out⟩
                case measure => simp [intOf]; omega
          · have hd2 : decide (k < l1.length) = false := by simpa using hlt
            obtain rfl : k = l1.length := by omega
            have HE := Lib.hid hG2
            clear hG2
            go_wp2_with fail
            go_ret
            exact ⟨rfl, _, by unfold resL; rw [HWd.out]; exact HE.out⟩
  · rw [if_neg hok, if_neg hok]
    have HOk : Hid (((cnt 3 l : Int) != lenT l) = true) := by show _ = _; simpa [resOk] using hok
    clear hok
    go_enter Try.func48, Try.ntmps48
    go_wp2_with fail
    refine HI.out.mono ?_
    rintro e w1 ⟨rfl, rfl⟩
    go_wp2_with fail
    refine HC.out.mono ?_
    rintro e w1 ⟨rfl, hb1⟩
    have HG1 := Lib.hid ((Go.refl HH.out).below hb1)
    have HLn := Lib.hid (len_any t tv l w1 HG1.out.tb (by omega))
    generalize lenT l = z at *
    generalize (cnt 3 l : Int) = z3 at *
    have hzz := HOk.out
    clear hb1
    go_wp2_with fail
    refine HLn.out.mono ?_
    rintro e w2 ⟨rfl, hb2⟩
    have HG2 := Lib.hid (HG1.out.below hb2)
    clear hb2
    go_wp2_with fail
    go_ret
    exact ⟨rfl, _, HG2.out⟩
end Go.Proofs.Ytcjgdnlacfpioaa.Pstat
