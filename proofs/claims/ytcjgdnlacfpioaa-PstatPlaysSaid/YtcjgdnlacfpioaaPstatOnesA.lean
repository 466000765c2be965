/- Chapter 19: for PstatOnes: light, and plain laws. -/
import Derived.Test.YtcjgdnlacfpioaaPstatAct
import Derived.Test.YtcjgdnlacfpioaaAppX
namespace Go.Proofs.Ytcjgdnlacfpioaa.Pstat
open Go.RowKit Go.Esc
set_option linter.unusedVariables false

def LiP (len : Nat) (f : Nat → Nat → Int) (w : World) (e : Ending) (w' : World) : Prop := ∃ b : Bool, e = .returned (.bool b) ∧ w = w' ∧ (b = true → len ≤ 60 ∧ ∀ i, i < len → 0 ≤ f i 0 ∧ f i 0 ≤ 6)
set_option maxHeartbeats 2000000 in
theorem light_any (w : World) (a : Option Addr) (len cap : Nat) (f : Nat → Nat → Int) (hr : Row w a len 3 f) : Calls Try.prog 23 #[.slice a len cap] w (LiP len f w) := by
  by_cases h60 : 60 < len
  · have d : decide ((60 : Int) < (len : Int)) = true := by simp; omega
    clear hr
    go_enter Try.func23, Try.ntmps23
    go_wp2
    go_ret
    exact ⟨false, rfl, rfl, fun h => by cases h⟩
  · have d : decide ((60 : Int) < (len : Int)) = false := by simp; omega
    have HRow := Lib.hid hr
    clear hr
    go_enter Try.func23, Try.ntmps23
    go_wp2
    go_loop [3] (fun i => ∃ k : Nat, k ≤ len ∧ i = .int .i64 k ∧ Hid (∀ i, i < k → 0 ≤ f i 0 ∧ f i 0 ≤ 6)) (fun i => len - (intOf i).toNat)
    case atStart => exact ⟨0, Nat.zero_le _, rfl, by show ∀ i, _; intro i hi; omega⟩
    case round =>
      obtain ⟨k, hk, rfl, HF⟩ := hrel
      by_cases hlt : k < len
      · have hd : decide (k < len) = true := by simpa using hlt
        rcases HRow.out with h0 | ⟨ba, off, rfl, hbl, hml, hcell, hwf⟩
        · omega
        have cA0 := hcell k 0 hlt (by omega)
        simp only [Nat.add_zero] at cA0
        have HNx : Hid (0 ≤ f k 0 → f k 0 ≤ 6 → ∀ i, i < k + 1 → 0 ≤ f i 0 ∧ f i 0 ≤ 6) := fun h1 h2 i hi => by
          by_cases e : i = k
          · subst e; exact ⟨h1, h2⟩
          · exact HF.out i (by omega)
        generalize f k 0 = z at *
        clear hcell hwf
        have hki : (k : Int) < (len : Int) := by omega
        by_cases h0 : z < 0
        · have d0 : decide (z < 0) = true := by simpa using h0
          go_wp2
          go_ret
          exact ⟨false, rfl, rfl, fun h => by cases h⟩
        · have d0 : decide (z < 0) = false := by simpa using h0
          by_cases h6 : 6 < z
          · have d6 : decide (6 < z) = true := by simpa using h6
            go_wp2
            go_ret
            exact ⟨false, rfl, rfl, fun h => by cases h⟩
          · have d6 : decide (6 < z) = false := by simpa using h6
            go_wp2
            go_round
            case rel => exact ⟨k + 1, by omega, by go_num, HNx.out (by omega) (by omega)⟩
            case measure => simp [intOf]; omega
      · have hd : decide (k < len) = false := by simpa using hlt
        obtain rfl : k = len := by omega
        go_wp2
        go_ret
        exact ⟨true, rfl, rfl, fun _ => ⟨by omega, HF.out⟩⟩

/-- How many processors a machine has. -/
def cntW (m : Int) (l : List Pr) : Nat := l.countP (fun x => x.2 == m)
def oneEach (l : List Pr) : Prop := ∀ m, 0 ≤ m → cntW m l ≤ 1
theorem cntW_take (m : Int) (l : List Pr) (k : Nat) (h : k < l.length) : cntW m (l.take (k + 1)) = cntW m (l.take k) + (if (l[k]?.getD pz).2 == m then 1 else 0) := by
  unfold cntW
  rw [List.take_succ_eq_append_getElem h, List.countP_append]
  simp [h, List.countP_cons]
theorem cntW_set (m : Int) (x : Pr) (l : List Pr) : ∀ i, i < l.length → cntW m (l.set i x) + (if (l[i]?.getD pz).2 == m then 1 else 0) = cntW m l + (if x.2 == m then 1 else 0) := by
  unfold cntW
  induction l with
  | nil => intro i hi; simp at hi
  | cons y l ih =>
    intro i hi
    cases i with
    | zero => simp [List.countP_cons]; omega
    | succ i =>
      have := ih i (by simpa using hi)
      simp only [List.set_cons_succ, List.countP_cons, List.getElem?_cons_succ] at this ⊢
      omega
theorem getD_lt {l : List Pr} {i : Nat} (h : i < l.length) : l[i]? = some (l[i]?.getD pz) := by simp [h]

/-- An act turns one processor at most, and who has it then. -/
theorem turn_shape (l : List Pr) (p : Int) (X : Int → Int → Pr) (B : Int → Int → Bool) : turnL l p X B = l ∨ ∃ i : Nat, p = i ∧ i < l.length ∧ turnL l p X B = l.set i (X (l[i]?.getD pz).1 (l[i]?.getD pz).2) ∧ B (l[i]?.getD pz).1 (l[i]?.getD pz).2 = true := by
  unfold turnL
  by_cases hp : 0 ≤ p ∧ p < l.length
  · rw [if_pos hp]
    obtain ⟨i, rfl⟩ := Int.eq_ofNat_of_zero_le hp.1
    rw [Int.toNat_natCast]
    by_cases hb : B (l[i]?.getD pz).1 (l[i]?.getD pz).2 = true
    · rw [if_pos hb]; exact .inr ⟨i, rfl, by omega, rfl, hb⟩
    · rw [if_neg hb]; exact .inl rfl
  · rw [if_neg hp]; exact .inl rfl
theorem act_shape (l : List Pr) (kind p m : Int) (h : 0 ≤ kind ∧ kind ≤ 5) : actL l kind p m = l ∨ ∃ (i : Nat) (x : Pr), p = i ∧ i < l.length ∧ actL l kind p m = l.set i x ∧ (x.2 = -1 ∨ x.2 = (l[i]?.getD pz).2 ∨ (kind = 0 ∧ x.2 = m)) := by
  unfold actL
  by_cases k0 : kind = 0
  · rw [if_pos k0]
    unfold byL
    split
    · exact .inl rfl
    · rcases turn_shape l p (fun s wh => (1, m)) (fun s wh => s == 0) with h | ⟨i, h1, h2, h3, _⟩
      · exact .inl h
      · exact .inr ⟨i, _, h1, h2, h3, .inr (.inr ⟨k0, rfl⟩)⟩
  rw [if_neg k0]
  by_cases k1 : kind = 1
  · rw [if_pos k1]
    rcases turn_shape l p (fun s wh => (2, wh)) (fun s wh => s == 1) with h | ⟨i, h1, h2, h3, _⟩
    · exact .inl h
    · exact .inr ⟨i, _, h1, h2, h3, .inr (.inl rfl)⟩
  rw [if_neg k1]
  by_cases k2 : kind = 2
  · rw [if_pos k2]
    unfold byL
    split
    · exact .inl rfl
    · rcases turn_shape l p (fun s wh => (1, m)) (leaveB m) with h | ⟨i, h1, h2, h3, h4⟩
      · exact .inl h
      · refine .inr ⟨i, _, h1, h2, h3, .inr (.inl ?_)⟩
        simp only [leaveB, decide_eq_true_eq] at h4
        exact h4.2.symm
  rw [if_neg k2]
  by_cases k3 : kind = 3
  · rw [if_pos k3]
    rcases turn_shape l p (fun s wh => (0, -1)) (fun s wh => s == 1) with h | ⟨i, h1, h2, h3, _⟩
    · exact .inl h
    · exact .inr ⟨i, _, h1, h2, h3, .inl rfl⟩
  rw [if_neg k3]
  by_cases k4 : kind = 4
  · rw [if_pos k4]
    rcases turn_shape l p stopX (fun s wh => stopB s) with h | ⟨i, h1, h2, h3, _⟩
    · exact .inl h
    · refine .inr ⟨i, _, h1, h2, h3, ?_⟩
      unfold stopX
      split
      · exact .inl rfl
      · split
        · exact .inr (.inl rfl)
        · exact .inr (.inl rfl)
  rw [if_neg k4, if_pos (show kind = 5 by omega)]
  rcases turn_shape l p (fun s wh => goX wh) (fun s wh => s == 3) with h | ⟨i, h1, h2, h3, _⟩
  · exact .inl h
  · refine .inr ⟨i, _, h1, h2, h3, ?_⟩
    unfold goX
    split
    · exact .inl rfl
    · exact .inr (.inl rfl)
theorem one_act {l : List Pr} {kind p m : Int} (h : 0 ≤ kind ∧ kind ≤ 5) (ho : oneEach l) (hm : kind = 0 → cntW m l = 0) : oneEach (actL l kind p m) ∧ (actL l kind p m).length = l.length ∧ ∀ q : Nat, (q : Int) ≠ p → (actL l kind p m)[q]? = l[q]? := by
  rcases act_shape l kind p m h with e | ⟨i, x, rfl, hi, e, hx⟩
  · rw [e]; exact ⟨ho, rfl, fun _ _ => rfl⟩
  · rw [e]
    refine ⟨fun z hz => ?_, List.length_set, fun q hq => ?_⟩
    · have h1 := cntW_set z x l i hi
      have h2 := ho z hz
      rcases hx with hx | hx | ⟨hk, hx⟩
      · have : (x.2 == z) = false := by rw [beq_eq_false_iff_ne]; omega
        rw [this] at h1; simp at h1; omega
      · rw [hx] at h1
        omega
      · by_cases e2 : x.2 = z
        · have h3 := hm hk
          rw [hx] at e2
          subst e2
          split at h1 <;> split at h1 <;> omega
        · have : (x.2 == z) = false := by rw [beq_eq_false_iff_ne]; exact e2
          rw [this] at h1; simp at h1; omega
    · rw [List.getElem?_set_ne (by omega)]

/-- What is told of a processor. -/
def wv (x : Pr) : Int := IntKind.i64.wrap (IntKind.i64.wrap (10 * x.2) + x.1)
def ws (l : List Pr) (k : Nat) : List Int := (l.take k).map wv
theorem ws_succ (l : List Pr) (k : Nat) (h : k < l.length) : ws l (k + 1) = ws l k ++ [wv (l[k]?.getD pz)] := by
  unfold ws
  rw [List.take_succ_eq_append_getElem h, List.map_append]
  congr 1
  simp [h]
theorem ws_len (l : List Pr) (k : Nat) (h : k ≤ l.length) : (ws l k).length = k := by simp [ws]; omega
theorem ws_at (l : List Pr) (k i : Nat) (h : i < k) (hk : k ≤ l.length) : (ws l k)[i]?.getD 0 = wv (l[i]?.getD pz) := by
  have : i < l.length := by omega
  simp [ws, h, this]
theorem one_start (n : Nat) : oneEach (List.replicate n (0, -1)) := by
  intro m hm
  have : cntW m (List.replicate n ((0, -1) : Pr)) = 0 := by
    unfold cntW
    rw [List.countP_eq_zero]
    intro x hx
    rw [List.mem_replicate] at hx
    rw [hx.2]
    simp; omega
  omega
theorem get_in {l : List Pr} {k : Nat} (h : k < l.length) : getL l (k : Int) = (l[k]?.getD pz).1 ∧ whoL l (k : Int) = (l[k]?.getD pz).2 := by
  unfold getL whoL
  rw [if_pos ⟨by omega, by omega⟩, if_pos ⟨by omega, by omega⟩, Int.toNat_natCast]
  exact ⟨rfl, rfl⟩
end Go.Proofs.Ytcjgdnlacfpioaa.Pstat
