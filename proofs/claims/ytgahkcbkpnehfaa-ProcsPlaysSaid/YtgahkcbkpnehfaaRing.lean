/- Chapter 13: the ring in memory; the contracts of row, at, Next, Size, Len. -/
import Derived.Test.YtgahkcbkpnehfaaQueue
namespace Go.Proofs.Ytgahkcbkpnehfaa.Ring
open Go.RowKit Go.Esc

/-- The ring in memory, at block b, its places in block g: the next one, head, tail, and what lies at the places. -/
structure Rg (w : World) (b g size : Nat) (nx : Int) (hd tl : Nat) (F : Nat → Int) : Prop where
  blk : Blk w b #[.int .i64 nx, .slice (some ⟨g, 0, none⟩) size size, .int .u32 hd, .int .u32 tl] 81
  cells : Cells w g size 3 (fun i => .int .i64 (F i))
  ne : b ≠ g
  hlt : hd < size
  hle : hd ≤ tl
  tle : tl ≤ hd + size
  lo : 2 ≤ size
  hi : size ≤ 256
  nx0 : 0 ≤ nx

theorem Rg.cell0 {w : World} {b g size : Nat} {nx : Int} {hd tl : Nat} {F : Nat → Int} (h : Rg w b g size nx hd tl F) : w.cell? ⟨b, 0, none⟩ = some (.int .i64 nx) := h.blk.cell 0
theorem Rg.cell1 {w : World} {b g size : Nat} {nx : Int} {hd tl : Nat} {F : Nat → Int} (h : Rg w b g size nx hd tl F) : w.cell? ⟨b, 1, none⟩ = some (.slice (some ⟨g, 0, none⟩) size size) := h.blk.cell 1
theorem Rg.cell2 {w : World} {b g size : Nat} {nx : Int} {hd tl : Nat} {F : Nat → Int} (h : Rg w b g size nx hd tl F) : w.cell? ⟨b, 2, none⟩ = some (.int .u32 hd) := h.blk.cell 2
theorem Rg.cell3 {w : World} {b g size : Nat} {nx : Int} {hd tl : Nat} {F : Nat → Int} (h : Rg w b g size nx hd tl F) : w.cell? ⟨b, 3, none⟩ = some (.int .u32 tl) := h.blk.cell 3
theorem Rg.drewN {w : World} {b g size : Nat} {nx : Int} {hd tl : Nat} {F : Nat → Int} (h : Rg w b g size nx hd tl F) (n : Nat) : Rg (w.drewN n) b g size nx hd tl F := ⟨h.blk, h.cells, h.ne, h.hlt, h.hle, h.tle, h.lo, h.hi, h.nx0⟩

def IntQ (x : Int) (w : World) (e : Ending) (w' : World) : Prop := e = .returned (.int .i64 x) ∧ ∃ n, w' = w.drewN n

set_option maxHeartbeats 1000000 in
theorem row_any (b g size : Nat) (nx : Int) (hd tl : Nat) (F : Nat → Int) (w : World) (h : Rg w b g size nx hd tl F) : Calls Try.prog 58 #[.pointer (some ⟨b, 0, none⟩)] w (IntQ ((tl - hd : Nat) : Int) w) := by
  have c2 := h.cell2
  have c3 := h.cell3
  have h1 := h.hlt
  have h2 := h.hle
  have h3 := h.tle
  have h4 := h.hi
  clear h
  obtain ⟨n, hn⟩ : ∃ n, n = tl - hd := ⟨_, rfl⟩
  have e1 : IntKind.u32.wrap ((tl : Int) - hd) = n := by rw [IntWalk.u32_in _ (by omega)]; omega
  have e2 : IntKind.i64.wrap (n : Int) = n := IntWalk.i64_in _ (by omega)
  rw [← hn]
  have HN := Lib.hid hn
  clear hn h1 h2 h3
  go_enter Try.func58, Try.ntmps58
  go_wp2
  go_quiet (fail)
  go_wp2
  go_ret
  exact ⟨rfl, _, rfl⟩

set_option maxHeartbeats 1000000 in
theorem at_any (b g size : Nat) (nx : Int) (hd tl : Nat) (F : Nat → Int) (k : Nat) (w : World) (h : Rg w b g size nx hd tl F) (hk : k ≤ size) : Calls Try.prog 60 #[.pointer (some ⟨b, 0, none⟩), .int .i64 k] w fun e w' => e = .returned (.pointer (some ⟨g, (hd + k) % size, none⟩)) ∧ ∃ n, w' = w.drewN n := by
  have c1 := h.cell1
  have c2 := h.cell2
  have h1 := h.hlt
  have h4 := h.hi
  have h5 := h.lo
  clear h
  obtain ⟨j, hj⟩ : ∃ j, j = (hd + k) % size := ⟨_, rfl⟩
  have hjs : j < size := by rw [hj]; exact Nat.mod_lt _ (by omega)
  have e1 : IntKind.i64.wrap ((hd : Int) + k) = (hd : Int) + k := IntWalk.i64_in _ (by omega)
  have e0 : IntKind.i64.wrap (hd : Int) = (hd : Int) := IntWalk.i64_in _ (by omega)
  have e2 : ((hd : Int) + k).tmod size = (j : Int) := by rw [hj]; norm_cast
  have hz : ((size : Int) == 0) = false := by rw [beq_eq_false_iff_ne]; omega
  rw [← hj]
  have HJ := Lib.hid hj
  have hjz : (j : Int) < (size : Int) := by omega
  clear hj
  go_enter Try.func60, Try.ntmps60
  go_wp2
  go_quiet (fail)
  go_wp2
  go_ret
  exact ⟨rfl, _, rfl⟩

set_option maxHeartbeats 1000000 in
theorem next_any (b g size : Nat) (nx : Int) (hd tl : Nat) (F : Nat → Int) (w : World) (h : Rg w b g size nx hd tl F) : Calls Try.prog 39 #[.pointer (some ⟨b, 0, none⟩)] w fun e w' => e = .returned (.int .i64 nx) ∧ w = w' := by
  have c0 := h.cell0
  clear h
  go_enter Try.func39, Try.ntmps39
  go_wp2
  go_ret
  exact ⟨rfl, rfl⟩

set_option maxHeartbeats 1000000 in
theorem size_any (b g size : Nat) (nx : Int) (hd tl : Nat) (F : Nat → Int) (w : World) (h : Rg w b g size nx hd tl F) : Calls Try.prog 40 #[.pointer (some ⟨b, 0, none⟩)] w fun e w' => e = .returned (.int .i64 size) ∧ w = w' := by
  have c1 := h.cell1
  clear h
  go_enter Try.func40, Try.ntmps40
  go_wp2
  go_ret
  exact ⟨rfl, rfl⟩

/-- The row of a ring, and all who wait there. -/
def rowL (size hd tl : Nat) (F : Nat → Int) : List Int := (List.range (tl - hd)).map fun k => F ((hd + k) % size)
def allL (nx : Int) (row : List Int) : List Int := (if 0 < nx then [nx] else []) ++ row
theorem rowL_len (size hd tl : Nat) (F : Nat → Int) : (rowL size hd tl F).length = tl - hd := by simp [rowL]

set_option maxHeartbeats 1000000 in
theorem len_any (b g size : Nat) (nx : Int) (hd tl : Nat) (F : Nat → Int) (w : World) (h : Rg w b g size nx hd tl F) : Calls Try.prog 38 #[.pointer (some ⟨b, 0, none⟩)] w (IntQ ((allL nx (rowL size hd tl F)).length) w) := by
  have HL : Hid ((allL nx (rowL size hd tl F)).length = (if 0 < nx then 1 else 0) + (tl - hd)) := by show _ = _; rw [allL, List.length_append, rowL_len]; split <;> rfl
  have HN := Lib.hid (next_any b g size nx hd tl F w h)
  have HR := Lib.hid (row_any b g size nx hd tl F w h)
  have h3 := h.tle
  have h4 := h.hi
  clear h
  obtain ⟨n, hn⟩ : ∃ n, n = tl - hd := ⟨_, rfl⟩
  rw [HL.out]
  rw [← hn] at HR ⊢
  have hnb : n ≤ 256 := by omega
  clear hn h3
  by_cases hx : 0 < nx
  · rw [if_pos hx]
    go_enter Try.func38, Try.ntmps38
    go_wp2_with fail
    refine HN.out.mono ?_
    rintro e w1 ⟨rfl, rfl⟩
    go_wp2_with fail
    refine HR.out.mono ?_
    rintro e w1 ⟨rfl, m, rfl⟩
    go_wp2_with fail
    go_ret
    exact ⟨ret_int (by omega), m, rfl⟩
  · rw [if_neg hx]
    have hd : decide (0 < nx) = false := by simpa using hx
    go_enter Try.func38, Try.ntmps38
    go_wp2_with fail
    refine HN.out.mono ?_
    rintro e w1 ⟨rfl, rfl⟩
    go_wp2_with fail
    refine HR.out.mono ?_
    rintro e w1 ⟨rfl, m, rfl⟩
    go_wp2_with fail
    go_ret
    exact ⟨ret_int (by omega), m, rfl⟩

end Go.Proofs.Ytgahkcbkpnehfaa.Ring
